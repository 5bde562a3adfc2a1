/- Lemmas over the model, without conditions of their own: the ideal machine, and code run on expressions. -/
import Derived.Test.YtabefplkfkfdfaaGreatPAf
import Derived.Test.YtabefplkfkfdfaaGreatPAe
import Derived.KernelRfl
import Derived.Test.YtabefplkfkfdfaaGreatProg
import Derived.Test.YtabefplkfkfdfaaGreatPAc
import Derived.Shelf.Strings.Search3
import Derived.Test.YtabefplkfkfdfaaGreatPAb
import Derived.Laws.RangeAny
import Derived.RangeFuncNested
import Derived.RangeFuncBound
import Derived.RangeFuncCalls
import Derived.RangeFuncLeaves
import Derived.RangeFuncBox
import Derived.Shelf.Abstract
import Derived.Shelf.RegionOpen
import Derived.WalkKit
import Derived.OwnWalkIn
import Derived.TacticsInMore
import Derived.LoopNIn
import Derived.LoopIn
import Derived.Maps.OwnIn
import Derived.Maps.AppendAt
open Nat renaming rec->aCc,eq_of_beq_eq_true->ay0,le_refl->ayL,ble->azK,beq->ayQ,zero_add->aAn,add_zero->aD8,le_trans->ay6,reduceAdd->aAO,reduceSub->aAP
open List renaming append_assoc->ay3,getElem?_append_right->aze,getElem?_cons_zero->az8,drop_of_length_le->azf,getElem_mem->ayJ,drop_eq_getElem_cons->ay5,drop_zero->aBF,getElem?_eq_some_iff->ayH,getElem?_eq_getElem->ayG,mem_of_getElem?->ayX,eq_nil_of_length_eq_zero->azb,getElem?_cons_succ->aBz,length->azj,map_cons->azr,getElem?_map->ay1,flatten_cons->aA9,getElem?_append_left->ayZ,cons_append->azO,length_map->azq,mem_map->ay8,sizeOf_lt_of_mem->azG,take_succ_eq_append_getElem->ayN,mem_append->ayS,take_of_length_le->ayV,all_eq_false->aC7,mem_cons->ayW,take_append_drop->azW,mem_singleton->ayU,all_eq_true->ayY,nil_append->azN,map_nil->aAW,mem_append_left->azw,mem_append_right->azH,map_map->aCe,flatten_append->azI,flatten_nil->aB7,append_nil->ay2,length_append->ayP,size_toArray->aAj,length_cons->azh,length_nil->aAm,push_toArray->aAk,append_toArray->az_
open Option.some renaming injEq->ayO
open Prod.mk renaming injEq->aAt
open Bool renaming false_eq_true->azi,and_eq_true->ayI
open Option renaming map_some->azl,bind_some->ayK,map_eq_some_iff->ayR,bind_eq_some_iff->ay4
open List.cons renaming injEq->aBb
open Go.Proofs.Tryz renaming prog->ayF,underlying82->aC9,func245->aD2,ntmps245->aDT
open Iff renaming rfl->aBG
open Go.IntKind renaming i64->azc,wrap->aDk,bits->aDl,signed->aCT,u8->aDS
open Go renaming binOp->aAu,undef->azm
open Go.Op renaming equalIn->azE,equal->aA8
open ByteArray renaming size->aBy,getElem_eq_getElem_data->aD_
open Go.Proofs.Lays renaming n144->aD1
open Go.Lib renaming indexByte->aBP
open Go.Utf8 renaming decode->aAc
open Ne renaming symm->aCy
open Classical renaming em->aC8
open Go.Instr renaming findAsking->azt,findKey->azR,sameBits->aAD
open Array renaming replicate_succ->az4,replicate_zero->az5
open Go.Value renaming slice->aCz
open Go.World renaming grownBy_alloc->aBh
open Go.RowKit.Below renaming refl->aAF
open Go.Value.agg renaming injEq->aCI
open Array.mk renaming injEq->aCU
open Option renaming some->aa,none->ah
open Bool renaming true->ab,false->af
set_option linter.all false
namespace Go.Proofs.YtabefplkfkfdfaaGreat
open Go Go.Ev
section
variable{n:Nat}{new:Bool}{f:FuncId}{dv:aq}{args:List IV}{cfg:fe}
def CC.Ix{Q:IV->Prop}(he:aI ayF cfg n new f=dv)(hl:(ayF.funcs[f]?).map (·.params.size)=aa args.length)(ht:∀z,Q z->oP ayF f z=ab)(hp:∀x∈args,Pure x)(hz:∀z,Q z->Pure z)(hn:noTwo dv=ab)
 (hs:dv.sat ayF CC Q [] args):∃z,Q z/\CC f new args z:=by
 obtain⟨z,h1,h2⟩:=LW hn hs;exact⟨z,h1,CC.of he hl (ht z h1) hp (hz z h1) h2⟩
def xV(p:Bool->Prop)(z:IV):Prop:=∃b:Bool,z=iB b/\p b
@[simp] theorem axB(p:Bool->Prop)(b:Bool):xV p (iB b)↔p b:=⟨λ⟨b',h1,h2⟩=>by cases h1;exact h2,λh=>⟨b,rfl,h⟩⟩
def CC.GO(p:Bool->Prop)(he:aI ayF cfg n new f=dv)(hl:(ayF.funcs[f]?).map (·.params.size)=aa args.length)(ht:∀z,oP ayF f z=ab)(hp:∀x∈args,Pure x)(hn:noTwo dv=ab)
 (hs:dv.sat ayF CC (xV p) [] args):∃b,p b/\CC f new args (iB b):=by
 obtain⟨z,⟨b,rfl,hb⟩,h2⟩:=CC.Ix he hl (λz _=>ht z) hp (by rintro _ ⟨b,rfl,_⟩;exact .raw _) hn hs;exact⟨b,hb,h2⟩
abbrev sb(c:Int):IV:=.raw (.int .u8 c)
@[simp] theorem ax6(t:TypeId)(a b:Int):dg ayF .lss t (sb a) (sb b)=aa (iB (decide (a<b))):=rfl
@[simp] theorem ax7(t:TypeId)(a b:Int):dg ayF .gtr t (sb a) (sb b)=aa (iB (decide (a>b))):=rfl
@[simp] theorem ax8(t:TypeId)(a b:Int):dg ayF .leq t (sb a) (sb b)=aa (iB (decide (a<=b))):=rfl
@[simp] theorem ax9(t:TypeId)(a b:Int):dg ayF .geq t (sb a) (sb b)=aa (iB (decide (a≥b))):=rfl
@[simp] theorem ax_(t:TypeId)(a b:Int):dg ayF .neq t (sb a) (sb b)=aa (iB (a !=b)):=rfl
@[simp] theorem aya(t:TypeId)(a b:List UInt8):dg ayF .eql t (iS a) (iS b)=aa (iB (a==b)):=by
  show aa (IV.bool (a.toArray.toList==b.toArray.toList))=_;simp
@[simp] theorem am9(l:List UInt8):AO (iS l)=aa (iI l.length):=by
  simp[AO,aBy]
end
def GP(n:Int):List Int->Nat->Int
 |[],_=> -1
 |x::l,i=>if n=x then i else GP n l (i+1)
theorem VI(n:Int):∀(l:List Int) (i:Nat),decide (0<=GP n l i)=l.contains n
 |[],_=>rfl
 |x::l,i=>by
  by_cases h:n=x
  .simp[GP,h]
  .have:=VI n l (i+1);simp[GP,h]at this⊢;exact this
def avJ(l:List Int)(n:Int)(hl:Sm l):CC 162 af [iL l,iI n] (iI (GP n l 0)):=by
 refine CC.of arN kr kr aw aw ?_;simp[adf,SE.den];refine gS l.length (λi (_:Unit)=>[iI i]) (λi _=>GP n l 0=GP n (l.drop i) i) () ?_ ?_ λi _ hi hI=>?_
 .simp[SE.den]
 .simp
 by_cases ak:i<l.length
 .rw[ay5 ak]at hI;have hw:=aH ak hl;simp[SE.den,ak,hw];by_cases h:n=l[i]
  .left;exact⟨h,by rw[hI];simp[GP,h]⟩
  .right;simp[h,hI,GP];omega
 .simp[SE.den,ak];rw[hI,azf aj];rfl
def Tm.k:Tm->Int|.mk k _ _ _=>k
def Tm.n:Tm->Int|.mk _ n _ _=>n
def Tm.s:Tm->List UInt8|.mk _ _ s _=>s
def Tm.ts:Tm->List Tm|.mk _ _ _ ts=>ts
def bG(t:Tm):eE t=.agg [iI t.k,iI t.n,iS t.s,iT t.ts]:=by cases t;exact xU _ _ _ _
def rk(k:Int):Int:=if k=1 then 0 else if k=0 then 1 else if k=2 then 2 else 3
mutual
def Dq:Tm->Prop
 |.mk _ _ _ ts=>Sm ts/\VJ ts
def VJ:List Tm->Prop
 |[]=>True
 |t::l=>Dq t/\VJ l
end
theorem VK:∀l:List Tm,VJ l↔∀t∈l,Dq t
 |[]=>by simp[VJ]
 |t::l=>by simp[VJ,VK l]
def E3(t:Tm):Dq t↔Sm t.ts/\∀u∈t.ts,Dq u:=by cases t;simp[Dq,VK,Tm.ts]
def avK{l:List At}{i:Nat}(h:i<l.length):cb 2 (dm l) (iI (i:Nat))=aa (dN l[i]):=cM (by simp[h]) rfl
def ng{l:List Tm}{i:Nat}(h:i<l.length):cb 4 (iT l) (iI (i:Nat))=aa (eE l[i]):=cM (by simp[h]) (by rw[bG];rfl)
def bZ(t:Tm):List Tm:=if t.k=2 then t.ts else[]
def agd(t:Tm):CC 184 af [eE t] (iT (bZ t)):=by
 refine CC.of arO kr kr (by simp[sa]) aw ?_;simp[adg,SE.den,bG,ao,bZ];by_cases h:t.k=2
 .left;simp[h]
 .right;simp[h]
mutual
def sS:Tm->Int
 |.mk k _ _ ts=>if k=2 then wN 1 ts else 1
def wN:Int->List Tm->Int
 |acc,[]=>acc
 |acc,t::l=>wN (azc.wrap (acc+sS t)) l
end
def VL(t:Tm):sS t=wN 1 (bZ t):=by
 obtain⟨k,n,s,ts⟩:=t;show sS (.mk k n s ts)=wN 1 (if k=2 then ts else[]);by_cases hk:k=2<;>simp[sS,hk,wN]
def sc{t u:Tm}(h:u∈bZ t):u∈t.ts:=by
 unfold bZ at h;split at h
 .exact h
 .simp at h
def f158(t:Tm)(hl:Sm t.ts)(hc:∀u∈t.ts,CC 136 af [eE u] (iI (sS u))):CC 136 af [eE t] (iI (sS t)):=by
 refine CC.of arP kr kr (by simp[sa]) aw ?_;have h:=agd t;rw[bG]at h;simp[adh,SE.den,bG,ao];refine⟨_,h,?_⟩;simp[SE.den];have ef:(bZ t).length<=9223372036854775807:=by unfold bZ;split<;>simp_all
 refine gS (bZ t).length (λi (a:Int)=>[iI i,iI a]) (λi a=>sS t=wN a ((bZ t).drop i)) 1 ?_ ?_ λi a hi hI=>?_
 .simp[SE.den]
 .simp[VL]
 by_cases ak:i<(bZ t).length
 .rw[ay5 ak,wN]at hI;have hw:=aH ak ef;have hm:(bZ t)[i]∈t.ts:=sc (ayJ ak);have h3:=hc _ hm;rw[bG]at h3;simp[SE.den,ak,hw,ng ak,bG,ao];refine⟨_,h3,?_⟩;simp[SE.den,hw];exact⟨by omega,hI⟩
 .simp[SE.den,ak];rw[hI,azf aj,wN]
theorem aa3:∀t:Tm,Dq t->CC 136 af [eE t] (iI (sS t))
 |.mk k n s ts,hw=>f158 _ ((E3 _).1 hw).1 λu hu=>aa3 u (((E3 _).1 hw).2 u hu)
 decreasing_by simp[Tm.ts]at hu;have:=azG hu;simp;omega
def NN:Int->List Tm->Bool
 |_,[]=>ab
 |acc,t::l=>if 60<azc.wrap (acc+sS t)then af else NN (azc.wrap (acc+sS t)) l
def Dr(l:List Tm):Bool:=if 8<l.length then af else NN 0 l
def am_(l:List Tm)(hw:∀t∈l,Dq t):CC 69 af [iT l] (iB (Dr l)):=by
 refine CC.of arQ kr kr aw aw ?_;simp[adi,SE.den];by_cases h8:8<l.length
 .left;exact⟨by omega,by simp[Dr,h8]⟩
 right;refine⟨by omega,?_⟩;refine gS l.length (λi (a:Int)=>[iI i,iI a]) (λi a=>Dr l=NN a (l.drop i)) 0 ?_ ?_ λi a hi hI=>?_
 .simp[SE.den]
 .simp[Dr,h8]
 by_cases ak:i<l.length
 .rw[ay5 ak,NN]at hI;have pC:=aH ak aj;have h3:=aa3 l[i] (hw _ (ayJ ak));rw[bG]at h3;simp[SE.den,ak,pC,ng ak,bG,ao];refine⟨_,h3,?_⟩;simp[SE.den,pC];by_cases hs:60<azc.wrap (a+sS l[i])
  .left;exact⟨hs,by rw[hI,if_pos hs]⟩
  .right;exact⟨by omega,by omega,by rw[hI,if_neg hs]⟩
 .simp[SE.den,ak];rw[hI,azf aj,NN]
mutual
def kQ:Tm->Prop
 |.mk _ _ s ts=>Sm s/\Sm ts/\VM ts
def VM:List Tm->Prop
 |[]=>True
 |t::l=>kQ t/\VM l
end
theorem VN:∀l:List Tm,VM l↔∀t∈l,kQ t
 |[]=>by simp[VM]
 |t::l=>by simp[VM,VN l]
def pc(t:Tm):kQ t↔Sm t.s/\Sm t.ts/\∀u∈t.ts,kQ u:=by cases t;simp[kQ,VN,Tm.ts,Tm.s]
theorem kQ.wf:∀t:Tm,kQ t->Dq t
 |.mk k n s ts,h=>(E3 _).2 ⟨((pc _).1 h).2.1,λu hu=>kQ.wf u (((pc _).1 h).2.2 u hu)⟩
 decreasing_by simp[Tm.ts]at hu;have:=azG hu;simp;omega
mutual
def dS:Tm->Prop
 |.mk k n _ ts=>(k=1->0<=n/\n<=1048576)/\(k=2->Iy ts)
def Iy:List Tm->Prop
 |[]=>True
 |t::l=>dS t/\Iy l
end
theorem NO:∀l:List Tm,Iy l↔∀t∈l,dS t
 |[]=>by simp[Iy]
 |t::l=>by simp[Iy,NO l]
def Ds(t:Tm):dS t↔(t.k=1->0<=t.n/\t.n<=1048576)/\(t.k=2->∀u∈t.ts,dS u):=by cases t;simp[dS,NO,Tm.ts,Tm.k,Tm.n]
def adN{t u:Tm}(h:dS t)(hu:u∈bZ t):dS u:=by
 unfold bZ at hu;split at hu
 .exact((Ds t).1 h).2 (by assumption) u hu
 .simp at hu
def cy{α:Type}{p:α->Prop}{l:List α}{i:Nat}(h:i<l.length)(h1:∀u∈l.take i,p u)(h2:p l[i]):∀u∈l.take (i+1),p u:=by
 intro u hu;rw[ayN h]at hu;rcases ayS.1 hu with hu|hu
 .exact h1 u hu
 .simp at hu;subst hu;exact h2
def dj{α:Type}{p:α->Prop}{l:List α}{i:Nat}(h:¬i<l.length)(h1:∀u∈l.take i,p u):∀u∈l,p u:=by
 rwa[ayV aj]at h1
structure Gl where
 op:Int
 s:List UInt8
 ts:List Tm
structure Rl where
 name:List UInt8
 ax:List At
 az:List At
 aG:List Gl
 bn:List Gl
 vars:Int
structure De where
 s:List UInt8
 n:Int
structure Pg where
 bM:List De
 aQ:List Rl
def l9(g:Gl):IV:=.agg [iI g.op,iS g.s,iT g.ts]
abbrev gO(l:List Gl):IV:=.tree 3 (l.map l9)
def cN(r:Rl):IV:=.agg [iS r.name,dm r.ax,dm r.az,gO r.aG,gO r.bn,iI r.vars]
abbrev mN(l:List Rl):IV:=.tree 6 (l.map cN)
def xW(d:De):IV:=.agg [iS d.s,iI d.n]
abbrev gj(l:List De):IV:=.tree 2 (l.map xW)
def bg(p:Pg):IV:=.agg [gj p.bM,mN p.aQ]
def Iz(a:Gl):Pure (l9 a):=.agg _ aw
@[simp] theorem age(l:List Gl):Pure (gO l):=jD 3 l9 (λa=>⟨_,rfl,by simp⟩) l
def iQ(a:Rl):Pure (cN a):=.agg _ aw
@[simp] theorem avL(l:List Rl):Pure (mN l):=jD 6 cN (λa=>⟨_,rfl,by simp⟩) l
@[simp] theorem LX(l:List De):Pure (gj l):=jD 2 xW (λa=>⟨_,rfl,by simp⟩) l
def du(a:Pg):Pure (bg a):=.agg _ aw
def qq(a:At):Prop:=Sm a.s/\Sm a.ts/\∀t∈a.ts,kQ t
def pd(a:Gl):Prop:=Sm a.s/\Sm a.ts/\∀t∈a.ts,kQ t
def jV(op:Int):Int:=if op=1\/op=2 then 0 else if op=11\/op=12 then 1 else if 2<op/\op<11 then 2 else-1
def avM(op:Int):CC 139 af [iI op] (iI (jV op)):=by
 refine CC.of ase kr kr aw aw ?_;simp[adE,SE.den,jV]
 grind
def Px{l:List De}{i:Nat}(h:i<l.length):cb 2 (gj l) (iI (i:Nat))=aa (.agg [iS l[i].s,iI l[i].n]):=cM (by simp[h,xW]) rfl
def xX{l:List Gl}{i:Nat}(h:i<l.length):cb 3 (gO l) (iI (i:Nat))=aa (.agg [iI l[i].op,iS l[i].s,iT l[i].ts]):=cM (by simp[h,l9]) rfl
def kf:ayF.funcs.size=306:=by kernel_rfl
end Go.Proofs.YtabefplkfkfdfaaGreat
namespace Go.Proofs.YtabefplkfkfdfaaGreat
open Go.Shelf
def Tryz.Xj:Go.Shelf.Ren:=⟨λ|144=>280|143=>281|219=>282|217=>283|225=>284|224=>285|267=>286|266=>287|314=>288|n=>n,λ|9=>9|4=>4|3=>3|5=>5|46=>33|146=>298|51=>267|n=>n,λ|1=>0|n=>n⟩
def Tryz.lays144:aD1 ayF Tryz.Xj:={
 mixed:=by kernel_rfl
 f143:=Tryz.func281.trans (congrArg aa (by kernel_rfl))
 f144:=Tryz.func280.trans (congrArg aa (by kernel_rfl))
 f217:=Tryz.func283.trans (congrArg aa (by kernel_rfl))
 f219:=Tryz.func282.trans (congrArg aa (by kernel_rfl))
 f224:=Tryz.func285.trans (congrArg aa (by kernel_rfl))
 f225:=Tryz.func284.trans (congrArg aa (by kernel_rfl))
 f266:=Tryz.func287.trans (congrArg aa (by kernel_rfl))
 f267:=Tryz.func286.trans (congrArg aa (by kernel_rfl))
 f314:=Tryz.func288.trans (congrArg aa (by kernel_rfl))
 t3:=Tryz.underlying3
 a3:=Tryz.isAgg3
 z3:=Tryz.sizeOf3
 v3:=Tryz.zeroValue3
 t4:=Tryz.underlying4
 a4:=Tryz.isAgg4
 z4:=Tryz.sizeOf4
 v4:=Tryz.zeroValue4
 t5:=Tryz.underlying5
 a5:=Tryz.isAgg5
 z5:=Tryz.sizeOf5
 v5:=Tryz.zeroValue5
 t9:=Tryz.underlying9
 a9:=Tryz.isAgg9
 z9:=Tryz.sizeOf9
 v9:=Tryz.zeroValue9
 t46:=Tryz.underlying33
 a46:=Tryz.isAgg33
 z46:=Tryz.sizeOf33
 v46:=Tryz.zeroValue33
 t51:=Tryz.underlying267
 a51:=Tryz.isAgg267
 z51:=Tryz.sizeOf267
 v51:=Tryz.zeroValue267
 t146:=Tryz.underlying298
 a146:=Tryz.isAgg298
 z146:=Tryz.sizeOf298
 v146:=Tryz.zeroValue298
 g1:=by kernel_rfl}
open Go.RowKit Go.Lib in
theorem Tryz.strings_Contains_one(s:ByteArray)(c:UInt8)(w:World):
 Calls ayF 280 #[.string s,.string ⟨#[c]⟩] w λe w'=>e=.returned (.bool (decide (0<=aBP s.data.toList c)))/\w'=w:=Any.strings_Contains_one Tryz.lays144 s c w
open Go.Ev in
def avN(s:List UInt8)(c:UInt8):eK ayF af af 280 [.raw (.string ⟨s.toArray⟩),.raw (.string ⟨#[c]⟩)] (.raw (.bool (decide (0<=aBP s c)))):=by
 intro M w us hM yX
 have avO:us=[.string ⟨s.toArray⟩,.string ⟨#[c]⟩]:=by
  obtain⟨hl,hr⟩:=yX
  match us,hl with
  |[a,b],_=>
   have h1:=hr 0 _ a rfl rfl;have h2:=hr 1 _ b rfl rfl;cases h1;cases h2;rfl
 subst avO;refine(callsIn_wide.2 (Tryz.strings_Contains_one ⟨s.toArray⟩ c w)).mono ?_;rintro e w' ⟨rfl,rfl⟩;exact⟨rfl,M,hM,λb c h=>.inl ⟨rfl,h⟩,λ_ b c h=>h,.raw _,rfl,rfl,rfl,ayL _,λ_ _=>rfl⟩
end Go.Proofs.YtabefplkfkfdfaaGreat
namespace Go.Proofs.YtabefplkfkfdfaaGreat
open Go Go.Ev
@[simp] theorem ayb(t:TypeId)(a b:Int):dg ayF .eql t (sb a) (sb b)=aa (iB (a==b)):=rfl
@[simp] theorem ayc(t:TypeId)(a b:Int):dg ayF .gtr t (.raw (.int .i32 a)) (.raw (.int .i32 b))=aa (iB (decide (a>b))):=rfl
@[simp] theorem ayd(g:Int):M9 ayF 21 5 (.raw (.int .i32 g))=aa (sb (aDS.wrap g)):=by kernel_rfl
@[simp] theorem aye(l:List UInt8)(p:Nat):kO 0 (iS l) (iI (p:Nat))=aa (iB (decide (p<l.length))):=by simp[kO,aBy]
@[simp] theorem ayf(l:List UInt8)(p:Nat):kO 1 (iS l) (iI (p:Nat))=aa (.raw (.int .i32 (aAc ⟨l.toArray⟩ p).1)):=by simp[kO]
@[simp] theorem ayg(l:List UInt8)(p:Nat):kO 2 (iS l) (iI (p:Nat))=aa (iI ((p+(aAc ⟨l.toArray⟩ p).2:Nat):Int)):=by simp[kO]
section
variable{n:Nat}{new:Bool}{f:FuncId}{dv:aq}{args:List IV}{cfg:fe}
def CC.cZ{s:Bool}(he:aI ayF cfg n new f=dv)(hl:(ayF.funcs[f]?).map (·.params.size)=aa args.length)(ht:∀z,oP ayF f z=ab)(hp:∀x∈args,Pure x)(hn:noTwo dv=ab)
 (hs:dv.sat ayF CC (xV (·=s)) [] args):CC f new args (iB s):=by
 obtain⟨b,rfl,h⟩:=CC.GO (·=s) he hl ht hp hn hs;exact h
def sg(c:Int):Bool:=decide (97<=c/\c<=122)
def D7(c:Int):Bool:=decide (65<=c/\c<=90)
def oa(c:Int):Bool:=sg c||D7 c||decide (48<=c/\c<=57)||decide (c=95)
def IA(s:List UInt8):Bool:=s==[99,111,110,115,116,114,97,105,110,116]||s==[116,114,117,101]||s==[102,97,105,108]||s==[105,115]||s==[105,110,116]||s==[103,114,111,117,110,100]
def uA(s:List UInt8):Bool:=s==[43]||s==[45]||s==[42]||s==[47]||s==[37]
def wO(s:List UInt8):Bool:=s.all (λc=>oa c.toNat)&&(decide (1<=s.length)&&decide (s.length<=40))
def gZ(s:List UInt8):Bool:=wO s&&sg ((s.headD 0).toNat:Int)&& !IA s
def v148(c:Int):CC 71 af [sb c] (iB (sg c)):=by
 refine CC.cZ ar3 kr (λ_=>kr) aw (by rfl) ?_;simp[adt,SE.den,sg];omega
def v198(c:Int):CC 137 af [sb c] (iB (D7 c)):=by
 refine CC.cZ ar4 kr (λ_=>kr) aw (by rfl) ?_;simp[adu,SE.den,D7];omega
def avP(c:List UInt8):CC 72 af [iS c] (iB (IA c)):=by
 refine CC.cZ ar5 kr (λ_=>kr) aw (by rfl) ?_;simp[adv,SE.den,IA]
 grind
def avQ(c:List UInt8):CC 257 af [iS c] (iB (uA c)):=by
 refine CC.cZ asa kr (λ_=>kr) aw (by rfl) ?_;simp[adB,SE.den,uA]
 grind
def aj7(c:Int):oa c=ab↔sg c=ab\/D7 c=ab\/(48<=c/\c<=57)\/c=95:=by simp[oa,or_assoc]
def avR(c:List UInt8)(hc:Sm c):CC 70 af [iS c] (iB (wO c)):=by
 refine CC.cZ ar2 kr (λ_=>kr) aw (by rfl) ?_;simp[ads,Vz,SE.den];refine gS c.length (λi (_:Unit)=>[iI i]) (λi _=>∀u∈c.take i,oa u.toNat=ab) () ?_ ?_ λi _ hi hI=>?_
 .simp[SE.den]
 .simp
 by_cases ak:i<c.length
 .have hw:=aH ak hc;have h1:=v148 c[i].toNat;have h2:=v198 c[i].toNat
  have gx:¬oa c[i].toNat=ab->wO c=af:=λh=>by
   unfold wO;rw[Bool.and_eq_false_iff];left;rw[aC7];exact⟨c[i],ayJ ak,by simpa using h⟩
  have VO:=λh=>cy (p:=λu:UInt8=>oa u.toNat=ab) ak hI h;rw[aj7]at gx VO;simp[SE.den,ak,hw];refine⟨_,h1,?_⟩;cases cd:sg c[i].toNat with
  |true=>simp;exact⟨by omega,VO (.inl cd)⟩
  |false=>
   simp;refine⟨_,h2,?_⟩;cases dw:D7 c[i].toNat with
   |true=>simp;exact⟨by omega,VO (.inr (.inl dw))⟩
   |false=>
    simp[cd,dw]at VO gx⊢;have ct:i+1<=c.length:=aj;generalize(∀u∈c.take (i+1),oa u.toNat=ab)=A at VO⊢;have zR:i+1<=c.length/\A↔A:=by simp[ct]
    grind
 .have:=dj ak hI;simp[SE.den,ak,wO];have ha:(c.all λc=>oa c.toNat)=ab:=by simpa using this
  simp only[ha,Bool.true_and];by_cases h1:1<=c.length
  .left;refine⟨by omega,?_⟩;simp[h1];omega
  .right;exact⟨by omega,λ_ h=>absurd h h1⟩
def adO{c:List UInt8}(h:wO c=ab):0<c.length:=by
 simp[wO]at h;omega
def YE(c:List UInt8)(hc:Sm c):CC 26 af [iS c] (iB (gZ c)):=by
 refine CC.cZ avD kr (λ_=>kr) aw (by rfl) ?_;have h1:=avR c hc;have h3:=avP c;simp[aik,SE.den];refine⟨_,h1,?_⟩;cases hw:wO c with
 |false=>simp[gZ,hw]
 |true=>
  have hl:=adO hw;have h2:=v148 c[0].toNat;have h0:c.headD 0=c[0]:=by cases c with|nil=>simp at hl|cons=>rfl
  have hn:gZ c=(wO c&&sg c[0].toNat&& !IA c):=by rw[<-h0];rfl
  rw[hn];simp[hl];refine⟨_,h2,?_⟩;cases hb:sg c[0].toNat with
  |false=>simp
  |true=>
   simp;exact⟨_,h3,by simp[hw]⟩
def avS(s:List UInt8):CC 192 af [iS s] (iB (IA s)):=by
 refine CC.cZ arX kr (λ_=>kr) aw (by rfl) ?_;simp[adn,SE.den,IA]
 grind (splits:=40)
def GQ(c:Int):Int:=if sg c then 1 else if D7 c||decide (c=95)then 2 else if decide (48<=c/\c<=57)then 4 else 0
def ana(c:Int):CC 227 af [sb c] (sb (GQ c)):=by
 refine CC.of arW kr kr aw aw ?_;simp[adm,SE.den,GQ,sg,D7]
 grind (splits:=40)
def avT(s:List UInt8):CC 268 af [iS s] (iB (uA s)):=by
 refine CC.cZ arY kr (λ_=>kr) aw (by rfl) ?_;simp[ado,SE.den]
 match s with
 |[c]=>
  have hb:CC 280 af [iS [43,45,42,47,37],iS [c]] (.raw (.bool (decide (0<=aBP [43,45,42,47,37] c)))):=CC.plain (by rw[kf];decide) (avN _ c) (.raw _) kr;left;refine⟨by simp,_,hb,?_⟩;have i43:=Lib.indexByte_ge;simp[uA,aBP];by_cases h1:c=43
  .simp[h1]
  by_cases h2:c=45
  .simp[h2]
  by_cases h3:c=42
  .simp[h3]
  by_cases h4:c=47
  .simp[h4]
  by_cases h5:c=37
  .simp[h5]
  simp[h1,h2,h3,h4,h5,aCy h1,aCy h2,aCy h3,aCy h4,aCy h5]
 |[]=>right;simp[uA]
 |_::_::_=>right;simp[uA];omega
def aj8(c:Int):dg ayF .and 223 (sb (GQ c)) (sb 7)=aa (sb (GQ c)):=by
 unfold GQ;split
 .rfl
 split
 .rfl
 split<;>rfl
def agf(c:Int):dg ayF .and 223 (sb (GQ c)) (sb 1)=aa (sb (if sg c then 1 else 0)):=by
 unfold GQ;split
 .rfl
 split
 .rfl
 split<;>rfl
def asr(c:Int):GQ c=0↔oa c=af:=by
 unfold GQ oa;cases sg c<;>cases D7 c<;>simp
 grind
def NP(c:UInt8)(s:List UInt8):gZ (c::s)=(sg c.toNat&&decide (s.length<=39)&&s.all (λc=>oa c.toNat)&& !IA (c::s)):=by
 unfold gZ wO;cases h:sg c.toNat with
 |false=>simp[h]
 |true=>
  have:oa c.toNat=ab:=by simp[oa,h]
  simp[h,this,Bool.and_comm]
def YF(s:List UInt8):CC 154 af [iS s] (iB (gZ s)):=by
 refine CC.cZ avA kr (λ_=>kr) aw (by rfl) ?_;have hr:=avS s;cases s with
 |nil=>simp[aa1,SE.den];rfl
 |cons c s'=>
  have ha:=ana (c.toNat:Int);simp[aa1,SE.den];by_cases h1:(40:Int)<s'.length+1
  .left;refine⟨h1,?_⟩;rw[NP];simp;omega
  right;refine⟨by omega,_,ha,?_⟩;simp[agf];have hl:(decide (s'.length<=39))=ab:=by simp;omega
  rw[NP,hl];cases h2:sg c.toNat with
  |false=>simp
  |true=>
  simp;refine⟨iS s',?_,⟨_,am9 s'⟩,?_⟩
  .have e1:((s'.length:Int)+1).toNat- 1=s'.length:=aj;simp[gW,aBy,e1];omega
  unfold YC;refine Iv (λp:Nat=>[.aF [iS s',iI p]]) (λp=>p<=s'.length/\∀u∈s'.take p,oa u.toNat=ab) (λp=>s'.length- p) 0 ?_ aw λp ⟨hp0,hI⟩=>?_
  .simp[SE.den]
  by_cases hp:p<s'.length
  .have ou:p<(⟨s'.toArray⟩:ByteArray).size:=by simpa[aBy]using hp
   have pV:((⟨s'.toArray⟩:ByteArray)[p]'ou)=s'[p]:=by simp[aD_]
   have hn:¬((p:Int)<0):=aj;have gx:oa s'[p].toNat=af->(∀x∈s',oa x.toNat=ab)->IA (c::s')=ab:=λh ha=>absurd (ha _ (ayJ hp)) (by simp[h]);by_cases agh:s'[p].toNat<128
   .have D8:=decode_ascii ⟨s'.toArray⟩ p ou (by rw[pV];exact agh);rw[pV]at D8;have wM:=ana (s'[p].toNat:Int)
    have pC:aDS.wrap (s'[p].toNat:Int)=s'[p].toNat:=by
     simp only[aDk,aDl,aCT];simp;omega
    simp[SE.den,hp,D8,hn,pC];by_cases UU:122<(s'[p].toNat:Int)
    .left;exact⟨UU,gx (by simp[oa,sg,D7];omega)⟩
    right;refine⟨by omega,_,wM,?_⟩;simp[aj8,asr];cases hc:oa s'[p].toNat with
    |false=>simp;exact gx hc
    |true=>simp;exact⟨p+1,by omega,⟨by omega,cy (p:=λu:UInt8=>oa u.toNat=ab) hp hI hc⟩,by omega⟩
   .obtain⟨xf,va⟩:=decode_high ⟨s'.toArray⟩ p ou (by rw[pV];omega);generalize D8:aAc ⟨s'.toArray⟩ p=dd at xf va;obtain⟨rn,w⟩:=dd;simp only at xf va;simp[SE.den,hp,D8,hn];left;exact⟨by omega,gx (by simp[oa,sg,D7];omega)⟩
  .have:=dj hp hI;have ha:(s'.all λc=>oa c.toNat)=ab:=by simpa using this
   simp[SE.den,hp];exact⟨_,hr,by simp[ha]⟩
end
mutual
def d_:Tm->Bool
 |.mk k n s ts=>if k=0 then decide (-2147483648<=n)&&decide (n<=2147483648)&&s.isEmpty&&ts.isEmpty
  else if k=1 then decide (0<=n)&&decide (n<=1048576)&&s.isEmpty&&ts.isEmpty
  else if k=2 then decide (n=0)&&((uA s&&decide (ts.length=2))||(gZ s&&decide (ts.length<=6)))&&E4 ts
  else af
def E4:List Tm->Bool
 |[]=>ab
 |t::l=>d_ t&&E4 l
end
theorem AA:∀l:List Tm,E4 l=l.all d_
 |[]=>rfl
 |t::l=>by simp[E4,AA l]
def YG{t:Tm}(h:t.k=0):d_ t=(decide (-2147483648<=t.n)&&decide (t.n<=2147483648)&&t.s.isEmpty&&t.ts.isEmpty):=by
 cases t;simp[Tm.k]at h;subst h;simp[d_,Tm.n,Tm.s,Tm.ts];rfl
def Py{t:Tm}(h:t.k=1):d_ t=(decide (0<=t.n)&&decide (t.n<=1048576)&&t.s.isEmpty&&t.ts.isEmpty):=by
 cases t;simp[Tm.k]at h;subst h;simp[d_,Tm.n,Tm.s,Tm.ts];rfl
def Pz{t:Tm}(h:t.k=2):d_ t=(decide (t.n=0)&&((uA t.s&&decide (t.ts.length=2))||(gZ t.s&&decide (t.ts.length<=6)))&&t.ts.all d_):=by
 cases t;simp[Tm.k]at h;subst h;simp[d_,Tm.n,Tm.s,Tm.ts,AA];rfl
def YH{t:Tm}(h0:t.k≠0)(h1:t.k≠1)(h2:t.k≠2):d_ t=af:=by
 cases t;simp[Tm.k]at h0 h1 h2;simp[d_,h0,h1,h2]
def NQ{α:Type}{p:α->Bool}{l:List α}{i:Nat}(h:i<l.length)(hp:p l[i]=af):l.all p=af:=aC7.2 ⟨l[i],ayJ h,by simp[hp]⟩
def ass(t:Tm)(hs:Sm t.s)(hl:Sm t.ts)(ih:∀u∈t.ts,CC 224 af [eE u] (iB (d_ u))):CC 224 af [eE t] (iB (d_ t)):=by
 refine CC.cZ ar_ kr (λ_=>kr) (by simpa using sa t) (by rfl) ?_;rw[bG];have h1:=avQ t.s;have h2:=YE t.s hs
 have l2:∀b,b=t.ts.all d_->∀x y,GM.sat ayF CC (xV (·=b)) [] [.agg [iI t.k,iI t.n,iS t.s,iT t.ts],x,y]:=λb hb x y=>by
  unfold GM;refine gS t.ts.length (λi (_:Unit)=>[iI i]) (λi _=>∀u∈t.ts.take i,d_ u=ab) () ?_ ?_ λi _ hi hI=>?_
  .simp[SE.den]
  .simp
  by_cases ak:i<t.ts.length
  .have hw:=aH ak hl;have hb:=ih t.ts[i] (ayJ ak);rw[bG]at hb;simp only[uU,Vs,Vp,Vq,Yy,Vt];simp[SE.den,ak,hw,ng ak,bG,ao];refine⟨_,hb,?_⟩;cases hf:d_ t.ts[i]<;>simp
   .subst b;exact NQ ak hf
   .exact⟨by omega,cy (p:=λu=>d_ u=ab) ak hI hf⟩
  .have:=dj ak hI;simp[SE.den,ak];subst b;simpa using this
 have l1:∀b,b=t.ts.all d_->∀x,LQ.sat ayF CC (xV (·=b)) [] [.agg [iI t.k,iI t.n,iS t.s,iT t.ts],x]:=λb hb x=>by
  unfold LQ;refine gS t.ts.length (λi (_:Unit)=>[iI i]) (λi _=>∀u∈t.ts.take i,d_ u=ab) () ?_ ?_ λi _ hi hI=>?_
  .simp[SE.den]
  .simp
  by_cases ak:i<t.ts.length
  .have hw:=aH ak hl;have hb:=ih t.ts[i] (ayJ ak);rw[bG]at hb;simp only[uU,Vs,Vp,Vq,Yy,Vt];simp[SE.den,ak,hw,ng ak,bG,ao];refine⟨_,hb,?_⟩;cases hf:d_ t.ts[i]<;>simp
   .subst b;exact NQ ak hf
   .exact⟨by omega,cy (p:=λu=>d_ u=ab) ak hI hf⟩
  .have:=dj ak hI;simp[SE.den,ak];subst b;simpa using this
 have e02:VB=GM:=rfl;simp[adA,SE.den,e02,ao];have ee:∀l:List Tm,l.isEmpty=decide (l.length=0):=λl=>by cases l<;>simp
 have em:=aC8 (t.s=[]);by_cases k0:t.k=0
 .left;refine⟨k0,?_⟩;rw[YG k0];simp;grind
 right;refine⟨k0,?_⟩;by_cases k1:t.k=1
 .left;refine⟨k1,?_⟩;rw[Py k1];simp;grind
 right;refine⟨k1,?_⟩;by_cases k2:t.k=2
 .left;refine⟨k2,_,h1,?_⟩;rw[Pz k2];by_cases n0:t.n=0
  .cases b1:uA t.s with
   |true=>
    simp[n0];by_cases gb:(t.ts.length:Int)=2
    .right;refine⟨by omega,?_⟩;have Cj:t.ts.length=2:=aj;exact n0▸l1 _ (by simp[Cj]) _
    .left;have Cj:¬t.ts.length=2:=aj;refine⟨by omega,_,h2,?_⟩;cases b2:gZ t.s<;>simp[Cj];by_cases h6:6<(t.ts.length:Int)
     .left;exact⟨h6,λ_=>by omega⟩
     .right;exact⟨by omega,n0▸l2 _ (by simp;omega) _ _⟩
   |false=>
    simp[n0];refine⟨_,h2,?_⟩;cases b2:gZ t.s<;>simp;by_cases h6:6<(t.ts.length:Int)
    .left;exact⟨h6,λ_=>by omega⟩
    .right;exact⟨by omega,n0▸l2 _ (by simp;omega) _ _⟩
  .cases b1:uA t.s<;>simp[n0]
 .right;exact⟨k2,YH k0 k1 k2⟩
theorem anb:∀t:Tm,kQ t->CC 224 af [eE t] (iB (d_ t))
 |.mk k n s ts,h=>ass _ ((pc _).1 h).1 ((pc _).1 h).2.1 λu hu=>anb u (((pc _).1 h).2.2 u hu)
 decreasing_by simp[Tm.ts]at hu;have:=azG hu;simp;omega
mutual
def jW:Tm->Nat
 |.mk k _ _ ts=>if k=2 then cV ts+1 else 1
def cV:List Tm->Nat
 |[]=>0
 |t::l=>jW t+cV l
end
mutual
def z_:Tm->Nat
 |.mk k _ _ ts=>if k=2 then iZ ts+1 else 1
def iZ:List Tm->Nat
 |[]=>0
 |t::l=>max (z_ t) (iZ l)
end
def tY(t:Tm):jW t=cV (bZ t)+1:=by
 obtain⟨k,n,s,ts⟩:=t;show jW (.mk k n s ts)=cV (if k=2 then ts else[])+1;by_cases hk:k=2<;>simp[jW,hk,cV]
def IB(t:Tm):z_ t=iZ (bZ t)+1:=by
 obtain⟨k,n,s,ts⟩:=t;show z_ (.mk k n s ts)=iZ (if k=2 then ts else[])+1;by_cases hk:k=2<;>simp[z_,hk,iZ]
def yM(a b:List Tm):cV (a++b)=cV a+cV b:=by
 induction a with
 |nil=>simp[cV]
 |cons t l ih=>simp[cV,ih];omega
def Xk(a b:List Tm):iZ (a++b)=max (iZ a) (iZ b):=by
 induction a with
 |nil=>simp[iZ]
 |cons t l ih=>simp[iZ,ih]
def GR{t:Tm}{l:List Tm}(h:t∈l):jW t<=cV l:=by
 induction l with
 |nil=>cases h
 |cons u l ih=>rcases ayW.1 h with rfl|h
               .simp[cV]
               .have:=ih h;simp[cV];omega
def LY{t:Tm}{l:List Tm}(h:t∈l):z_ t<=iZ l:=by
 induction l with
 |nil=>cases h
 |cons u l ih=>rcases ayW.1 h with rfl|h
               .simp[iZ];omega
               .have:=ih h;simp[iZ];omega
def YI(t:Tm):1<=jW t:=by rw[tY];omega
def aj9(t:Tm):1<=z_ t:=by rw[IB];omega
def aj_{t u:Tm}(h:u∈bZ t):jW u<jW t:=by
 have:=GR h;rw[tY t];omega
def YJ(l:List Tm)(h:∀t∈l,z_ t<=jW t):iZ l<=cV l:=by
 induction l with
 |nil=>simp[iZ]
 |cons t l ih=>have:=h t aw;have:=ih λu hu=>h u (by simp[hu]);simp[iZ,cV];omega
theorem adP:∀t:Tm,z_ t<=jW t
 |.mk k n s ts=>by
  have h:=YJ (bZ (.mk k n s ts)) λu hu=>adP u;rw[tY,IB];omega
 decreasing_by have:=sc hu;simp[Tm.ts]at this;have:=azG this;simp;omega
theorem VP:∀(l:List Tm) (acc:Nat),(∀t∈l,sS t=jW t)->acc+cV l<=1000000000000->wN acc l=((acc+cV l:Nat):Int)
 |[],acc,_,_=>by simp[wN,cV]
 |t::l,acc,h,hb=>by
  simp only[cV]at hb⊢;rw[wN,h t aw,eN aj aj];have:=VP l (acc+jW t) (λu hu=>h u (by simp[hu])) aj;rw[show((acc:Int)+(jW t:Int))=((acc+jW t:Nat):Int) by simp,this]
  congr 1;omega
theorem IC:∀t:Tm,jW t<=1000000000000->sS t=jW t
 |.mk k n s ts,hb=>by
  have h:=VP (bZ (.mk k n s ts)) 1 (λu hu=>IC u (by have:=aj_ hu;omega)) (by rw[tY]at hb;omega);rw[VL,tY,show(1:Int)=((1:Nat):Int)from rfl,h]
  congr 1;omega
 decreasing_by have:=sc hu;simp[Tm.ts]at this;have:=azG this;simp;omega
def anc(a b:Int):Oj ayF [iI a,iI b]=aa (iI (if b>a then b else a)):=rfl
def ID{l:List Tm}{i:Nat}(h:i<l.length):iZ (l.take (i+1))=max (iZ (l.take i)) (z_ l[i]):=by
 rw[ayN h,Xk];simp[iZ]
def IE{l:List Tm}{i:Nat}(h:i<l.length):cV (l.take (i+1))=cV (l.take i)+jW l[i]:=by
 rw[ayN h,yM];simp[cV]
def IF(l:List Tm)(i:Nat):cV (l.take i)<=cV l:=by
 have:=yM (l.take i) (l.drop i);rw[azW]at this;omega
def BT(t:Tm):Prop:=kQ t/\jW t<=1000000000000
def NR(l:List Tm):Prop:=Sm l/\(∀t∈l,kQ t)/\cV l<=1000000000000
theorem NR.at{l:List Tm}(h:NR l){t:Tm}(ht:t∈l):BT t:=⟨h.2.1 t ht,by have:=GR ht;have:=h.2.2;omega⟩
def BT.args{t:Tm}(h:BT t):NR (bZ t):=by
 have h1:=(pc t).1 h.1;have h2:=tY t;refine⟨?_,λu hu=>h1.2.2 u (sc hu),by have:=h.2;omega⟩;unfold bZ;split
 .exact h1.2.1
 .simp
def ast(t:Tm)(h:BT t)(ih:∀u∈bZ t,CC 225 af [eE u] (iI (z_ u))):CC 225 af [eE t] (iI (z_ t)):=by
 refine CC.of asb kr kr (by simpa using sa t) aw ?_;have LZ:=agd t;rw[bG]at LZ⊢;simp[adC,VC,SE.den,ao];refine⟨_,LZ,?_⟩;have ef:(bZ t).length<=9223372036854775807:=h.args.1;have hdl:iZ (bZ t)<=1000000000000:=ay6 (YJ _ λu _=>adP u) h.args.2.2;refine⟨by simp,?_⟩;refine gS (bZ t).length (λi (a:Int)=>[iI i,iI a]) (λi a=>a=iZ ((bZ t).take i)) 0 ?_ ?_ λi a hi ha=>?_
 .simp[SE.den]
 .simp[iZ]
 by_cases ak:i<(bZ t).length
 .have hw:=aH ak ef;have hb:=ih (bZ t)[i] (ayJ ak);rw[bG]at hb;simp[SE.den,ak,hw,ng ak,bG,ao];refine⟨_,hb,?_⟩;simp[SE.den,anc,aL,hw];have g1:=ID ak;refine⟨?_,by omega⟩;rw[g1,ha];split<;>omega
 .have:(bZ t).take i=bZ t:=ayV aj;rw[this]at ha;have pC:azc.wrap (a+1)=a+1:=eN aj aj;simp[SE.den,ak,pC];rw[IB,ha];simp
theorem ane:∀t:Tm,BT t->CC 225 af [eE t] (iI (z_ t))
 |.mk k n s ts,h=>ast _ h λu hu=>ane u (h.args.at hu)
 decreasing_by have:=sc hu;simp[Tm.ts]at this;have:=azG this;simp;omega
def jX(t:Tm):Bool:=d_ t&&decide (jW t<=200)&&decide (z_ t<=20)
def jt(l:List Tm):Bool:=l.all d_&&decide (cV l<=200)&&decide (iZ l<=20)
def kR(a:At):Bool:=gZ a.s&&decide (a.ts.length<=6)&&jt a.ts
def eF(g:Gl):Bool:=if g.op=0 then kR ⟨g.s,g.ts⟩else g.s.isEmpty&&decide (jV g.op=g.ts.length)&&jt g.ts
def anf(t:Tm)(h:BT t):CC 183 af [eE t] (iB (jX t)):=by
 refine CC.cZ ar9 kr (λ_=>kr) (by simpa using sa t) (by rfl) ?_;have h1:=anb t h.1;have h2:=aa3 t h.1.wf;have h3:=ane t h;rw[IC t h.2]at h2;rw[bG]at h1 h2 h3⊢;simp[adz,SE.den,ao];refine⟨_,h1,?_⟩;cases hf:d_ t<;>simp[jX,hf];refine⟨_,h2,?_⟩;simp;by_cases hs:jW t<=200
 .left;exact⟨by omega,_,h3,by simp[hs];omega⟩
 .right;exact⟨by omega,λh=>absurd h hs⟩
def adQ{l:List Tm}{i:Nat}(h:i<l.length)(hp:jX l[i]=af):jt l=af:=by
 have hm:=ayJ h;have h1:=GR hm;have h2:=LY hm;cases hf:d_ l[i]with
 |false=>simp[jt,NQ h hf]
 |true=>
  simp[jX,hf]at hp;simp[jt];intro _ _;have:=hp;omega
def v107(l:List Tm)(h:NR l):CC 138 af [iT l] (iB (jt l)):=by
 refine CC.cZ ar8 kr (λ_=>kr) aw (by rfl) ?_;simp[ady,VA,SE.den,ao];refine gS l.length (λi (a:Int)=>[iI i,iI a]) (λi a=>a=cV (l.take i)/\(∀u∈l.take i,d_ u=ab)/\iZ (l.take i)<=20) 0 ?_ ?_ λi a hi hI=>?_
 .simp[SE.den]
 .simp[cV,iZ]
 by_cases ak:i<l.length
 .have hw:=aH ak h.1;have hm:=ayJ ak;have hb:=anf l[i] (h.at hm);have h2:=aa3 l[i] (h.at hm).1.wf;rw[IC _ (h.at hm).2]at h2;rw[bG]at hb h2;simp[SE.den,ak,hw,ng ak,bG,ao];refine⟨_,hb,?_⟩;cases hr:jX l[i]<;>simp
  .exact adQ ak hr
  refine⟨_,h2,?_⟩;have qL:=hr;simp[jX]at qL;have g1:=IE ak;have g2:=IF l (i+1);have g3:=h.2.2;have pC:azc.wrap (a+jW l[i])=a+jW l[i]:=by rw[hI.1];exact eN aj aj
  simp[hw,pC];refine⟨by omega,by rw[g1,hI.1];simp,cy (p:=λu=>d_ u=ab) ak hI.2.1 qL.1.1,?_⟩;rw[ID ak];have:=hI.2.2;omega
 .have ht:l.take i=l:=ayV aj;rw[ht]at hI;obtain⟨h1,h2,h3⟩:=hI;have xh:l.all d_=ab:=by simpa using h2
  simp[SE.den,ak,jt,xh,h3];subst a;by_cases hs:cV l<=200<;>simp[hs]
  .omega
  .omega
def v49(a:At)(hs:Sm a.s)(h:NR a.ts):CC 75 af [.agg [iS a.s,iT a.ts]] (iB (kR a)):=by
 refine CC.cZ avG kr (λ_=>kr) (by intro x hx;obtain rfl:=ayU.1 hx;exact Dp a) (by rfl) ?_;have h1:=YE a.s hs;have h2:=v107 a.ts h;simp[ain,SE.den,ao];refine⟨_,h1,?_⟩;cases hn:gZ a.s<;>simp[kR,hn];by_cases hs:a.ts.length<=6
 .left;exact⟨by omega,_,h2,by simp[hs]⟩
 .right;exact⟨by omega,λh=>absurd h hs⟩
def v152(g:Gl)(hs:Sm g.s)(h:NR g.ts):CC 76 af [.agg [iI g.op,iS g.s,iT g.ts]] (iB (eF g)):=by
 refine CC.cZ asd kr (λ_=>kr) (by intro x hx;obtain rfl:=ayU.1 hx;exact Iz g) (by rfl) ?_;have h1:=v49 ⟨g.s,g.ts⟩ hs h;have h2:=v107 g.ts h;have h3:=avM g.op;simp[adD,SE.den,ao];by_cases k0:g.op=0
 .left;exact⟨k0,_,h1,by simp[eF,k0]⟩
 right;refine⟨k0,?_⟩;by_cases ks:g.s=[]
 .left;refine⟨ks,_,h3,?_⟩;simp;by_cases ka:jV g.op=g.ts.length
  .left;exact⟨ka,_,h2,by simp[eF,k0,ka,ks]⟩
  .right;exact⟨ka,by simp[eF,k0,ka]⟩
 .right;exact⟨ks,by simp[eF,k0,ks]⟩
def aiq(p:Bool->Int->Prop)(z:IV):Prop:=∃(b:Bool) (n:Int),z=.aF [iB b,.agg [iI n]]/\p b n
@[simp] theorem axC(p:Bool->Int->Prop)(b:Bool)(n:Int):aiq p (.aF [iB b,.agg [iI n]])↔p b n:=
  ⟨λ⟨b',n',h1,h2⟩=>by cases h1;exact h2,λh=>⟨b,n,rfl,h⟩⟩
def CC.YK{n:Nat}{f:Nat}{dv:aq}{m:Int}{xs:List IV}{cfg:fe}{s:Bool}{r:Int}(he:xS ayF cfg n [1] f=dv)(hl:(ayF.funcs[f]?).map (·.params.size)=aa (1+xs.length))(hn:noTwo dv=ab)
 (hs:dv.sat ayF CC (aiq λb k=>b=s/\(b=ab->k=r)) [] (iI m::xs)):∃k:Int,(s=ab->k=r)/\CC (612+f) ab (.agg [.agg [iI m]]::xs) (.aF [iB s,.agg [iI k]]):=by
 obtain⟨z,⟨b,k,rfl,rfl,hb⟩,h2⟩:=LW hn hs;refine⟨k,hb,?_⟩;have h:=CC.aie (new:=ab) (ins:=[[iI m]]) (outs:=[[iI k]]) (xs:=xs) (z:=iB b) (cfg:=cfg) (n:=n) (f:=f) he hl rfl (by simp[ao]) h2;rw[kf]at h;exact h
def ti(t:Tm)(n d:Int):Bool:=d_ t&&decide ((jW t:Int)<=n)&&decide ((z_ t:Int)<=d)
def Dt(l:List Tm)(n d:Int):Bool:=l.all d_&&decide ((cV l:Int)<=n)&&decide ((iZ l:Int)<=d)
def ang{l:List Tm}{i:Nat}{n d:Int}(h:i<l.length)(hp:ti l[i] (n- cV (l.take i)) d=af):Dt l n d=af:=by
 have hm:=ayJ h;have h2:=LY hm;have g1:=IE h;have g2:=IF l (i+1);cases hf:d_ l[i]with
 |false=>simp[Dt,NQ h hf]
 |true=>
  simp[ti,hf]at hp;simp[Dt];intro _ _;have:=hp;omega
def air(l:List Tm)(hl:Sm l)(d:Int)(hd:0<=d)(ih:∀u∈l,∀n:Int,0<=n->n<=1000->∃k:Int,(ti u n d=ab->k=n- jW u)/\CC 859 ab [.agg [.agg [iI n]],eE u,iI d] (.aF [iB (ti u n d),.agg [iI k]]))(n:Int)(hn:0<=n)(eG:n<=1000):
 ∃k:Int,(Dt l n d=ab->k=n- cV l)/\CC 821 ab [.agg [.agg [iI n]],iT l,iI d] (.aF [iB (Dt l n d),.agg [iI k]]):=by
 refine CC.YK (f:=209) (xs:=[iT l,iI d]) ar0 kr (by rfl) ?_;simp[adq,SE.den,ao];unfold Vy;refine aB l.length (λi (a:Int)=>[iI i,iI a]) (λi a=>a=n- cV (l.take i)/\0<=a/\(∀u∈l.take i,d_ u=ab)/\(iZ (l.take i):Int)<=d) n ?_ (by simp[cV,iZ,hn,hd]) λi a hi hI=>?_
 .simp[SE.den]
 by_cases ak:i<l.length
 .have hw:=aH ak hl;obtain⟨fZ,jE,tj,hI4⟩:=hI;obtain⟨k,hp,hb⟩:=ih l[i] (ayJ ak) a jE aj;rw[bG]at hb;simp[SE.den,ak,hw,ng ak,bG,ao];refine⟨_,hb,?_⟩;cases hr:ti l[i] a d<;>simp[aL,ao]
  .exact ang ak (fZ▸hr)
  .have qL:=hr;simp[ti]at qL;have g1:=IE ak;have g2:=ID ak;have hk:=hp hr;exact .mk k rfl aj ⟨by omega,by omega,cy (p:=λu=>d_ u=ab) ak tj qL.1.1,by omega⟩
 .have ht:l.take i=l:=ayV aj;rw[ht]at hI;obtain⟨h1,h2,h3,h4⟩:=hI;have KF:l.all d_=ab:=by simpa using h3
  simp[SE.den,ak,aL];refine⟨?_,h1⟩;simp[Dt,KF,h4];omega
def PA{t:Tm}(h:t.k=2):bZ t=t.ts:=by simp[bZ,h]
def PC{t:Tm}(h:t.k≠2):bZ t=[]:=by simp[bZ,h]
def sz1{t:Tm}(h:t.k≠2):jW t=1:=by simp[tY,PC h,cV]
def dp1{t:Tm}(h:t.k≠2):z_ t=1:=by simp[IB,PC h,iZ]
def aa4{t:Tm}(h:t.k≠2)(n d:Int)(h1:1<=n)(h2:1<=d):ti t n d=d_ t:=by
 have e1:decide (((1:Nat):Int)<=n)=ab:=by simp;omega
 have e2:decide (((1:Nat):Int)<=d)=ab:=by simp;omega
 rw[ti,sz1 h,dp1 h,e1,e2];simp
def asu{t:Tm}(h:t.k=2)(n d:Int):ti t n d=(decide (t.n=0)&&((uA t.s&&decide (t.ts.length=2))||(gZ t.s&&decide (t.ts.length<=6)))&&Dt t.ts (n- 1) (d- 1)):=by
 have e1:decide ((jW t:Int)<=n)=decide ((cV t.ts:Int)<=n- 1):=by rw[tY,PA h];simp;omega
 have e2:decide ((z_ t:Int)<=d)=decide ((iZ t.ts:Int)<=d- 1):=by rw[IB,PA h];simp;omega
 rw[ti,e1,e2,Pz h,Dt];simp only[Bool.and_assoc]
def asv(t:Tm)(hs:Sm t.s)(hl:Sm t.ts)(d:Int)(ih:1<=d->∀u∈t.ts,∀n:Int,0<=n->n<=1000->∃k:Int,(ti u n (d- 1)=ab->k=n- jW u)/\CC 859 ab [.agg [.agg [iI n]],eE u,iI (d- 1)] (.aF [iB (ti u n (d- 1)),.agg [iI k]]))(n:Int)(hn:0<=n)(eG:n<=1000)(Cg:0<=d)(Ks:d<=1000):
 ∃k:Int,(ti t n d=ab->k=n- jW t)/\CC 859 ab [.agg [.agg [iI n]],eE t,iI d] (.aF [iB (ti t n d),.agg [iI k]]):=by
 refine CC.YK (f:=247) (xs:=[eE t,iI d]) arZ kr (by rfl) ?_;rw[bG];have h1:=YF t.s;have h2:=avT t.s;have w1:azc.wrap (n- 1)=n- 1:=eN aj aj;have w2:azc.wrap (d- 1)=d- 1:=eN aj aj;simp[adp,SE.den,ao,aL,w1,w2];have hz:=YI t;have hq:=aj9 t;by_cases y0:n- 1<0
 .left;refine⟨y0,?_⟩;simp[ti];omega
 right;refine⟨by omega,?_⟩;by_cases y1:d<1
 .left;refine⟨y1,?_⟩;simp[ti];omega
 right;refine⟨by omega,?_⟩;obtain⟨k3,hp3,h3⟩:=air t.ts hl (d- 1) aj (ih aj) (n- 1) aj aj;have ee:t.ts.isEmpty=decide (t.ts.length=0):=by cases t.ts<;>simp
 have es:t.s.isEmpty=decide (t.s=[]):=by cases t.s<;>simp
 have em:=aC8 (t.s=[]);by_cases k0:t.k=0
 .left;refine⟨k0,?_⟩;have k2:t.k≠2:=aj;rw[aa4 k2 n d aj aj,YG k0,sz1 k2];rw[ee,es];clear ih h3 hp3 h1 h2 w1 w2;simp;grind
 right;refine⟨k0,?_⟩;by_cases k1:t.k=1
 .left;refine⟨k1,?_⟩;have k2:t.k≠2:=aj;rw[aa4 k2 n d aj aj,Py k1,sz1 k2];rw[ee,es];clear ih h3 hp3 h1 h2 w1 w2;simp;grind
 right;refine⟨k1,?_⟩;by_cases k2:t.k=2
 rotate_left
 .right;refine⟨k2,?_⟩;rw[aa4 k2 n d aj aj,YH k0 k1 k2]
 left;refine⟨k2,?_⟩
 have Ba:∀b:Bool,ti t n d=(b&&Dt t.ts (n- 1) (d- 1))->b=ab->Dt t.ts (n- 1) (d- 1)=ti t n d/\(Dt t.ts (n- 1) (d- 1)=ab->k3=n- jW t):=λb e1 e2=>by
  subst e2;refine⟨by simp[e1],λh=>?_⟩;rw[hp3 h,tY,PA k2];simp;omega
 rw[asu k2]at Ba⊢;by_cases n0:t.n=0
 rotate_left
 .left;simp[n0]
 right;refine⟨n0,?_⟩;by_cases z6:(6:Int)<t.ts.length
 .left;have:¬t.ts.length<=6:=aj;have:¬t.ts.length=2:=aj;simp[*]
 have z6':t.ts.length<=6:=aj;right;refine⟨by omega,_,h1,?_⟩;cases b1:gZ t.s with
 |true=>
  simp[b1,n0,z6']at Ba⊢;exact⟨_,h3,by simp[ao,aL];exact Ba⟩
 |false=>
  simp;refine⟨_,h2,?_⟩;cases b2:uA t.s with
  |false=>simp
  |true=>
   simp;by_cases z2':t.ts.length=2
   .simp[b1,b2,n0,z2']at Ba⊢;exact⟨_,h3,by simp[ao,aL];exact Ba⟩
   .left;exact⟨by omega,λ_ h=>absurd h z2'⟩
theorem v159:∀t:Tm,kQ t->∀n d:Int,0<=n->n<=1000->0<=d->d<=1000->∃k:Int,(ti t n d=ab->k=n- jW t)/\CC 859 ab [.agg [.agg [iI n]],eE t,iI d] (.aF [iB (ti t n d),.agg [iI k]])
 |.mk k n s ts,h=>λn d h1 h2 h3 h4=>by
  exact asv _ ((pc _).1 h).1 ((pc _).1 h).2.1 d (λhd u hu n a b=>v159 u (((pc _).1 h).2.2 u hu) n (d- 1) a b aj aj) n h1 h2 h3 h4
 decreasing_by simp[Tm.ts]at hu;have:=azG hu;simp;omega
def anh(l:List Tm)(hl:Sm l)(h:∀t∈l,kQ t)(n d:Int)(h1:0<=n)(h2:n<=1000)(h3:0<=d)(h4:d<=1000):
 ∃k:Int,CC 821 ab [.agg [.agg [iI n]],iT l,iI d] (.aF [iB (Dt l n d),.agg [iI k]]):=by
 obtain⟨k,_,h⟩:=air l hl d h3 (λu hu n a b=>v159 u (h u hu) n d a b h3 h4) n h1 h2;exact⟨k,h⟩
def Rt(l:List Tm):Dt l 200 20=jt l:=by
 have e1:∀a b:Nat,decide ((a:Int)<=b)=decide (a<=b):=λa b=>by simp
 rw[Dt,jt,show(200:Int)=((200:Nat):Int)from rfl,show(20:Int)=((20:Nat):Int)from rfl,e1,e1]
def v45(a:At)(h:qq a):CC 194 af [.agg [iS a.s,iT a.ts]] (iB (kR a)):=by
 refine CC.cZ avB kr (λ_=>kr) (by intro x hx;obtain rfl:=ayU.1 hx;exact Dp a) (by rfl) ?_;have h1:=YF a.s;obtain⟨k2,h2⟩:=anh a.ts h.2.1 h.2.2 200 20 aj aj aj aj;rw[Rt]at h2;simp[aij,SE.den,ao];refine⟨_,h1,?_⟩;cases hn:gZ a.s<;>simp[kR,hn];by_cases hs:a.ts.length<=6
 .left;exact⟨by omega,_,h2,by simp[ao,hs]⟩
 .right;exact⟨by omega,λh=>absurd h hs⟩
def v138(g:Gl)(h:pd g):CC 166 af [.agg [iI g.op,iS g.s,iT g.ts]] (iB (eF g)):=by
 refine CC.cZ ar1 kr (λ_=>kr) (by intro x hx;obtain rfl:=ayU.1 hx;exact Iz g) (by rfl) ?_;have h1:=YF g.s;obtain⟨k2,h2⟩:=anh g.ts h.2.1 h.2.2 200 20 aj aj aj aj;rw[Rt]at h2;have es:g.s.isEmpty=decide (g.s=[]):=by cases g.s<;>simp
 have ez:(g.ts=[])=(g.ts.length=0):=by cases g.ts<;>simp
 simp[adr,SE.den,ao];by_cases k0:g.op=0
 .left;refine⟨k0,_,h1,?_⟩;cases hn:gZ g.s<;>simp[eF,k0,kR,hn];by_cases h6:g.ts.length<=6
  .left;exact⟨by omega,_,h2,by simp[ao,h6]⟩
  .right;exact⟨by omega,λh=>absurd h h6⟩
 right;refine⟨k0,?_⟩;have hG:∀A:Int,jV g.op=A->eF g=(decide (g.s=[])&&decide (A=g.ts.length)&&jt g.ts):=λA e=>by simp only[eF,k0,if_false,es,e]
 by_cases k1:g.op=1
 .left;refine⟨k1,?_⟩;left;refine⟨by omega,?_⟩;left;refine⟨by omega,?_⟩;have gA:=hG 0 (by simp[jV,k1]);by_cases ks:g.s=[]
  .left;refine⟨ks,?_⟩;by_cases kt:g.ts=[]
   .left;exact⟨kt,_,h2,by simp[ao,gA,ks,kt]⟩
   .right;exact⟨kt,by rw[gA];have:¬(0:Int)=g.ts.length:=λe=>kt (azb aj);simp[this]⟩
  .right;exact⟨ks,by simp[gA,ks]⟩
 right;refine⟨k1,?_⟩;by_cases k2:g.op=2
 .left;refine⟨k2,?_⟩;left;refine⟨by omega,?_⟩;left;refine⟨by omega,?_⟩;have gA:=hG 0 (by simp[jV,k2]);by_cases ks:g.s=[]
  .left;refine⟨ks,?_⟩;by_cases kt:g.ts=[]
   .left;exact⟨kt,_,h2,by simp[ao,gA,ks,kt]⟩
   .right;exact⟨kt,by rw[gA];have:¬(0:Int)=g.ts.length:=λe=>kt (azb aj);simp[this]⟩
  .right;exact⟨ks,by simp[gA,ks]⟩
 right;refine⟨k2,?_⟩;by_cases NS:g.op=11
 .left;refine⟨NS,?_⟩;left;refine⟨by omega,?_⟩;left;refine⟨by omega,?_⟩;have gA:=hG 1 (by simp[jV,NS]);by_cases ks:g.s=[]
  .left;refine⟨ks,?_⟩;by_cases kt:(g.ts.length:Int)=1
   .left;exact⟨kt,_,h2,by simp[ao,gA,ks,kt]⟩
   .right;exact⟨kt,by rw[gA];simp[ks];omega⟩
  .right;exact⟨ks,by simp[gA,ks]⟩
 right;refine⟨NS,?_⟩;by_cases VQ:g.op=12
 .left;refine⟨VQ,?_⟩;left;refine⟨by omega,?_⟩;left;refine⟨by omega,?_⟩;have gA:=hG 1 (by simp[jV,VQ]);by_cases ks:g.s=[]
  .left;refine⟨ks,?_⟩;by_cases kt:(g.ts.length:Int)=1
   .left;exact⟨kt,_,h2,by simp[ao,gA,ks,kt]⟩
   .right;exact⟨kt,by rw[gA];simp[ks];omega⟩
  .right;exact⟨ks,by simp[gA,ks]⟩
 right;refine⟨VQ,?_⟩;by_cases p0:0<g.op
 rotate_left
 .right;refine⟨by omega,?_⟩;have:¬(2<g.op/\g.op<11):=aj;rw[hG (-1) (by simp[jV,k1,k2,NS,VQ,this])];simp;try omega
 left;refine⟨p0,?_⟩;by_cases p12:g.op<=12
 rotate_left
 .right;refine⟨by omega,?_⟩;have:¬(2<g.op/\g.op<11):=aj;rw[hG (-1) (by simp[jV,k1,k2,NS,VQ,this])];simp;try omega
 left;refine⟨p12,?_⟩;have hp:2<g.op/\g.op<11:=aj;have gA:=hG 2 (by simp[jV,k1,k2,NS,VQ,hp]);by_cases ks:g.s=[]
 .left;refine⟨ks,?_⟩;by_cases kt:(g.ts.length:Int)=2
  .left;exact⟨kt,_,h2,by simp[ao,gA,ks,kt]⟩
  .right;exact⟨kt,by rw[gA];simp[ks];omega⟩
 .right;exact⟨ks,by simp[gA,ks]⟩
def Vr(l:List Int):Prop:=l.Nodup/\∀x∈l,0<=x/\x<=1048576
theorem adR:∀(N:Nat) (l:List Int),l.Nodup->(∀x∈l,0<=x/\x<N)->l.length<=N
 |0,[],_,_=>by simp
 |0,x::l,_,h=>by have:=h x aw;omega
 |N+1,l,hn,h=>by
  have ih:=adR N (l.erase (N:Int)) (hn.erase _) λx hx=>by
   have h1:=h x (List.mem_of_mem_erase hx);have h2:x≠(N:Int):=λhe=>by rw[hn.mem_erase_iff]at hx;exact hx.1 he
   omega
  rw[List.length_erase]at ih;split at ih<;>omega
theorem Vr.len{l:List Int}(h:Vr l):l.length<=1048577:=adR 1048577 l h.1 λx hx=>by have:=h.2 x hx;omega
def Vr.nil:Vr []:=⟨by simp,by simp⟩
def Vr.snoc{l:List Int}{n:Int}(h:Vr l)(h1:n∉l)(h2:0<=n/\n<=1048576):Vr (l++[n]):=by
 refine⟨?_,λx hx=>?_⟩
 .rw[List.nodup_append];exact⟨h.1,by simp,λa ha b hb=>by simp at hb;subst hb;exactλhe=>h1 (he▸ha)⟩
 .rcases ayS.1 hx with hx|hx
  .exact h.2 x hx
  .simp at hx;subst hx;exact h2
def asw:ayF.funcs.size=306:=by kernel_rfl
def zL(p:List Int->Prop)(z:IV):Prop:=∃l:List Int,z=iL l/\p l
def ani{a b:List Int}(h:iL a=iL b):a=b:=by
 injection h with _ h2
 exact(List.map_inj_right (λx y hh=>by injection hh with hh;injection hh)).1 h2
@[simp] theorem AU(p:List Int->Prop)(l:List Int):zL p (iL l)↔p l:=⟨λ⟨b',h1,h2⟩=>by rw[ani h1];exact h2,λh=>⟨l,rfl,h⟩⟩
def CC.anj{n:Nat}{new:Bool}{f:FuncId}{dv:aq}{cfg:fe}{l:List Int}{xs:List IV}(p:List Int->Prop)(he:AT ayF cfg n 1 f=dv)(hl:(ayF.funcs[f]?).map (·.params.size)=aa (xs.length+1))(hn:noTwo dv=ab)
 (hs:dv.sat ayF CC (zL p) [] (iL l::xs)):∃l',p l'/\CC (306+f) new (iL l::xs) (iL l'):=by
 obtain⟨z,⟨l',rfl,hp⟩,h2⟩:=LW hn hs;refine⟨l',hp,?_⟩;rw[<-asw];exact CC.ofRow he hl h2
def CC.avU{n:Nat}{new:Bool}{f:FuncId}{dv:aq}{cfg:fe}{args:List IV}(p:List Int->Prop)(he:aI ayF cfg n new f=dv)(hl:(ayF.funcs[f]?).map (·.params.size)=aa args.length)(ht:∀z,oP ayF f z=ab)(hp:∀x∈args,Pure x)(hn:noTwo dv=ab)
 (hs:dv.sat ayF CC (zL p) [] args):∃l',p l'/\CC f new args (iL l'):=by
 obtain⟨z,⟨l',rfl,hb⟩,h2⟩:=CC.Ix he hl (λz _=>ht z) hp (by rintro _ ⟨b,rfl,_⟩;exact EY b) hn hs;exact⟨l',hb,h2⟩
def ank:aI ayF (fY [⟨0,140,3,[(0,(3,0)),(0,(4,0))],[(0,0)],[],[]⟩]) 400 ab 140=NM:=by kernel_rfl
section
variable{Q:IV->Prop}{k0 k1 k2 k3 k4 k5:List IV->Prop}
def pe{l:List At}{i:Nat}(h:i<l.length):cb 2 (dm l) (iI (i:Nat))=aa (.agg [iS l[i].s,iT l[i].ts]):=avK h
def Kb{a b:List At}(h:a.length+b.length<=1000):cX 2 40 (dm a) (dm b)=aa (dm (a++b)):=by
 have h2:fM 2 (b.map dN)=ab:=by
  unfold fM;rw[ayY];intro e he;obtain⟨x,_,rfl⟩:=ay8.1 he;rfl
 simp[cX,h2];omega
end
def AB{α:Type}{s:Nat}{enc:α->IV}(h:∀a,∃cs,enc a=.agg cs/\cs.length=s/\cs.all ao=ab)(l:List α):fM s (l.map enc)=ab:=by
 unfold fM;rw[ayY];intro e he;obtain⟨x,_,rfl⟩:=ay8.1 he;obtain⟨cs,h1,h2,h3⟩:=h x;rw[h1];simp only[cellsOf,ayI,beq_iff_eq];exact⟨h2,h3⟩
section
section sorting
variable{α:Type}{lt:α->α->Bool}
end sorting
end
def ais{a b:List Gl}(h:a.length+b.length<=1000):cX 3 48 (gO a) (gO b)=aa (gO (a++b)):=by
 have h2:=AB (s:=3) (enc:=l9) (λx=>⟨_,rfl,rfl,rfl⟩) b;simp[cX,h2];omega
def cu(r:Rl):cN r=.agg [iS r.name,dm r.ax,dm r.az,gO r.aG,gO r.bn,iI r.vars]:=rfl
def aa5(r:Rl)(h:r.ax.length+r.az.length<=1000):CC 73 af [cN r] (dm (r.ax++r.az)):=by
 refine CC.of ar6 kr kr (by simpa using iQ r) aw ?_;have h1:=Kb (a:=[]) (b:=r.ax) (by simp;omega);have h2:=Kb h;simp only[azN,aAW]at h1;rw[cu];simp[adw,SE.den,ao];exact⟨_,h1,h2⟩
def c91(r:Rl)(h:r.ax.length+r.az.length<=1000):CC 39 af [cN r] (dm (r.ax++r.az)):=by
 refine CC.of avI kr kr (by simpa using iQ r) aw ?_;have h1:=Kb (a:=[]) (b:=r.ax) (by simp;omega);have h2:=Kb h;simp only[azN,aAW]at h1;rw[cu];simp[aip,SE.den,ao];exact⟨_,h1,h2⟩
def agi(r:Rl)(h:r.aG.length+r.bn.length<=1000):CC 74 af [cN r] (gO (r.aG++r.bn)):=by
 refine CC.of ar7 kr kr (by simpa using iQ r) aw ?_;have h1:=ais (a:=[]) (b:=r.aG) (by simp;omega);have h2:=ais h;simp only[azN,aAW]at h1;rw[cu];simp[adx,SE.den,ao];exact⟨_,h1,h2⟩
def aka(x:Tm):∃cs,eE x=.agg cs/\cs.length=4/\cs.all ao=ab:=⟨_,bG x,rfl,rfl⟩
def SQ{a b:List Tm}(h:a.length+b.length<=1000):cX 4 56 (iT a) (iT b)=aa (iT (a++b)):=by
 have h2:=AB (s:=4) (enc:=eE) aka b;simp[cX,h2];omega
def xY{l:List Rl}{i:Nat}(h:i<l.length):cb 6 (mN l) (iI (i:Nat))=aa (.agg [iS l[i].name,dm l[i].ax,dm l[i].az,gO l[i].aG,gO l[i].bn,iI l[i].vars]):=cM (by simp[h,cN]) rfl
def kS{l:List Int}{i:Nat}(h:i<l.length):cb 1 (iL l) (iI (i:Nat))=aa (iI l[i]):=NL (by simp[h])
structure oB(r:Rl):Prop where
 h:r.ax.length+r.az.length<=3
 g:r.aG.length<=6
 b:r.bn.length<=6
 hs:∀a∈r.ax++r.az,a.ts.length<=8
 gs:∀a∈r.aG++r.bn,a.ts.length<=8
structure rA(r:Rl):Prop where
 n:Sm r.name
 hs:∀a∈r.ax++r.az,qq a
 gs:∀a∈r.aG++r.bn,pd a
def WF(t:Tm):Prop:=Dq t/\dS t
structure mO(r:Rl):Prop where
 hs:∀a∈r.ax++r.az,∀t∈a.ts,WF t
 gs:∀a∈r.aG++r.bn,(a.op≠0->jV a.op=a.ts.length)/\∀t∈a.ts,WF t
def PD(a b:Int):dg ayF .neq 38 (iI a) (iI b)=aa (iB (a !=b)):=rfl
def wP(p:Int->Prop)(z:IV):Prop:=∃b:Int,z=iI b/\p b
@[simp] theorem axD(p:Int->Prop)(b:Int):wP p (iI b)↔p b:=⟨λ⟨b',h1,h2⟩=>by cases h1;exact h2,λh=>⟨b,rfl,h⟩⟩
def CC.IG{n:Nat}{new:Bool}{f:FuncId}{dv:aq}{args:List IV}{cfg:fe}(p:Int->Prop)(he:aI ayF cfg n new f=dv)(hl:(ayF.funcs[f]?).map (·.params.size)=aa args.length)(ht:∀z,oP ayF f z=ab)(hp:∀x∈args,Pure x)(hn:noTwo dv=ab)
 (hs:dv.sat ayF CC (wP p) [] args):∃b,p b/\CC f new args (iI b):=by
 obtain⟨z,⟨b,rfl,hb⟩,h2⟩:=CC.Ix he hl (λz _=>ht z) hp (by rintro _ ⟨b,rfl,_⟩;exact .raw _) hn hs;exact⟨b,hb,h2⟩
def anl(p:Int->Prop)(z:IV):Prop:=∃a b:Int,z=.aF [iI a,iI b]/\p b
@[simp] theorem axE(p:Int->Prop)(a b:Int):anl p (.aF [iI a,iI b])↔p b:=⟨λ⟨a',b',h1,h2⟩=>by cases h1;exact h2,λh=>⟨a,b,rfl,h⟩⟩
def CC.anm{n:Nat}{new:Bool}{f:FuncId}{dv:aq}{args:List IV}{cfg:fe}(p:Int->Prop)(he:aI ayF cfg n new f=dv)(hl:(ayF.funcs[f]?).map (·.params.size)=aa args.length)(ht:∀a b,oP ayF f (.aF [iI a,iI b])=ab)(hp:∀x∈args,Pure x)(hn:noTwo dv=ab)
 (hs:dv.sat ayF CC (anl p) [] args):∃a b,p b/\CC f new args (.aF [iI a,iI b]):=by
 obtain⟨z,⟨a,b,rfl,hb⟩,h2⟩:=CC.Ix he hl (by rintro _ ⟨a,b,rfl,_⟩;exact ht a b) hp (by rintro _ ⟨a,b,rfl,_⟩;exact .aF _ aw) hn hs;exact⟨a,b,hb,h2⟩
def rA.for{r:Rl}(hn:rA r)(h1:∀a∈r.ax++r.az,∀t∈a.ts,dS t)(h2:∀a∈r.aG++r.bn,(a.op≠0->jV a.op=a.ts.length)/\∀t∈a.ts,dS t):mO r:=
 ⟨λa ha t ht=>⟨((hn.hs a ha).2.2 t ht).wf,h1 a ha t ht⟩,λa ha=>⟨(h2 a ha).1,λt ht=>⟨((hn.gs a ha).2.2 t ht).wf,(h2 a ha).2 t ht⟩⟩⟩
def ann:List Nat:=[266,24,25,7,69,257,72,26,71,137,70,139,225,145,183,75,76,136,186,140,184,224,138,185,9,28,27,143,77,142,141,74,144,73,146,78,39,95,93,162]
def ano:List Nat:=[269,226,259,217]
def anp:List Nat:=[201]
def anq:List Nat:=[185]
def asx(l:List Hint):fe:=⟨ann,ano,anp,l++[],anq⟩
def VS:aq:=
 (pN cE 3 cE (sN 2 3 (pQ 2 4 9 wo bR (sN 2 3 (pQ 2 5 3 C7 bJ (ud fF) jK)) jK)) M8)
def adS:aq:=
 (JO VS)
def asy:aI ayF (asx [⟨0,27,2,[(0,(7,0))],[],[],[]⟩]) 400 ab 27=adS:=by kernel_rfl
structure m_(p:Pg):Prop where
 d:p.bM.length<=12
 r:p.aQ.length<=8
 dn:∀d∈p.bM,Sm d.s
 rs:∀r∈p.aQ,oB r
 rn:∀r∈p.aQ,rA r
def asz{L:List De}{l:Nat}(h1:l<=L.length):nD 2 (gj L) (iI 0) (iI (l:Nat))=aa (gj (L.take l)):=by
 simp[nD,gW,h1,List.map_take]
def t34(a b:Int):oP ayF 9 (.aF [iI a,iI b])=ab:=by kernel_rfl
section
def E5{a b:List Int}(h:a.length+b.length<=1000000000):cX 1 8 (iL a) (iL b)=aa (iL (a++b)):=by
 have h2:fM 1 (b.map iI)=ab:=by
  unfold fM;rw[ayY];intro e he;obtain⟨x,_,rfl⟩:=ay8.1 he;rfl
 simp[cX,h2];omega
section rule
variable{Q:IV->Prop}{k0 k1 k2 k3 k4 k5:List IV->Prop}
end rule
variable{Q:IV->Prop}{k0 k1 k2 k3 k4 k5:List IV->Prop}
def VT:ayF.underlying 3=aa (.int .i64):=by kernel_rfl
end
def anr:List Nat:=[266,24,25,7,69,257,72,26,71,137,70,139,225,145,183,75,76,136,186,140,184,224,138,185,9,28,27,143,77,142,141,74,144,73,146,78,39,95,93,162]
def ans:List Nat:=[269,259,217]
def ant:List Nat:=[201]
def anu:List Nat:=[185]
def ait(l:List Hint):fe:=⟨anr,ans,ant,l++[],anu⟩
def YL:aq:=
 (lr cE 2 cE 3 bp 2 3 3 (fy 69 (ny 3) (iE da da uh)) gF)
def aiu:aq:=
 (sJ (iu cE .gtr cE bR bC YL))
def avV:aI ayF (ait [⟨0,25,4,[(0,(5,0))],[],[],[]⟩]) 400 af 25=aiu:=by kernel_rfl
def VU:aq:=
 (lr eU 1 eU 6 dp 1 6 2 (nA (jm 2) (jm 2) 3 bC (nA wm wm 3 bC (eH (jm 2) wm (nA (C8 (jm 2) wm) (C8 (jm 2) wm) 3 bC (nA J1 J1 6 bC (nA (SC 2) (SC 2) 6 bC (fy 24 mW (iE cA cA (fy 24 wi (iE da da (kA 25 (Gf 2) (.i 6) (iE cL cL (kA 25 (rV 2 4) (.i 6) (iE c_ c_ oK)))))))))))))) gF)
def VV:aq:=
 (yI (JH 0 0 12 (JH 1 1 8 VU)))
def asA:aI ayF (ait [⟨0,7,4,[(0,(3,0))],[],[],[]⟩]) 400 af 7=VV:=by kernel_rfl
def aiv{l:List Tm}(h:Dr l=ab):l.length<=8:=by
 unfold Dr at h;split at h
 .cases h
 .omega
def e79(l:List Gl)(n:Int)(hl:Sm l)(hw:∀g∈l,pd g):∃b,(b=ab->l.length<=n/\∀g∈l,g.ts.length<=8)/\CC 25 af [gO l,iI n] (iB b):=by
 refine CC.GO _ avV kr (λ_=>kr) aw (by rfl) ?_;simp[aiu,SE.den,ao];by_cases z:n<l.length
 .left;exact z
 right;refine⟨by omega,?_⟩;unfold YL;refine aB l.length (λi (_:Unit)=>[iI i]) (λi _=>∀g∈l.take i,g.ts.length<=8) () ?_ aw λi _ hi hI=>?_
 .simp[SE.den]
 by_cases ak:i<l.length
 .have pC:=aH ak hl;have hg:=hw _ (ayJ ak);have agj:=am_ l[i].ts λt ht=>(hg.2.2 t ht).wf;simp[SE.den,ak,pC,xX ak,ao];refine⟨_,agj,?_⟩;cases ht:Dr l[i].ts<;>simp;exact .mk () rfl aj (cy ak hI (aiv ht))
 .simp[SE.den,ak];exact⟨by omega,dj ak hI⟩
def e44(l:List At)(hl:Sm l)(hw:∀g∈l,qq g):∃b,(b=ab->∀g∈l,g.ts.length<=8)/\CC 24 af [dm l] (iB b):=by
 refine CC.GO _ avq kr (λ_=>kr) aw (by rfl) ?_;simp[aid,SE.den,ao];refine aB l.length (λi (_:Unit)=>[iI i]) (λi _=>∀g∈l.take i,g.ts.length<=8) () ?_ aw λi _ hi hI=>?_
 .simp[SE.den]
 by_cases ak:i<l.length
 .have pC:=aH ak hl;have hg:=hw _ (ayJ ak);have agj:=am_ l[i].ts λt ht=>(hg.2.2 t ht).wf;simp[SE.den,ak,pC,pe ak,ao];refine⟨_,agj,?_⟩;cases ht:Dr l[i].ts<;>simp;exact .mk () rfl aj (cy ak hI (aiv ht))
 .simp[SE.den,ak];exact dj ak hI
structure NmP(p:Pg):Prop where
 sd:Sm p.bM
 sr:Sm p.aQ
 d:∀d∈p.bM,Sm d.s
 r:∀r∈p.aQ,rA r/\Sm r.ax/\Sm r.az/\Sm r.aG/\Sm r.bn
def e30(p:Pg)(h:NmP p):∃b,(b=ab->m_ p)/\CC 7 af [bg p] (iB b):=by
 refine CC.GO _ asA kr (λ_=>kr) (by simpa using du p) (by rfl) ?_;obtain⟨ds,rs⟩:=p;obtain⟨sd,sr,hd,hr⟩:=h;simp only at*
 show VV.sat _ _ _ _ [.agg [gj ds,mN rs]];simp[VV,SE.den,ao];by_cases z:12<ds.length
 .left;omega
 right;refine⟨by omega,?_⟩;by_cases z:8<rs.length
 .left;omega
 right;refine⟨by omega,?_⟩;unfold VU;refine aB rs.length (λi (_:Unit)=>[iI i]) (λi _=>∀r∈rs.take i,oB r) () ?_ aw λi _ hi hI=>?_
 .simp[SE.den]
 by_cases ak:i<rs.length
 .have pC:=aH ak sr;obtain⟨eO,s1,s2,s3,s4⟩:=hr _ (ayJ ak);obtain⟨b1,f1,h1⟩:=e44 rs[i].ax s1 λa ha=>eO.hs a (azw _ ha);obtain⟨b2,f2,h2⟩:=e44 rs[i].az s2 λa ha=>eO.hs a (azH _ ha);obtain⟨b3,f3,h3⟩:=e79 rs[i].aG 6 s3 λa ha=>eO.gs a (azw _ ha);obtain⟨b4,f4,h4⟩:=e79 rs[i].bn 6 s4 λa ha=>eO.gs a (azH _ ha);simp[SE.den,ak,pC,xY ak,ao];by_cases y1:3<rs[i].ax.length
  .left;omega
  right;refine⟨by omega,?_⟩;by_cases y2:3<rs[i].az.length
  .left;omega
  right;refine⟨by omega,?_⟩;have hwl:azc.wrap ((rs[i].ax.length:Int)+(rs[i].az.length:Int))=rs[i].ax.length+rs[i].az.length:=eN aj aj;simp[hwl];by_cases y3:(3:Int)<rs[i].ax.length+rs[i].az.length
  .left;exact y3
  right;refine⟨by omega,?_⟩;by_cases y4:6<rs[i].aG.length
  .left;omega
  right;refine⟨by omega,?_⟩;by_cases y5:6<rs[i].bn.length
  .left;omega
  right;refine⟨by omega,?_⟩;refine⟨_,h1,?_⟩;cases b1<;>simp;refine⟨_,h2,?_⟩;cases b2<;>simp;refine⟨_,h3,?_⟩;cases b3<;>simp;refine⟨_,h4,?_⟩;cases b4<;>simp;refine .mk () rfl aj (cy ak hI ⟨by omega,by omega,by omega,λa ha=>?_,λa ha=>?_⟩)
  .rcases ayS.1 ha with ha|ha
   .exact f1 rfl a ha
   .exact f2 rfl a ha
  .rcases ayS.1 ha with ha|ha
   .exact(f3 rfl).2 a ha
   .exact(f4 rfl).2 a ha
 .simp[SE.den,ak];exact⟨by simp;omega,by simp;omega,hd,dj ak hI,λr qL=>(hr r qL).1⟩
def asB:ayF.underlying 9=aa .string:=by kernel_rfl
def eq9(d:Nat)(a b:ByteArray):aK ayF (azE (d+1) 9 (.string a) (.string b))=aa (a==b):=by
 rw[azE,aO,Go.Ev.run_underlying asB,ayK];rfl
def KT(d:Nat)(a b:Int):aK ayF (azE (d+1) 3 (.int .i64 a) (.int .i64 b))=aa (a==b):=by
 rw[azE,aO,Go.Ev.run_underlying VT,ayK];rfl
def anv(d:Nat)(x y x' y':Value)(b1 b2:Bool)(h1:aK ayF (azE (d+1) 9 x x')=aa b1)(h2:aK ayF (azE (d+1) 3 y y')=aa b2):
 aK ayF (azE (d+2) 82 (.agg #[x,y]) (.agg #[x',y']))=aa (b1&&b2):=by
 rw[azE,aO,Go.Ev.run_underlying aC9,ayK];have bL:ayF.stoodInHeld 82=af:=by kernel_rfl
 have p9:∀(a b:Value),aK ayF (part 9 #[a,b] 0)=aa a:=λa b=>by kernel_rfl
 have p3:∀(a b:Value),aK ayF (part 3 #[a,b] 1)=aa b:=λa b=>by kernel_rfl
 have hp:aK ayF program=aa ayF:=rfl;rw[aO,hp,ayK,bL];simp only[azi,if_false,<-Array.forIn_toList,List.forIn_cons,List.forIn_nil,aO,ne_eq,String.reduceEq,not_false_eq_true,if_true,p9,p3,ayK,h1,h2];have q:∀{α:Type} (a:α),aK ayF (pure a)=aa a:=λ_=>rfl;cases b1
 .rfl
 .simp only[Bool.not_true,azi,if_false,q,ayK,aO,p3,h2];cases b2<;>rfl
def bq(a b:List UInt8):((⟨a.toArray⟩:ByteArray)==⟨b.toArray⟩)=(a==b):=by
 show(a.toArray==b.toArray)=_;simp
def anw(P:Program)(t:TypeId)(a b c d:Value)(r:Bool)(hg:aK P (eqGuard .eql t (.func 0) (.func 0) (.agg #[a,b]) (.agg #[c,d]))=aa ())(h:aK P (aA8 t (.agg #[a,b]) (.agg #[c,d]))=aa r):
 dg P .eql t (.agg [.raw a,.raw b]) (.agg [.raw c,.raw d])=aa (iB r):=by
 show(aK P (do eqGuard .eql t (.func 0) (.func 0) (.agg #[a,b]) (.agg #[c,d]);aAu .eql t (.agg #[a,b]) (.agg #[c,d]))).map lift=_;rw[aO,hg];show(aK P (do pure (.bool (<-aA8 t (.agg #[a,b]) (.agg #[c,d]))))).map lift=_;rw[aO,h];rfl
deriving instance DecidableEq for De
def adT(s s':List UInt8)(n n':Int):dg ayF .eql 82 (.agg [iS s,iI n]) (.agg [iS s',iI n'])=aa (iB (s==s'&&n==n')):=by
 refine anw _ _ _ _ _ _ _ (by kernel_rfl) ?_;rw[<-bq];exact anv 9998 _ _ _ _ _ _ (eq9 _ _ _) (KT _ _ _)
def gI(d:De):Value:=.agg #[.string ⟨d.s.toArray⟩,.int .i64 d.n]
def eqK(k e:De):aK ayF (aA8 82 (gI k) (gI e))=aa (decide (k=e)):=by
 have h:aK ayF (aA8 82 (gI k) (gI e))=aa (k.s==e.s&&k.n==e.n):=by
  rw[<-bq];exact anv 9998 _ _ _ _ _ _ (eq9 _ _ _) (KT _ _ _)
 rw[h];obtain⟨a,b⟩:=k;obtain⟨c,d⟩:=e;simp;rw[Bool.eq_iff_iff];simp
def wQ{α:Type}(P:Program)(a:α):aK P (pure a)=aa a:=rfl
theorem aiw(k:De):∀(ks:List De) (i:Nat),(k∈ks->∃j,aK ayF (azt 82 (gI k) (ks.map λe=>⟨gI e,azm,0⟩) i)=aa (aa (i+j,azm))/\ks[j]?=aa k)/\
 (k∉ks->aK ayF (azt 82 (gI k) (ks.map λe=>⟨gI e,azm,0⟩) i)=aa ah)
 |[],i=>by simp[azt,wQ]
 |e::ks,i=>by
  obtain⟨h1,h2⟩:=aiw k ks (i+1)
  have hu:aK ayF (azt 82 (gI k) ((e::ks).map λe=>⟨gI e,azm,0⟩) i)=aK ayF (if decide (k=e)=ab then pure (aa (i,azm))else azt 82 (gI k) (ks.map λe=>⟨gI e,azm,0⟩) (i+1)):=by
   rw[azr,azt,aO,eqK,ayK]
  rw[hu];by_cases h:k=e
  .subst h;exact⟨λ_=>⟨0,by rw[if_pos aw];simp[wQ],rfl⟩,λhn=>absurd aw hn⟩
  .rw[if_neg (by simpa using h)];refine⟨λhm=>?_,λhn=>h2 λhm=>hn (by simp[hm])⟩;obtain⟨j,g1,g2⟩:=h1 (by simpa[h]using hm);exact⟨j+1,by rw[g1,show i+1+j=i+(j+1) by omega],by simpa using g2⟩
def E6(b:Bool)(k:De):aK ayF (Instr.checkKey b 10000 82 (gI k))=aa ():=by
 obtain⟨s,n⟩:=k;cases b<;>kernel_rfl
def VW(k:De)(ks:List De):aK ayF (azR 82 (gI k) (ks.map λe=>⟨gI e,azm,0⟩))=aK ayF (azt 82 (gI k) (ks.map λe=>⟨gI e,azm,0⟩) 0):=by
 unfold azR;rw[aO,Go.Ev.run_underlying aC9,ayK];cases ks with
 |nil=>rfl
 |cons e ks=>rfl
def akb(b:Bool)(k:De)(ks:List De):(k∈ks->∃j,fG ayF b 82 (gI k) ((ks.map gI).map λe=>(e,.undef,0))=aa (aa j)/\ks[j]?=aa k)/\(k∉ks->fG ayF b 82 (gI k) ((ks.map gI).map λe=>(e,.undef,0))=aa ah):=by
 have hm:(((ks.map gI).map λe=>(e,(.undef:IV),0)).map λe=>({key:=e.1,val:=azm,born:=e.2.2}:MapEntry))=ks.map λe=>⟨gI e,azm,0⟩:=by
  rw[aCe,aCe];rfl
 obtain⟨h1,h2⟩:=aiw k ks 0;refine⟨λh=>?_,λh=>?_⟩
 .obtain⟨j,g1,g2⟩:=h1 h;refine⟨j,?_,g2⟩;unfold fG;rw[aO,E6,ayK,hm,VW,g1];simp
 .unfold fG;rw[aO,E6,ayK,hm,VW,h2 h]
def adU(k:De):aAD 10000 (gI k) (gI k)=ab:=by
 show((#[_,_]:Array Value).size==2&&_)=ab;simp[aAD,bq]
def GS(d:De):IV:=.aF [.agg [iS d.s,iI d.n],iB ab]
theorem adV:∀ds:List De,mH (ds.map GS)=aa (ds.map gI)
 |[]=>rfl
 |k::ks=>by simp[mH,GS,Ev.keyOf,adV ks,gI];rfl
def akc(ds:List De)(k:De):(k∈ds->∃j,fK ayF 82 (ds.map GS) (.agg [iS k.s,iI k.n])=aa (aa j)/\ds[j]?=aa k)/\(k∉ds->fK ayF 82 (ds.map GS) (.agg [iS k.s,iI k.n])=aa ah):=by
 have h:fK ayF 82 (ds.map GS) (.agg [iS k.s,iI k.n])=EP ayF 82 (ds.map gI) (gI k):=by
  unfold fK;rw[adV];have:xN ayF 82=ah:=by kernel_rfl
  rw[this];rfl
 rw[h];obtain⟨a1,a2⟩:=akb ab k ds
 have hb:fG ayF af 82 (gI k) ((ds.map gI).map λe=>(e,.undef,0))=fG ayF ab 82 (gI k) ((ds.map gI).map λe=>(e,.undef,0)):=by
  unfold fG;rw[aO,aO,E6,E6]
 unfold EP;rw[hb];refine⟨λhm=>?_,λhm=>?_⟩
 .obtain⟨j,g1,g2⟩:=a1 hm;refine⟨j,?_,g2⟩;rw[g1];simp only[if_true];rw[ay1,g2];simp only[azl,adU,if_true]
 .rw[a2 hm];simp
abbrev dC(ls:List (List Int)):IV:=.tree 1 (ls.map iL)
def adW{ls:List (List Int)}{i:Nat}(h:i<ls.length):cb 1 (dC ls) (iI (i:Nat))=aa (iL ls[i]):=cM (by simp[h]) rfl
def Ru{ls:List (List Int)}{i:Nat}(h:i<ls.length):(ls.take (i+1)).flatten=(ls.take i).flatten++ls[i]:=by
 rw[ayN h,azI];simp only[aA9,aB7,ay2]
def PE(ls:List (List Int))(i:Nat):(ls.take i).flatten.length<=ls.flatten.length:=by
 conv=>rhs;rw[<-azW i ls,azI,ayP]
 omega
def GU(ls:List (List Int)):Pure (dC ls):=by
 refine .tree 1 _ λe he c hc=>?_;obtain⟨x,_,rfl⟩:=ay8.1 he;simp[cellsOf]at hc;subst hc;exact EY x
end Go.Proofs.YtabefplkfkfdfaaGreat
namespace Go.Proofs.YtabefplkfkfdfaaGreat
open Go Go.RowKit Go.Shelf
attribute [local go_sem] Oper.semAt_some
set_option maxRecDepth 100000 in
set_option maxHeartbeats 1000000 in
def YM(F:Fence)(n:Nat)(h:F.fn 267)(eA:F.round=ah)(k m:Int)(s:ByteArray)(sl r:Value)(hr:r=if k=2 then sl else .slice ah 0 0)(w:World):
 CallsIn F n ayF 267 #[.agg #[.int .i64 k,.int .i64 m,.string s,sl]] w λe w'=>e=.returned r/\w'=w.alloc (.cells #[.int .i64 k,.int .i64 m,.string s,sl] 106):=by
 refine callsIn_of_wp Tryz.func267 rfl h ?_ eA;simp only[Tryz.ntmps267,aAj,azh,aAm,aAO,aAP,az4,az5,aAk,az_,azN,azO];subst hr
 gi_wp2
 all_goals first|(go_ret;exact⟨rfl,rfl⟩)|(exfalso;simp_all)
def wrap_small(i:Nat)(h:i+1<=9223372036854775807):wrap64 ((i:Int)+1)=((i+1:Nat):Int):=by unfold wrap64;omega
def Kc(n i:Nat)(h:i<n):n-(intOf (.int .i64 ((i+1:Nat):Int))).toNat<n-(intOf (.int .i64 (i:Int))).toNat:=by simp only[intOf];omega
abbrev ij:={x:Int//0<=x/\x<=1048576}
def SW(n₀:Nat)(W:World)(R:Value->List ij->Prop)(sl:Value)(kT:List (List ij)):Prop:=
 kT.length<=9223372036854775807/\((kT=[]/\∃a cap,sl=.slice a 0 cap)\/
 ∃b off cap,sl=.slice (aa ⟨b,off,ah⟩) kT.length cap/\b<n₀/\∀(i:Nat) (xs:List ij),kT[i]?=aa xs->∃u0 u1 u2 u3,W.cell? ⟨b,off+i*4,ah⟩=aa u0/\W.cell? ⟨b,off+i*4+1,ah⟩=aa u1/\
  W.cell? ⟨b,off+i*4+2,ah⟩=aa u2/\W.cell? ⟨b,off+i*4+3,ah⟩=aa u3/\R (.agg #[u0,u1,u2,u3]) xs)
def TW(n₀:Nat)(W:World):Nat->Value->List ij->Prop
 |0,_,_=>False
 |d+1,v,xs=>∃k n s a l c,v=.agg #[.int .i64 k,.int .i64 n,.string s,.slice a l c]/\((k=1/\∃h,xs=[⟨n,h⟩])\/(k≠1/\k≠2/\xs=[])\/(k=2/\∃kT,SW n₀ W (TW n₀ W d) (.slice a l c) kT/\xs=kT.flatten))
def TW.form{n₀:Nat}{W:World}:∀{d:Nat} {v:Value} {xs:List ij},TW n₀ W d v xs->∃k n s a l c,v=.agg #[.int .i64 k,.int .i64 n,.string s,.slice a l c]
 |0,_,_,ht=>ht.elim
 |d+1,_,_,⟨k,n,s,a,l,c,h1,_⟩=>⟨k,n,s,a,l,c,h1⟩
def SW.below{n₀:Nat}{A B:World}(h:Below n₀ A B){R R':Value->List ij->Prop}(hR:∀v xs,R v xs->R' v xs){sl:Value}{kT:List (List ij)}(hs:SW n₀ A R sl kT):SW n₀ B R' sl kT:=by
 rcases hs with⟨hl,hs|⟨b,off,cap,h1,h2,h3⟩⟩
 .exact⟨hl,.inl hs⟩
 .refine⟨hl,.inr ⟨b,off,cap,h1,h2,λi xs hi=>?_⟩⟩;obtain⟨u0,u1,u2,u3,g0,g1,g2,g3,g4⟩:=h3 i xs hi;exact⟨u0,u1,u2,u3,(h.cell h2).trans g0,(h.cell h2).trans g1,(h.cell h2).trans g2,(h.cell h2).trans g3,hR _ _ g4⟩
theorem TW.below{n₀:Nat}{A B:World}(h:Below n₀ A B):∀{d:Nat} {v:Value} {xs:List ij},TW n₀ A d v xs->TW n₀ B d v xs
 |0,_,_,ht=>ht
 |d+1,_,_,⟨k,n,s,a,l,c,h1,h2⟩=>⟨k,n,s,a,l,c,h1,h2.imp id λh2=>h2.imp id λ⟨hk,kT,h3,h4⟩=>⟨hk,kT,h3.below h λ_ _=>TW.below h,h4⟩⟩
def Sg{F:Fence}(hd:F.depth=ah)(k:Nat):F.room k:=λd h=>by rw[hd]at h;cases h
def RoundIn.IH{F:Fence}(hd:F.depth=ah){m m':Nat}{P:Program}{l:Nat}{f:FuncId}{tmps:Array Value}{assign body:Code}{w:World}{R:Ending->World->Prop}
 (h:RoundIn F m P l f tmps assign body w R):RoundIn F m' P l f tmps assign body w R:=⟨h.1,λc cs _=>h.2 c cs (Sg hd _)⟩
theorem YieldAt.IH{F:Fence}(hd:F.depth=ah){m:Nat}(m':Nat){P:Program}{l:Nat}{args:Array Value}{W:World}{R:Ending->World->Prop}(h:YieldAt F m P l args W R):YieldAt F m' P l args W R:=by
 obtain⟨fn,tmps,assign,body,hy,hR⟩:=h;exact⟨fn,tmps,assign,body,hy,RoundIn.IH hd hR⟩
set_option maxRecDepth 100000 in
set_option maxHeartbeats 2000000 in
def akd(F:Fence)(hd:F.depth=ah)(zM:F.fn 246)(D9:F.fn 267)(eA:F.round=ah)(l n₀ N:Nat)(J Jx:List ij->World->Prop)
 (Rj:∀pre W W',J pre W->W.grownBy W' ah->J pre W')
 (hY:∀m pre (x:ij) W,J pre W->pre.length<N->YieldAt F m ayF l #[.int .i64 x.1] W λe W'=>
  (e=.returned (.bool ab)/\J (pre++[x]) W'/\Below n₀ W W')\/(e=.returned (.bool af)/\Jx (pre++[x]) W')):
 ∀(d n:Nat) (v:Value) (xs pre:List ij) (W:World),TW n₀ W d v xs->n₀<=W.heap.size->J pre W->pre.length+xs.length<=N->
  CallsIn F n ayF 246 #[v,.func (.yield l) #[] #[]] W λe W'=>
   (e=.returned (.bool ab)/\J (pre++xs) W'/\Below n₀ W W')\/(e=.returned (.bool af)/\∃q,q<+:xs/\Jx (pre++q) W'):=by
 have Kt:∀k:Nat,(F.depth.isSome=ab->1<=k):=λk h=>by rw[hd]at h;cases h
 intro d;induction d with
 |zero=>intro n v xs pre W ht;exact ht.elim
 |succ d ih=>
  intro n v xs pre W ht hn hJ hN;obtain⟨k,m,s,a0,l0,c0,rfl,YN⟩:=ht;obtain⟨sl,Km⟩:∃sl,sl=aCz a0 l0 c0:=⟨_,rfl⟩;rw[<-Km]at YN⊢;clear Km a0 l0 c0;refine callsIn_of_wp Tryz.func246 rfl zM ?_ eA;simp only[Tryz.ntmps246,aAj,azh,aAm,aAO,aAP,az4,az5,aAk,az_,azN,azO];have bE:=Rj pre W (W.alloc (.cells #[.int .i64 k,.int .i64 m,.string s,sl] 106)) hJ (aBh W _ ah);rcases YN with⟨hk,hmw,rfl⟩|YN
  .subst hk;simp only[List.length_singleton]at hN⊢;obtain⟨fn,tmps,assign,body,hy,hR⟩:=hY (n- 1) pre ⟨m,hmw⟩ _ bE (by omega)
   gi_wp2_with ((try refine⟨Kt _,?_⟩);refine hR.mono ?_;clear hR;rintro e W2 (⟨rfl,fq,dw⟩|⟨rfl,s5⟩))
   .go_ret
    exact .inl ⟨rfl,fq,((aAF n₀ W).alloc hn _).trans dw⟩
   .go_ret
    exact .inr ⟨rfl,_,⟨[],ay2 _⟩,s5⟩
  .have hk:k≠1:=by
    rcases YN with⟨h,_⟩|⟨h,_⟩
    .exact h
    .omega
   obtain⟨r,hr⟩:∃r,r=if k=2 then sl else aCz ah 0 0:=⟨_,rfl⟩
   obtain⟨us,hrs,oz⟩:∃us:List (List ij),SW n₀ W (TW n₀ W d) r us/\us.flatten=xs:=by
    rcases YN with⟨_,h2,rfl⟩|⟨h2,kT,hs,rfl⟩
    .exact⟨[],by rw[hr,if_neg h2];exact⟨by simp,.inl ⟨rfl,ah,0,rfl⟩⟩,rfl⟩
    .exact⟨kT,by rw[hr,if_pos h2];exact hs,rfl⟩
   rw[<-oz]at hN⊢;have hH:Hid (r=if k=2 then sl else aCz ah 0 0):=hr;clear oz hr YN;rcases hrs with⟨Ca,⟨rfl,a,cap,rfl⟩|⟨b,off,cap,rfl,Du,py⟩⟩
   .gi_wp2_with (first
     |((try refine⟨Kt _,?_⟩);gi_at_call 267;refine(YM F _ D9 eA k m s sl _ hH.out _).mono ?_;rintro e w' ⟨rfl,rfl⟩))
    gi_loopw [17] (λp wr=>p=.int .i64 0/\J pre wr/\Below n₀ W wr) (λ_ _=>0)
    case atStart=>exact⟨rfl,Rj _ _ _ bE (aBh _ _ ah),((aAF n₀ W).alloc hn _).alloc (by simp;omega) _⟩
    case round=>
     obtain⟨rfl,Dv,vq⟩:=hrel
     gi_wp2
     go_ret
     exact .inl ⟨rfl,by simpa using Dv,vq⟩
   .gi_wp2_with (first
     |((try refine⟨Kt _,?_⟩);gi_at_call 267;refine(YM F _ D9 eA k m s sl _ hH.out _).mono ?_;rintro e w' ⟨rfl,rfl⟩))
    gi_loopw [17] (λp wr=>∃i:Nat,p=.int .i64 i/\i<=us.length/\J (pre++(us.take i).flatten) wr/\Below n₀ W wr) (λp _=>us.length-(intOf p).toNat)
    case atStart=>exact⟨0,rfl,by omega,by simpa using Rj _ _ _ bE (aBh _ _ ah),((aAF n₀ W).alloc hn _).alloc (by simp;omega) _⟩
    case round=>
     obtain⟨i,rfl,hi,Dv,vq⟩:=hrel;by_cases ak:i<us.length
     .have gB:(i:Int)<(us.length:Int):=by omega
      obtain⟨u0,u1,u2,u3,g0,g1,g2,g3,g4⟩:=py i us[i] (ayG ak);have c0:wr.cell? ⟨b,off+i*4,ah⟩=aa u0:=(vq.cell Du).trans g0;have c1:wr.cell? ⟨b,off+i*4+1,ah⟩=aa u1:=(vq.cell Du).trans g1;have c2:wr.cell? ⟨b,off+i*4+2,ah⟩=aa u2:=(vq.cell Du).trans g2;have c3:wr.cell? ⟨b,off+i*4+3,ah⟩=aa u3:=(vq.cell Du).trans g3;obtain⟨k',n',s',a',l',c',he⟩:=g4.form;simp only[aCI,aCU,aBb,and_true]at he;obtain⟨rfl,rfl,rfl,rfl⟩:=he;have bo:n₀<=wr.heap.size:=ay6 hn vq.size;have NT:(us.take (i+1)).flatten=(us.take i).flatten++us[i]:=by rw[ayN ak,azI];simp only[aA9,aB7,ay2]
      have hle:(us.take i).flatten.length+us[i].length<=us.flatten.length:=by
       rw[<-ayP,<-NT]
       conv=>rhs;rw[<-azW (i+1) us,azI,ayP]
       omega
      have ihc:=ih (n- 1) _ us[i] (pre++(us.take i).flatten) (wr.alloc (.cells #[.int .i64 k',.int .i64 n',.string s',.slice a' l' c'] 106)) (g4.below (vq.alloc bo _)) (by simp;omega) (Rj _ _ _ Dv (aBh _ _ ah)) (by rw[ayP];omega);clear g4 py;have pC:wrap64 ((i:Int)+1)=((i+1:Nat):Int):=wrap_small i (by omega)
      gi_wp2_with ((try refine⟨Kt _,?_⟩);refine ihc.mono ?_;clear ihc;rintro e W3 (⟨rfl,wI,dQ⟩|⟨rfl,q,hq,KO⟩))
      .go_roundw
       case rel=>exact⟨i+1,by first|rfl|rw[pC],ak,by rw[NT,<-ay3];exact wI,(vq.alloc bo _).trans dQ⟩
       case measure=>first|exact Kc _ _ ak|(rw[pC];exact Kc _ _ ak)
      .go_ret
       obtain⟨t,ht⟩:=hq;refine .inr ⟨rfl,(us.take i).flatten++q,⟨t++(us.drop (i+1)).flatten,?_⟩,by rw[<-ay3];exact KO⟩
       conv=>rhs;rw[<-azW (i+1) us,azI,NT,<-ht]
       simp[ay3]
     .have gB:¬(i:Int)<(us.length:Int):=by omega
      gi_wp2
      go_ret
      have:us.take i=us:=ayV (by omega);exact .inl ⟨rfl,by rw[this]at Dv;exact Dv,vq⟩
set_option maxRecDepth 100000 in
set_option maxHeartbeats 2000000 in
def agk(F:Fence)(hd:F.depth=ah)(uV:F.fn 245)(zM:F.fn 246)(D9:F.fn 267)(eA:F.round=ah)(n d l Bn n₀:Nat)(sl:Value)(us:List (List ij))(J Jx:List ij->World->Prop)
 (Rj:∀pre W W',J pre W->W.grownBy W' ah->J pre W')
 (hY:∀pre (x:ij) W,J pre W->pre.length<us.flatten.length->YieldAt F (n- 1) ayF l #[.int .i64 x.1] W λe W'=>
  (e=.returned (.bool ab)/\J (pre++[x]) W'/\Below n₀ W W')\/(e=.returned (.bool af)/\Jx (pre++[x]) W'))
 (W:World)(hb:Bn<n₀)(hn:n₀<=W.heap.size)(hBn:W.cell? ⟨Bn,0,ah⟩=aa sl)(hL:SW n₀ W (TW n₀ W d) sl us)(h0:J [] W):
 CallsIn F n ayF 245 #[.func (.yield l) #[] #[],.pointer (aa ⟨Bn,0,ah⟩)] W λe W'=>(∃v,e=.returned v)/\
  ((∃ys,ys=us.flatten/\J ys W')\/(∃pre,pre<+:us.flatten/\Jx pre W')):=by
 have Kt:∀k:Nat,(F.depth.isSome=ab->1<=k):=λk h=>by rw[hd]at h;cases h
 have hw:=akd F hd zM D9 eA l n₀ us.flatten.length J Jx Rj (λm pre x W hj hl=>YieldAt.IH hd m (hY pre x W hj hl)) d (n- 1);obtain⟨Ca,⟨rfl,a,cap,rfl⟩|⟨b,off,cap,rfl,Du,py⟩⟩:=hL
 .refine callsIn_of_wp aD2 rfl uV ?_ eA;simp only[aDT,aAj,azh,aAm,aAO,aAP,az4,az5,aAk,az_,azN,azO]
  gi_wp2
  gi_loopw [6] (λp wr=>p=.int .i64 0/\J [] wr/\Below n₀ W wr) (λ_ _=>0)
  case atStart=>exact⟨rfl,h0,aAF n₀ W⟩
  case round=>
   obtain⟨rfl,Dv,vq⟩:=hrel
   gi_wp2
   go_end0
   exact⟨⟨_,rfl⟩,.inl ⟨_,rfl,Dv⟩⟩
 .refine callsIn_of_wp aD2 rfl uV ?_ eA;simp only[aDT,aAj,azh,aAm,aAO,aAP,az4,az5,aAk,az_,azN,azO]
  gi_wp2
  gi_loopw [6] (λp wr=>∃i:Nat,p=.int .i64 i/\i<=us.length/\J (us.take i).flatten wr/\Below n₀ W wr) (λp _=>us.length-(intOf p).toNat)
  case atStart=>exact⟨0,rfl,by omega,by simpa using h0,aAF n₀ W⟩
  case round=>
   obtain⟨i,rfl,hi,Dv,vq⟩:=hrel;have hBc:wr.cell? ⟨Bn,0,ah⟩=aa (.slice (aa ⟨b,off,ah⟩) us.length cap):=(vq.cell hb).trans hBn;by_cases ak:i<us.length
   .have gB:(i:Int)<(us.length:Int):=by omega
    obtain⟨u0,u1,u2,u3,g0,g1,g2,g3,g4⟩:=py i us[i] (ayG ak);have c0:wr.cell? ⟨b,off+i*4,ah⟩=aa u0:=(vq.cell Du).trans g0;have c1:wr.cell? ⟨b,off+i*4+1,ah⟩=aa u1:=(vq.cell Du).trans g1;have c2:wr.cell? ⟨b,off+i*4+2,ah⟩=aa u2:=(vq.cell Du).trans g2;have c3:wr.cell? ⟨b,off+i*4+3,ah⟩=aa u3:=(vq.cell Du).trans g3;have NT:(us.take (i+1)).flatten=(us.take i).flatten++us[i]:=by rw[ayN ak,azI];simp only[aA9,aB7,ay2]
    have hle:(us.take i).flatten.length+us[i].length<=us.flatten.length:=by
     rw[<-ayP,<-NT]
     conv=>rhs;rw[<-azW (i+1) us,azI,ayP]
     omega
    have ihc:=hw _ us[i] (us.take i).flatten wr (g4.below vq) (ay6 hn vq.size) Dv hle;obtain⟨k',n',s',a',l',c',he⟩:=g4.form;simp only[aCI,aCU,aBb,and_true]at he;obtain⟨rfl,rfl,rfl,rfl⟩:=he;clear g4 py hw;have pC:wrap64 ((i:Int)+1)=((i+1:Nat):Int):=wrap_small i (by omega)
    gi_wp2_with ((try refine⟨Kt _,?_⟩);refine ihc.mono ?_;clear ihc;rintro e W3 (⟨rfl,wI,dQ⟩|⟨rfl,q,hq,KO⟩))
    .go_roundw
     case rel=>exact⟨i+1,by first|rfl|rw[pC],ak,by rw[NT];exact wI,vq.trans dQ⟩
     case measure=>first|exact Kc _ _ ak|(rw[pC];exact Kc _ _ ak)
    .refine bodyPost_ret (results_none rfl _ _ _) rfl ?_;obtain⟨t,ht⟩:=hq;refine⟨⟨_,rfl⟩,.inr ⟨(us.take i).flatten++q,⟨t++(us.drop (i+1)).flatten,?_⟩,KO⟩⟩
     conv=>rhs;rw[<-azW (i+1) us,azI,NT,<-ht]
     simp[ay3]
   .have gB:¬(i:Int)<(us.length:Int):=by omega
    gi_wp2
    go_end0
    have:us.take i=us:=ayV (by omega);rw[this]at Dv
    first|exact Dv|exact⟨⟨_,rfl⟩,.inl Dv⟩|exact .inl Dv|exact⟨⟨_,rfl⟩,.inl ⟨_,rfl,Dv⟩⟩
def aa6(F:Fence)(hd:F.depth=ah)(uV:F.fn 245)(zM:F.fn 246)(D9:F.fn 267)(eA:F.round=ah)(n d Bn n₀:Nat)(sl:Value)(us:List (List ij))(w:World)(hb:Bn<n₀)(hn:n₀<=w.heap.size)
 (hc:w.cell? ⟨Bn,0,ah⟩=aa sl)(hL:SW n₀ w (TW n₀ w d) sl us):
 SeqStopsK F n ayF 245 #[.pointer (aa ⟨Bn,0,ah⟩)] (λx:ij=> #[Value.int .i64 x.1]) (Below n₀) (λys=>ys=us.flatten) (λpre=>pre<+:us.flatten) us.flatten.length w:=λl J Jx W hW hJ _ hY h0=>
 agk F hd uV zM D9 eA n d l Bn n₀ sl us J Jx (λpre A B hj hg=>hJ pre A B ah hj hg (λr e=>by cases e)) hY W hb (ay6 hn hW.size) ((hW.cell (p:=⟨Bn,0,ah⟩) (by show Bn<_;omega)).trans hc) (hL.below (hW.mono hn) λ_ _=>TW.below (hW.mono hn)) h0
set_option maxHeartbeats 1000000 in
def PF(F:Fence)(n:Nat)(h:F.fn 208)(eA:F.round=ah)(a:Option Addr)(ln cp:Nat)(w:World):
 CallsIn F n ayF 208 #[.slice a ln cp] w λe w'=>e=.returned (.func (.func 245) #[] #[.pointer (aa ⟨w.heap.size,0,ah⟩)])/\w'=w.alloc (.cells #[.slice a ln cp] 68):=by
 refine callsIn_of_wp Tryz.func208 rfl h ?_ eA;simp only[Tryz.ntmps208,aAj,azh,aAm,aAO,aAP,az4,az5,aAk,az_,azN,azO]
 gi_wp2
 go_ret
 exact⟨rfl,rfl⟩
end Go.Proofs.YtabefplkfkfdfaaGreat
