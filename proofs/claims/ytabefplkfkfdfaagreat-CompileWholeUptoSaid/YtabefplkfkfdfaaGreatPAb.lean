/- Lemmas over the model, without conditions. -/
import Derived.Test.YtabefplkfkfdfaaGreatPAa
open Option renaming map_eq_some_iff->awj,getD_some->aw8,map_some->awQ,isSome_iff_exists->aym
open Bool renaming and_eq_true->awb,false_eq_true->awA,not_eq_true'->awX,or_eq_true->awO,not_true->axu,false_or->ayc
open Go.Deferred renaming ofValue->azo
open Array renaming eq_empty_of_size_eq_zero->azE,ext'->ayR,toList_map->azJ,getD_eq_getD_getElem?->aw9,getElem?_setIfInBounds->azP,getElem?_eq_getElem->awF,getElem?_eq_none->ayA,toList_setIfInBounds->azU,replicate->axc,getElem?_replicate->azZ,getElem?_eq_some_iff->aw4,all_eq_true'->aAr,getElem?_toList->aya
open Go.Sem renaming run_bind->awn,run_pure->awz
open Go.Result renaming andThen_ok->awg
open Go.Instr renaming typeAssert->ayY,getLoop->aA8,endRound->aA1,yield->aAm,enterLoop->azQ
open Nat renaming le_refl->awe,le_of_eq->aBy,blt->aw6,blt_eq->aAa,le_trans->awy,lt_of_not_le->ayr,lt_of_lt_of_le->axV,testBit->awC,lor->az6,testBit_or->aBk,shiftLeft->azp,lt_or_eq_of_le->ayT,lt_trichotomy->ayW,strongRecOn->aA9,zero_le->aw5
open Go renaming undef->awT
open Go.Region renaming wanted->azh,binds->axH,ready->axd
open Go.stepG renaming exec->aBz
open Go.Frame renaming atR->aBF
open Go.Fence renaming wide->awP,inRound->aA7
open Go.Code renaming roundsIn->aBj,region->aBA
open List renaming foldl_cons->awW,range'->axN,drop_drop->ayj,length_cons->awJ,range'_succ->ayI,range_eq_range'->ay9,mapM_nil->aAb,mapM_cons->ayk,zipIdx_cons->azL,map_congr_left->ayn,getD_eq_getElem?_getD->awS,mk_mem_zipIdx_iff_getElem?->axm,all_eq_true->awt,mem_filter->aw7,mem_cons->aws,mem_append->awm,nil_append->axp,cons_append->axk,mem_iff_getElem?->ay_,getElem?_zipIdx->aza,mem_range->axL,getElem?_eq_getElem->av_,mem_of_getElem?->awq,getElem?_eq_some_iff->awa,mem_cons_of_mem->awI,filter_cons->aAT,mem_cons_self->ayx,getElem_of_mem->azq,getElem_zipIdx->azr
open Go.LoopState renaming busy->aBN
open Decidable renaming byContradiction->aye
open Go.Oper renaming semAt_eq->axW,uponIn_value->ayZ,uponIn_skip->aAS,uponIn_enter->azK,uponIn_defer->aAF
open Go.Exit renaming inBlock->aBt
open Go.Call renaming operands->azl
open Option.some renaming injEq->awf,inj->ayh
open List.cons renaming inj->ayv,injEq->axC
open Classical renaming byContradiction->aw2
open Option renaming some->aa,none->ah
open Bool renaming true->ab,false->af
set_option linter.all false
namespace Go.Ev
section
variable{P:Program}{N ro:Nat}{Z:Io}{w:World}{G:St}{ρ:Operand->IV}{r:Operand->Value}{o:Oper}{out:gv}
def ajZ{argTypes:Array TypeId}{ty:TypeId}{args:List IV}{us:List Value}{v:IV}(hr:aL Z args us)(h:Nq P args=aa v):∃z,(Builtin.max_ argTypes ty us.toArray).run P w=.ok z w/\Rv Z v z:=by
 unfold Nq at h;split at h
 .rename_i vs hv;rw[<-C3 hv hr]at h;rw[awj]at h;obtain⟨z,hz,rfl⟩:=h;exact⟨z,gp w _ hz,Rv.lift z⟩
 .cases h
def Jt{argTypes:Array TypeId}{s x:IV}(h:l6 P ro argTypes s x G=aa out):∃v au,out=.val v au:=by
 have hn:∀{size bj n:Nat} {new:List IV} {s:IV},gb size bj n new s G=aa out->∃v au,out=.val v au:=by
  intro size bj n new s h;unfold gb at h;split at h
  .split at h
   .exact⟨_,_,aY h⟩
   .cases h
  .cases h
 unfold l6 at h;split at h
 .split at h
  .split at h
   .split at h
    .cases h
    .split at h
     .split at h
      .unfold fj at h
       repeat' split at h
       all_goals first|exact⟨_,_,aY h⟩|exact hn h|cases h
      .cases h
     .cases h
   .cases h
  .cases h
 .cases h
def bB.ofB{c:Call}{b:Builtin}{us:List Value}(ho:o.op=.call c)(hb:c.callee=.builtin b)(yg:c.args.map r=us.toArray)(h:GU P ro N Z w G (builtin b c.argTypes o.type (c.args.map λ|.const _=>ab|_=>af) us.toArray) out):
 bB P ro N Z w G r o out:=by
 obtain⟨v,au,rfl,h⟩:=h;intro hN;rw[Sr ho hb,yg];exact h hN
def YU{b:Builtin}{argTypes:Array TypeId}{ty:TypeId}{cs:Array Bool}{args:List IV}{us:List Value}(hi:Inv N Z G w)(hr:aL Z args us)(h:fk P ro b argTypes args G=aa out):
 GU P ro N Z w G (builtin b argTypes ty cs us.toArray) out:=by
 unfold fk at h;split at h
 .split at h
  .obtain⟨v,u,rfl,h1,h2⟩:=ah4 hr;obtain⟨v',au,rfl⟩:=Jt h;exact GU.ofV λhN=>abc hi h1 h2 h hN
  .cases h
 .split at h
  .obtain⟨v,rfl,h1⟩:=Iz hr;rw[awj]at h;obtain⟨z,hz,rfl⟩:=h;obtain⟨u,hu,kJ⟩:=ah5 (ty:=ty) hi h1 hz;exact GU.same hi hu kJ
  .cases h
 .split at h
  .obtain⟨v,rfl,h1⟩:=Iz hr;rw[awj]at h;obtain⟨z,hz,rfl⟩:=h;obtain⟨u,hu,kJ⟩:=ah6 (ty:=ty) (w:=w) h1 hz;exact GU.same hi hu kJ
  .cases h
 .rw[awj]at h;obtain⟨z,hz,rfl⟩:=h;obtain⟨u,hu,kJ⟩:=ajZ (argTypes:=argTypes) (ty:=ty) (w:=w) hr hz;exact GU.same hi hu kJ
 .cases h
def IA{l:Array Operand}(h:∀x,Rv Z (ρ x) (r x)):aL Z (l.toList.map ρ) (l.toList.map r):=aL.of_map λx _=>h x
def C6{f:FuncId}{fn:Func}{us:Array Value}(h:P.funcs[f]?=aa fn)(hb:(fn.body.isSome&&fn.name != "runtime.NumGoroutine")=ab):(callFunc f us).run P w=.ok (.enter f us) w:=by
 simp only[awb,bne_iff_ne,ne_eq]at hb;have h2:fn.body≠ah:=by cases hh:fn.body<;>simp_all
 simp[callFunc,h,h2,hb.2]
def BF{x:IV}{v:Value}{args:List IV}{us:List Value}(hx:Rv Z x v)(hr:aL Z args us)(h:gV P x args=aa out):
 ∃d,(azo v us.toArray).run P w=.ok d w/\((∃f as vs,out=.enter f as/\(invoke d.target d.args).run P w=.ok (.enter f vs.toArray) w/\aL Z as vs/\EG Z (.call f as) d)\/
  (∃id l,out=.round id args/\Z id 0=aa l/\d.target=.fn (.yield l.b) #[]/\d.args=us.toArray)):=by
 unfold gV at h;split at h
 .rename_i f first cap
  cases hx with
  |fn _ _ _ cs ds hl h1 gg h2=>
   split at h
   .rename_i fn cL;split at h
    .rename_i hb;cases h;have dP:aL Z (first++args++cap) (cs++us++ds):=(aL.append ⟨hl,h1⟩ hr).append ⟨gg,h2⟩;refine⟨{target:=.fn (.func f) ds.toArray,args:=cs.toArray++us.toArray},rfl,.inl ⟨f,_,_,rfl,?_,dP,ds,cs++us,_,by simp,dP,rfl⟩⟩;simp only[invoke];rw[C6 cL hb];simp
    .cases h
   .cases h
 .rename_i f a b;cases hx;split at h
  .rename_i he;obtain⟨rfl,rfl⟩:a= #[]/\b= #[]:=⟨azE he.1,azE he.2⟩;split at h
   .rename_i fn cL;split at h
    .rename_i hb;cases h;refine⟨{target:=.fn (.func f) #[],args:=us.toArray},by simp[azo],.inl ⟨f,_,us,rfl,?_,hr,[],us,us,by simp,hr,by simp⟩⟩;simp only[invoke];rw[C6 cL hb];simp
    .cases h
   .cases h
  .cases h
 .rename_i id;cases hx with
  |sD _ l hl=>
   cases h;exact⟨{target:=.fn (.yield l.b) #[],args:=us.toArray},by simp[azo],.inr ⟨id,l,rfl,hl,rfl,rfl⟩⟩
 .cases h
def ah8{c:Call}(hi:Inv N Z G w)(hr:∀x,Rv Z (ρ x) (r x))(ho:o.op=.call c)(h:aA P ro ρ o G=aa out):bB P ro N Z w G r o out:=by
 unfold aA at h;rw[ho]at h;(try dsimp only at h);have yg:c.args.map r=(c.args.toList.map r).toArray:=by apply ayR;rw[azJ]
 split at h
 .rename_i b hb;exact bB.ofB ho hb yg (YU hi (IA hr) h)
 .rename_i f hf;obtain⟨d,hd,h⟩:=BF (w:=w) (hr f) (IA hr) h
  have e:(execOp r o).run P w=(invoke d.target d.args).run P w:=by
   simp only[execOp,ho,resolve,hf,yg,awn,hd,awg]
  rcases h with⟨f',as,vs,rfl,h1,h2,_⟩|⟨id,l,rfl,h1,h2,h3⟩
  .exact⟨vs,by rw[e,h1],h2⟩
  .exact⟨l,_,h1,by rw[e,h2,h3];rfl,IA hr⟩
 .cases h
def adY{c:Call}(hr:∀x,Rv Z (ρ x) (r x))(ho:o.op=.defer c)(h:aA P ro ρ o G=aa out):bB P ro N Z w G r o out:=by
 unfold aA at h;rw[ho]at h;(try dsimp only at h);have yg:c.args.map r=(c.args.toList.map r).toArray:=by apply ayR;rw[azJ]
 split at h
 .rename_i f hf;split at h
  .rename_i f' args hc;cases h;obtain⟨d,hd,h⟩:=BF (w:=w) (hr f) (IA hr) hc;rcases h with⟨f',as,vs,he,_,_,h3⟩|⟨id,l,he,_⟩
   .cases he;exact⟨d,by simp only[execOp,ho,resolve,hf,yg,awn,hd,awg,awz],h3,c,ho⟩
   .cases he
  .cases h
 .cases h
def adZ{x:Operand}(hr:Rv Z (ρ x) (r x))(ho:o.op=.panic x)(h:aA P ro ρ o G=aa out):bB P ro N Z w G r o out:=by
 unfold aA at h;rw[ho]at h;simp only at h;split at h
 .rename_i t v hx;cases h;rw[hx]at hr;generalize hq:r x=q at hr;have qt:=hr;cases hr with
  |dK _ _ u hu=>
   refine⟨_,?_,qt⟩;simp only[execOp,ho,Instr.panic,hq,goPanic,awn];rfl
 .cases h
def Rf{x:Operand}{xt asserted:TypeId}{ok:Bool}(hi:Inv N Z G w)(hr:Rv Z (ρ x) (r x))(ho:o.op=.typeAssert x xt asserted ok)(h:aA P ro ρ o G=aa out):bB P ro N Z w G r o out:=by
 unfold aA at h;rw[ho]at h;simp only at h;split at h
 .cases h
 .rename_i d z hni hu hz
  have hd:∀{α:Type} (k1:Array (String×TypeId)->α) (k2:α),(match d with|.interface want=>k1 want|_=>k2)=k2:=by
   intro α k1 k2;cases d<;>first|rfl|exact absurd rfl (hni _)
  split at h
  .rename_i t v hx;rw[hx]at hr;generalize hq:r x=q at hr;cases hr with
   |dK _ _ u kJ=>
    split at h
    .rename_i LF;have YV:t=asserted:=by simpa using LF
     obtain rfl:=aY h;cases ok with
     |true=>
      refine bB.same hi (u:=.tuple #[u,.bool ab]) ?_ ?_
      .cases d<;>first
        |exact absurd rfl (hni _)
        |simp[execOp,ho,ayY,hq,bC hu,YV]
      .have:=aL.cons kJ (aL.cons (Rv.raw (Z:=Z) (.bool ab)) aL.nil);exact rY this
     |false=>
      refine bB.same hi (u:=u) ?_ kJ
      cases d<;>first
       |exact absurd rfl (hni _)
       |simp[execOp,ho,ayY,hq,bC hu,YV]
    .rename_i LF;have YV:¬t=asserted:=by simpa using LF
     split at h
     .rename_i a_;subst a_;obtain rfl:=aY h;refine bB.same hi (u:=.tuple #[z,.bool af]) ?_ ?_
      .cases d<;>first
        |exact absurd rfl (hni _)
        |simp[execOp,ho,ayY,hq,bC hu,YV,l_ hz]
      .have:=aL.cons (Rv.lift (Z:=Z) z) (aL.cons (Rv.raw (Z:=Z) (.bool af)) aL.nil);exact rY this
     .cases h
  .rename_i hx;have e:=gh hx hr;split at h
   .rename_i a_;subst a_;obtain rfl:=aY h;refine bB.same hi (u:=.tuple #[z,.bool af]) ?_ ?_
    .cases d<;>first
      |exact absurd rfl (hni _)
      |simp[execOp,ho,ayY,e,bC hu,l_ hz]
    .have:=aL.cons (Rv.lift (Z:=Z) z) (aL.cons (Rv.raw (Z:=Z) (.bool af)) aL.nil);exact rY this
   .cases h
  .cases h
 .cases h
def qv(hi:Inv N Z G w)(hr:∀x,Rv Z (ρ x) (r x))(h:aA P ro ρ o G=aa out):bB P ro N Z w G r o out:=by
 cases ho:o.op with
 |move x=>unfold aA at h;rw[ho]at h;simp only at h;obtain rfl:=aY h;exact WN hi (hr _) (.inl ho)
 |assign x=>unfold aA at h;rw[ho]at h;simp only at h;obtain rfl:=aY h;exact WN hi (hr _) (.inr ho)
 |pick c a b=>exact ah0 hi (hr _) (hr _) (hr _) ho h
 |alloc t=>exact adM hi ho h
 |box t x=>exact ajQ hi (hr _) ho h
 |build t parts=>exact adS hi (λx _=>hr x) ho h
 |buildSlice t len parts=>exact Re hi (λx _=>hr x) ho h
 |load t a=>exact ah1 hi (hr _) ho h
 |store t a x=>exact adN hi (hr _) (hr _) ho h
 |nilCheck x=>exact We hi (hr _) ho h
 |binOp op t x y yT=>exact ajR hi (hr _) (hr _) ho h
 |unOp op t x=>exact aoa hi (hr _) ho h
 |convert s t x=>exact YN hi (hr _) ho h
 |makeInterface t x=>exact J4 hi (hr _) ho h
 |makeFunc f a b=>exact Wf hi (λx _=>hr x) ho h
 |makeMap t x=>exact YP hi (λx _=>hr x) ho h
 |makeSlice t l c=>exact Sh hi (hr _) (hr _) ho h
 |slice t x lo cw mx=>exact adT hi (hr _) (λx _=>hr x) (λx _=>hr x) (λx _=>hr x) ho h
 |fieldAddr s x f=>exact Se hi (hr _) ho h
 |field t x f=>exact adP hi (hr _) ho h
 |indexAddr t x ix=>exact Sg hi (hr _) (hr _) ho h
 |index t x ix=>exact adR hi (hr _) (hr _) ho h
 |lookup t x ix ok=>exact abd hi (hr _) (hr _) ho h
 |mapUpdate t m k x=>exact GZ hi (hr _) (hr _) (hr _) (.inl ho) h
 |insert t m k x=>exact GZ hi (hr _) (hr _) (hr _) (.inr ho) h
 |mapEntry=>unfold aA at h;rw[ho]at h;cases h
 |entryStore=>unfold aA at h;rw[ho]at h;cases h
 |range t x=>exact adU hi (hr _) ho h
 |next it s=>exact ah7 hi (hr _) ho h
 |entry it=>exact adX hi (hr _) ho h
 |extract t i=>exact YO hi (hr _) ho h
 |call c=>exact ah8 hi hr ho h
 |defer c=>exact adY hr ho h
 |panic x=>exact adZ (hr _) ho h
 |typeAssert x xt t ok=>exact Rf hi (hr _) ho h
 |_=>unfold aA at h;rw[ho]at h;cases h
def Grown(G:St):gv->Prop
 |.val _ au=>G.n<=au.n
 |_=>True
def uV{v:IV}{au:St}(hle:G.n<=au.n)(h:ret v au=aa out):Grown G out:=by rw[aY h];exact hle
def LG{v:IV}(h:ret v G=aa out):Grown G out:=uV (awe G.n) h
def PK{v:IV}{id:Nat}{ob:Ob}(h:ret v (G.put id ob)=aa out):Grown G out:=uV (au:=G.put id ob) (awe G.n) h
def PL{v:IV}{ob:Ob}(h:ret v (G.add ob)=aa out):Grown G out:=uV (Nat.le_succ _) h
def Sx{kt:TypeId}{m k v:IV}{au:St}(h:pK P ro kt m k v G=aa au):au.n=G.n:=by
 unfold pK at h
 repeat' split at h
 all_goals first|(cases h;done)|(cases h;rfl)
def Sy{f:IV}{args:List IV}(h:gV P f args=aa out):Grown G out:=by
 unfold gV at h
 repeat' split at h
 all_goals first|(cases h;done)|(cases h;exact trivial)
def Sz{argTypes:Array TypeId}{s x:IV}(h:l6 P ro argTypes s x G=aa out):Grown G out:=by
 have hn:∀{size bj n:Nat} {new:List IV} {s:IV},gb size bj n new s G=aa out->Grown G out:=by
  intro size bj n new s h;unfold gb at h;split at h
  .split at h
   .exact PL h
   .cases h
  .cases h
 unfold l6 at h;split at h
 .split at h
  .split at h
   .split at h
    .cases h
    .split at h
     .split at h
      .unfold fj at h
       repeat' split at h
       all_goals first|exact LG h|exact PK h|exact uV (by exact awe G.n) h|exact hn h|cases h
      .cases h
     .cases h
   .cases h
  .cases h
 .cases h
def Rg{b:Builtin}{argTypes:Array TypeId}{args:List IV}(h:fk P ro b argTypes args G=aa out):Grown G out:=by
 unfold fk at h;split at h
 .split at h
  .exact Sz h
  .cases h
 .split at h
  .rw[awj]at h;obtain⟨z,hz,rfl⟩:=h;exact awe _
  .cases h
 .split at h
  .rw[awj]at h;obtain⟨z,hz,rfl⟩:=h;exact awe _
  .cases h
 .rw[awj]at h;obtain⟨z,hz,rfl⟩:=h;exact awe _
 .cases h
def mb(h:aA P ro ρ o G=aa out):Grown G out:=by
 unfold aA at h;cases ho:o.op<;>rw[ho]at h<;>(try dsimp only at h)
 case call c=>
  split at h
  .exact Rg h
  .exact Sy h
  .cases h
 case defer c=>
  split at h
  .split at h
   .cases h;exact trivial
   .cases h
  .cases h
 case mapUpdate=>
  split at h
  .split at h
   .rename_i au hs;exact uV (aBy (Sx hs).symm) h
   .cases h
  .cases h
 case insert=>
  split at h
  .split at h
   .rename_i au hs;exact uV (aBy (Sx hs).symm) h
   .cases h
  .cases h
 all_goals (repeat' split at h)
 all_goals first|exact LG h|exact PK h|exact PL h|(cases h;done)|(cases h;exact trivial)
end
section
variable{P:Program}{N ro:Nat}{Z:Io}{w:World}{G:St}{e:Env}{a:Act}
def cY(Z:Io)(e:Env)(ts:Array Value):Prop:=e.n=ts.size/\∀t,Rv Z (e.at t) (ts.getD t awT)
def kY(Z:Io):List Df->List Deferred->Prop
 |[],[]=>True
 |d::ds,x::xs=>EG Z d x/\kY Z ds xs
 |_,_=>False
theorem cY.mono{aK:Io}(iK:Ext Z aK){ts:Array Value}(h:cY Z e ts):cY aK e ts:=⟨h.1,λt=>(h.2 t).mono iK⟩
theorem EG.mono{aK:Io}(iK:Ext Z aK){d:Df}{x:Deferred}(h:EG Z d x):EG aK d x:=by
 cases d with
 |wT id=>obtain⟨l,h1,h2⟩:=h;exact⟨l,iK _ _ _ h1,h2⟩
 |call f as=>obtain⟨cap,us,vs,h1,h2,h3⟩:=h;exact⟨cap,us,vs,h1,h2.mono iK,h3⟩
theorem kY.mono{aK:Io}(iK:Ext Z aK):∀{ds:List Df} {xs:List Deferred},kY Z ds xs->kY aK ds xs
 |[],[],_=>trivial
 |_::_,_::_,h=>⟨EG.mono iK h.1,kY.mono iK h.2⟩
 |[],_::_,h=>h.elim
 |_::_,[],h=>h.elim
theorem kY.nil{xs:List Deferred}(h:kY Z [] xs):xs=[]:=by cases xs with|nil=>rfl|cons=>exact h.elim
def uo:Rv Z .undef awT:=.raw _
def Env.cW(e:Env)(d:Nat)(v:IV)(t:Nat):(e.put (aa d) v).at t=if d<e.n/\d=t then v else e.at t:=by
 unfold Env.put;simp only;by_cases h:d<e.n
 .have hb:aw6 d e.n=ab:=by simpa[aAa]using h
  rw[hb];simp only[if_true,Env.at,T.gX];by_cases hd:d=t
  .simp[hd];intro h2;omega
  .simp[hd]
 .have hb:aw6 d e.n=af:=by
   cases hc:aw6 d e.n with
   |false=>rfl
   |true=>exact absurd (by simpa using hc) h
  rw[hb];simp[h]
def Env.mY(e:Env)(d:Option Nat)(v:IV):(e.put d v).n=e.n:=by
 cases d with
 |none=>rfl
 |some d=>simp only[Env.put];split<;>rfl
def cY.set{ts:Array Value}{v:IV}{u:Value}(h:cY Z e ts)(hv:Rv Z v u)(d:Nat):cY Z (e.put (aa d) v) (ts.setIfInBounds d u):=by
 refine⟨by rw[Env.mY,h.1];simp,λt=>?_⟩;rw[Env.cW]
 have hs:(ts.setIfInBounds d u).getD t awT=if d<ts.size/\d=t then u else ts.getD t awT:=by
  simp only[aw9,azP];by_cases hd:d=t
  .subst hd;by_cases hl:d<ts.size
   .simp[hl]
   .simp[hl]
  .simp[hd]
 rw[hs,<-h.1];split
 .exact hv
 .exact h.2 t
theorem cY.put{v:IV}{u:Value}(h:cY Z e a.tmps)(hv:Rv Z v u)(dst:Option Tmp):cY Z (e.put dst v) (a.put dst u).tmps:=by
 cases dst with
 |none=>exact h
 |some d=>exact h.set hv d
theorem cY.eval(h:cY Z e a.tmps)(x:Operand):Rv Z (aB e x) (a.eval x):=by
 cases x with
 |tmp t=>exact h.2 t
 |const v=>exact Rv.lift v
 |global g=>exact .raw _
 |func f=>exact .raw _
def ah9{x:IV}{b:Bool}(h:Rv Z x (.bool b)):x=.raw (.bool b):=by
 generalize hu:Value.bool b=u at h;cases h<;>first|(cases hu;done)|(cases hu;rfl)
def uW{o:Oper}{ops:Array Oper}(h:cY Z e a.tmps):azh o (yielded ops a.tmps)=aX o ops e:=by
 unfold azh aX;cases hg:o.guard with
 |none=>rfl
 |some g=>
  obtain⟨j,want⟩:=g;simp only[yielded];cases hd:(ops[j]?).bind (·.dst)with
  |none=>rfl
  |some d=>
   simp only[Option.bind_some];by_cases hl:d<e.n
   .have hb:aw6 d e.n=ab:=by simpa[aAa]using hl
    rw[hb];have cz:d<a.tmps.size:=by rw[<-h.1];exact hl
    have hr:=h.2 d;rw[aw9,awF cz,aw8]at hr;rw[awF cz];simp only[if_true];generalize a.tmps[d]=u at hr;cases u with
    |bool b=>rw[ah9 hr];simp
    |_=>
     generalize e.at d=x at hr;cases hr<;>rfl
   .have hb:aw6 d e.n=af:=by
     cases hc:aw6 d e.n with
     |false=>rfl
     |true=>exact absurd (by simpa using hc) hl
    rw[hb];have cz:¬d<a.tmps.size:=by rw[<-h.1];exact hl
    rw[ayA (Nat.le_of_not_lt cz)];rfl
def noGoto(Q:Exit->Act->World->Prop):Exit->Act->World->Prop
 |.goto _,_,_=>False
 |e,a,w=>Q e a w
section scope
variable{F:Fence}{n:Nat}{b:Frame}{k:List Item}{cs:List Frame}{Q:Exit->Act->World->Prop}
def p8{c:Code}:step P (lone (b.atR a (.code (.scope c)::k)) cs w)=.next (lone (b.atR a (.code c::.inScope c::k)) cs w):=
 step_lone_go (by simp[stepG,aBz,aBF])
def Rh{c:Code}:step P (lone (b.atR a (.inScope c::k)) cs w)=.next (lone (b.atR a k) cs w):=
 step_lone_go (by simp[stepG,aBz,aBF])
def LH{c:Code}(h:c.wpIn F n P (noGoto Q) a w):(Code.scope c).wpIn F n P Q a w:=by
 intro b k cs ej hb hr;have h0:(lone (b.atR a (.code (.scope c)::k)) cs w).fenced P F:=fenced_calm hb hr rfl;obtain⟨e,a₁,w₁,hq,Nx⟩:=h b (.inScope c::k) cs ej hb hr;cases e with
 |normal=>exact⟨.normal,a₁,w₁,hq,.head h0 p8 (StepsIn.trans Nx (.one (fenced_calm hb hr rfl) Rh))⟩
 |exit id=>
  have hx:exitTo id (.inScope c::k)=exitTo id k:=by simp[exitTo]
  exact⟨.exit id,a₁,w₁,hq,λk' hk=>.head h0 p8 (Nx.1 k' (by rw[hx];exact hk)),
   λqt hk=>let⟨k₁,h1,h2⟩:=Nx.2 qt (by rw[hx];exact hk);⟨k₁,h1,.head h0 p8 h2⟩⟩
 |goto l=>exact hq.elim
 |ret=>exact⟨_,a₁,w₁,hq,.of_steps (.one h0 p8) Nx⟩
 |panic ch=>exact⟨_,a₁,w₁,hq,.of_steps (.one h0 p8) Nx⟩
 |outgrown=>exact⟨_,a₁,w₁,hq,.of_steps (.one h0 p8) Nx⟩
end scope
def bW(S:Self):Prop:=∀ro rd fn c e df G cr,S.code ro rd fn c e df G=aa cr->G.n<=cr.G.n
structure bK(S:Self):Prop where
 call:∀ro f args G v au,S.call ro f args G=aa (v,au)->G.n<=au.n
 cd:∀ro f args G v au,S.cd ro f args G=aa (v,au)->G.n<=au.n
 zd:∀ro f args m G m' au,S.zd ro f args m G=aa (m',au)->G.n<=au.n
variable{S:Self}
def YW(hc:bW S){l:Nat}{args:List IV}{v:IV}{au:St}(h:DC S ro l args G=aa (v,au)):G.n<=au.n:=by
 unfold DC at h;split at h
 .split at h
  .cases h
  .simp only at h;split at h
   .rename_i e1 av h1;split at h
    .split at h
     .rename_i ex e2 cK h2;split at h
      .cases h
      split at h
      .cases h;have:=hc _ _ _ _ _ _ _ _ h1;have:=hc _ _ _ _ _ _ _ _ h2;simp only[St.mY]at*
       omega
      .cases h
     .cases h
    .cases h
   .cases h
 .cases h
def J6(hc:bW S)(hk:bK S){o:Oper}{v:IV}{au:St}(h:kH P S ro e o G=aa (v,au)):G.n<=au.n:=by
 unfold kH at h;split at h
 .rename_i v1 av h1;cases h;exact mb h1
 .exact hk.call _ _ _ _ _ _ h
 .exact YW hc h
 .cases h
theorem AD(hc:bW S)(hk:bK S){rd:Option Nat}{ops:Array Oper}:∀{l:List Oper} {e:Env} {df:List Df} {G:St} {cr:CR},Bx P S ro rd ops l e df G=aa cr->G.n<=cr.G.n
 |[],e,df,G,cr,h=>by cases h;exact awe _
 |o::rest,e,df,G,cr,h=>by
  unfold Bx at h;split at h
  .split at h
   .rename_i v av h1;exact awy (J6 hc hk h1) (AD hc hk h)
   .split at h
    .split at h
     .exact AD hc hk h
     .cases h
    .split at h
     .rename_i h2;cases h;exact hk.cd _ _ _ _ _ _ h2
     .cases h
    .cases h;exact awe _
    .cases h
  .exact AD hc hk h
section draw
variable[Sm]
theorem Gt(hc:bW S)(hk:bK S){pl:eh}{ops:Array Oper}{o:Oper}{j:Nat}{d d':DS}(h:bV P S pl ro ops o j d=aa d'):d.n<=d'.n:=by
 unfold bV at h;simp only at h;split at h
 .cases h
 .split at h
  .split at h
   .split at h
    .split at h
     .cases h;exact awe _
     .cases h
    .cases h
   .split at h
    .rename_i h1;cases h;exact mb h1
    .cases h
   .split at h
    .split at h
     .cases h;exact awe _
     .cases h
    .cases h
   .split at h
    .rename_i h1;cases h;exact J6 (P:=P) hc hk h1
    .cases h
   .split at h
    .rename_i h1;split at h
     .cases h;exact J6 (P:=P) hc hk h1
     .cases h
    .cases h
  .split at h
   .split at h
    .cases h;exact awe _
    .cases h
   .cases h;exact awe _
theorem G1{SF:Nat->Self}(hc:∀j,bW (SF j))(hk:∀j,bK (SF j)){pl:eh}{ops:Array Oper}:∀{l:List (Oper×Nat)} {d d':DS},jF P SF pl ro ops l d=aa d'->d.n<=d'.n
 |[],d,d',h=>by cases h;exact awe _
 |(o,j)::rest,d,d',h=>by
  unfold jF at h;split at h
  .rename_i d1 h1;exact awy (Gt (hc j) (hk j) h1) (G1 hc hk h)
  .cases h
theorem EM{SF:Nat->Self}(hc:∀j,bW (SF j))(hk:∀j,bK (SF j)){ops:Array Oper}{df:List Df}{cr:CR}(h:kI P SF ro ops e df G=aa cr):G.n<=cr.G.n:=by
 unfold kI at h;simp only at h;split at h
 .split at h
  .rename_i h1;cases h;exact G1 hc hk h1
  .cases h
 .cases h
end draw
def abg(hc:bW S)(hk:bK S){ops:Array Oper}{df:List Df}{cr:CR}(h:R8 P S ro ops e df G=aa cr):G.n<=cr.G.n:= @EM _ _ _ _ xX _ (λ_=>hc) (λ_=>hk) _ _ _ h
def PM(hc:bW S)(hk:bK S):bW (mX P S):=by
 intro ro rd fn c e df G cr h;change xY P S ro rd fn c e df G=aa cr at h;cases c<;>unfold xY at h<;>dsimp only at h
 case skip=>cases h;exact awe _
 case label=>cases h;exact awe _
 case exit=>cases h;exact awe _
 case goto=>cases h;exact awe _
 case ret=>cases h;exact awe _
 case refuse=>cases h
 case region=>
  split at h
  .exact abg hc hk h
  .exact AD hc hk h
 case seq=>
  split at h
  .rename_i h1;exact awy (hc _ _ _ _ _ _ _ _ h1) (hc _ _ _ _ _ _ _ _ h)
  .exact hc _ _ _ _ _ _ _ _ h
 case cond=>
  split at h
  .exact hc _ _ _ _ _ _ _ _ h
  .cases h
 case block=>
  split at h
  .rename_i h1;split at h
   .cases h;have:=hc _ _ _ _ _ _ _ _ h1;exact this
   .cases h;have:=hc _ _ _ _ _ _ _ _ h1;exact this
  .exact hc _ _ _ _ _ _ _ _ h
 case loop=>
  split at h
  .rename_i h1;exact awy (hc _ _ _ _ _ _ _ _ h1) (hc _ _ _ _ _ _ _ _ h)
  .exact hc _ _ _ _ _ _ _ _ h
 case scope=>
  split at h
  .cases h
  .exact hc _ _ _ _ _ _ _ _ h
 case rangeFunc=>
  split at h
  .rename_i fT av mark qw
   have h1:G.n<=av.n:=by
    split at qw
    .cases qw;simp
    .split at qw
     .cases qw;exact awe _
     .cases qw
   split at h
   .split at h
    .rename_i h2;have h3:=hk.call _ _ _ _ _ _ h2;simp only[St.o5]at h3;split at h
     .split at h
      .cases h
      .split at h
       .cases h;simp only[St.mY];omega
       .have h4:=hc _ _ _ _ _ _ _ _ h;simp only[St.mY]at h4;omega
     .cases h
    .cases h
   .cases h
  .cases h
theorem lx(hk:bK S):∀{df:List Df} {m m':Option IV} {G au:St},gW S ro df m G=aa (m',au)->G.n<=au.n
 |[],m,m',G,au,h=>by cases h;exact awe _
 |.wT id::ds,m,m',G,au,h=>by
  unfold gW at h;split at h
  .split at h
   .exact lx hk (G:=G.put id (.Gp ab)) h
   .cases h
  .cases h
 |.call f args::ds,m,m',G,au,h=>by
  unfold gW at h;split at h
  .rename_i h1;exact awy (hk.zd _ _ _ _ _ _ _ h1) (lx hk h)
  .cases h
def PN(hc:bW S)(hk:bK S){f:FuncId}{args:List IV}{r:Func×Env×Option IV×St}(h:DE P S ro f args G=aa r):G.n<=r.2.2.2.n:=by
 unfold DE at h;split at h
 .split at h
  .split at h
   .cases h
   .simp only at h;split at h
    .rename_i h1;split at h
     .rename_i h2;cases h;exact awy (hc _ _ _ _ _ _ _ _ h1) (lx hk h2)
     .cases h
    .rename_i h1;split at h
     .rename_i h2;cases h;exact awy (hc _ _ _ _ _ _ _ _ h1) (lx hk h2)
     .cases h
    .rename_i h1;split at h
     .rename_i h2;cases h;exact awy (hc _ _ _ _ _ _ _ _ h1) (lx hk h2)
     .cases h
    .cases h
  .cases h
 .cases h
theorem uX{ops:Array Oper}:∀{l:List Oper} {e:Env} {m:Option IV} {G:St} {r:Env×Option IV×St},pL P ro ops l e m G=aa r->G.n<=r.2.2.n
 |[],e,m,G,r,h=>by cases h;exact awe _
 |o::rest,e,m,G,r,h=>by
  unfold pL at h;split at h
  .split at h
   .split at h
    .exact uX h
    .exact uX h
   .split at h
    .rename_i h1;exact awy (mb h1) (uX h)
    .cases h
  .exact uX h
def J7(hc:bW S){fn:FuncId}:∀{c:Code} {e:Env} {m:Option IV} {G:St} {r:CR×Option IV},By P S ro fn c e m G=aa r->G.n<=r.1.G.n:=by
 intro c
 have other:∀{c:Code} {e:Env} {m:Option IV} {G:St} {r:CR×Option IV},(match S.code ro ah fn c e [] G with|some r=>aa (r,m)|none=>ah)=aa r->G.n<=r.1.G.n:=by
  intro c e m G r h;split at h
  .rename_i h1;cases h;exact hc _ _ _ _ _ _ _ _ h1
  .cases h
 induction c with
 |seq a b iha ihb=>
  intro e m G r h;unfold By at h;split at h
  .rename_i h1;exact awy (iha h1) (ihb h)
  .cases h
  .exact iha h
 |region id ops draw=>
  intro e m G r h;unfold By at h;split at h
  .split at h
   .rename_i h1;cases h;exact uX h1
   .cases h
  .exact other h
 |_=>intro e m G r h;unfold By at h;exact other h
def G2(hc:bW S)(hk:bK S):bK (mX P S) where
 call:=by
  intro ro f args G v au h;simp only[mX,R9]at h;split at h
  .rename_i h1;split at h
   .cases h;exact PN hc hk h1
   .cases h
  .cases h
 cd:=by
  intro ro f args G v au h;simp only[mX,YH]at h;split at h
  .rename_i h1;cases h;exact PN hc hk h1
  .cases h
 zd:=by
  intro ro f args m G m' au h;simp only[mX,EB]at h;split at h
  .split at h
   .cases h
   .split at h
    .split at h
     .cases h
     .split at h
      .rename_i h1;split at h
       .cases h;exact J7 hc h1
       .cases h
      .rename_i h1;split at h
       .cases h;exact J7 hc h1
       .cases h
      .cases h
    .cases h
  .cases h
variable{m:Nat}{F:Fence}{rd:Option Nat}{Q:Exit->Act->World->Prop}
def G3(ch:List PanicEntry):Ex->Exit
 |.normal=>.normal
 |.exit id=>.exit id
 |.goto l=>.goto l
 |.ret=>.ret
 |.cd _=>.panic ch
def SA(Z:Io)(ch:List PanicEntry):Ex->Prop
 |.cd v=>∃u,ch=[{v:=u,recovered:=af}]/\Rv Z v u
 |_=>True
def o8(Z:Io):Option IV->FrameMode->Prop
 |none,u=>u=.returning
 |some v,u=>∃x,u=.panicking [{v:=x,recovered:=af}]/\Rv Z v x
def kf(F:Fence)(rd:Option Nat)(Z:Io):Prop:=(rd=ah/\F=awP)\/∃l loc,rd=aa l/\Z l 0=aa loc/\F=awP.inRound loc.b
def kf.mono{aK:Io}(iK:Ext Z aK)(h:kf F rd Z):kf F rd aK:=by
 rcases h with h|⟨l,loc,h1,h2,h3⟩
 .exact .inl h
 .exact .inr ⟨l,loc,h1,iK _ _ _ h2,h3⟩
theorem kf.fn(h:kf F rd Z)(f:FuncId):F.fn f:=by rcases h with⟨_,rfl⟩|⟨_,_,_,_,rfl⟩<;>trivial
def kf.depth(h:kf F rd Z){n:Nat}:F.depth.isSome=ab->1<=n:=by rcases h with⟨_,rfl⟩|⟨_,_,_,_,rfl⟩<;>(intro h;simp[awP,aA7]at h)
def kf.calls(h:kf F rd Z){f:FuncId}{us:Array Value}{R:Ending->World->Prop}(hc:CallsIn awP 0 P f us w R):CallsIn F (0- 1) P f us w R:=by
 rcases h with⟨_,rfl⟩|⟨_,_,_,_,rfl⟩<;>exact hc
theorem kf.inRound(h:kf F rd Z)(l:Nat):F.inRound l=awP.inRound l:=by rcases h with⟨_,rfl⟩|⟨_,_,_,_,rfl⟩<;>rfl
def ur(N ro:Nat)(Z:Io)(w:World)(G:St)(cr:CR)(Q:Exit->Act->World->Prop):Prop:=
 ∀a' w' aK ch,Inv N aK cr.G w'->Le ro Z w G aK w' cr.G->cY aK cr.e a'.tmps->kY aK cr.df a'.defers->SA aK ch cr.ex->Q (G3 ch cr.ex) a' w'
def YX(F:Fence)(P:Program)(m:Nat)(c:Code)(Q:Exit->Act->World->Prop)(a:Act)(w:World):Prop:=
 match c with
 |.loop b=>aBj F 0 P b Q m a w
 |c=>c.wpIn F 0 P Q a w
def YX.wp{c:Code}(h:YX F P m c Q a w):c.wpIn F 0 P Q a w:=by
 cases c<;>first|exact h|exact wpIn_loop_rounds _ h
def zA(N ro:Nat)(Z:Io)(w:World)(G:St)(v:IV)(au:St):Ending->World->Prop
 |.returned u,w'=>∃aK,Rv aK v u/\Inv N aK au w'/\Le ro Z w G aK w' au
 |_,_=>False
def iv(P:Program)(S:Self)(m:Nat):Prop:=∀N ro rd fn c e df G cr,S.code ro rd fn c e df G=aa cr->cr.G.n<=N->∀F Z a w Q,kf F rd Z->Inv N Z G w->cY Z e a.tmps->kY Z df a.defers->
 ur N ro Z w G cr Q->YX F P m c Q a w
def Rm(N ro:Nat)(Z:Io)(w:World)(G:St)(v:IV)(au:St):Ending->World->Prop
 |.panicked ch,w'=>∃aK,SA aK ch (.cd v)/\Inv N aK au w'/\Le ro Z w G aK w' au
 |_,_=>False
def LI(N ro:Nat)(Z:Io)(w:World)(G:St)(m:Option IV)(au:St):Ending->FrameMode->World->Prop
 |.returned _,u,w'=>∃aK,o8 aK m (settle u)/\Inv N aK au w'/\Le ro Z w G aK w' au
 |_,_,_=>False
structure eP(P:Program)(S:Self):Prop where
 call:∀N ro f args G v au,S.call ro f args G=aa (v,au)->au.n<=N->∀Z us w,Inv N Z G w->aL Z args us->CallsIn awP 0 P f us.toArray w (zA N ro Z w G v au)
 cd:∀N ro f args G v au,S.cd ro f args G=aa (v,au)->au.n<=N->∀Z us w,Inv N Z G w->aL Z args us->CallsIn awP 0 P f us.toArray w (Rm N ro Z w G v au)
 zd:∀N ro f args m G m' au,S.zd ro f args m G=aa (m',au)->au.n<=N->∀Z us u w,o8 Z m u->Inv N Z G w->aL Z args us->CallsDIn awP 0 P f us.toArray u w (LI N ro Z w G m' au)
 DO:∀ro f args m G m' au,S.zd ro f args m G=aa (m',au)->∃fn,P.funcs[f]?=aa fn/\(fn.body.isSome&&fn.name != "runtime.NumGoroutine")=ab
def ur.from{cr:CR}{bO:Io}{w1:World}{av:St}(h:ur N ro Z w G cr Q)(hi:Inv N Z G w)(hl:Le ro Z w G bO w1 av)(hn:av.n<=N):ur N ro bO w1 av cr Q:=
 λa' w' aK ch h1 h2 h3 h4 h5=>h a' w' aK ch h1 (Le.trans (λid h1 h2=>hi.fresh id h1 aj) hl h2) h3 h4 h5
def Le.then(hi:Inv N Z G w){bO sE:Io}{w1 w2:World}{av cK:St}(hn:av.n<=N)(h:Le ro Z w G bO w1 av)(k:Le ro bO w1 av sE w2 cK):Le ro Z w G sE w2 cK:=
 Le.trans (λid h1 h2=>hi.fresh id h1 aj) h k
def o9{l:Nat}{r:Loop}(h:w.heap[l]?=aa (.loop r)):(aA8 l).run P w=.ok r w:=by
 simp only[aA8,awn,cX (P:=P) h ay,awg,awz]
def heap_set{b:Nat}{o:Go.Obj}(h:b<w.heap.size):(w.heap.setIfInBounds b o)[b]?=aa o:=by simp[h]
theorem G4:∀{ps:List Tmp} {args:List IV} {us:List Value} {e:Env} {ts:Array Value},cY Z e ts->aL Z args us->
 cY Z ((ps.zip args).foldl (λe (p,v)=>e.put (aa p) v) e) ((ps.zip us).foldl (λtmps (t,a)=>tmps.setIfInBounds t a) ts)
 |[],_,_,_,_,h,_=>h
 |p::ps,[],us,_,_,h,hr=>by rw[hr.of_nil];exact h
 |p::ps,v::args,us,e,ts,h,hr=>by
  obtain⟨u,wA,rfl,h1,h2⟩:=hr.x_;simp only[List.zip_cons_cons,awW];exact G4 (h.set h1 p) h2
def jU{l:Nat}{loc:Loc}{st:LoopState}{C4:Option Code}{f:FuncId}{tm:T IV}{lO:Nat}{ps:List Tmp}{gD bd:Code}{fT:Nat}(hi:Inv N Z G w)(aM:G.at l=aa (.loop st C4 f tm lO ps gD bd fT))(hl:Z l 0=aa loc):
 ∃ld ts f',Z fT 0=aa ld/\w.heap[loc.b]?=aa (.loop {state:=st,pending:=C4,fn:=f',tmps:=ts,params:=ps.toArray,assign:=gD,body:=bd,defers:=ld.b})/\cY Z ⟨lO,tm⟩ ts/\loc.b<w.heap.size:=by
 obtain⟨l',ld,ts,f',cz,hd,hh,hs,ht⟩:=hi.obj l _ aM;rw[hl]at cz;cases cz;exact⟨ld,ts,f',hd,hh,⟨hs.symm,ht⟩,hi.gE l _ ⟨0,loc,hl,rfl⟩⟩
def PO(s:LoopState)(h:s≠.busy):(s==aBN)=af:=by cases s<;>first|rfl|exact absurd rfl h
def Ah{l:Nat}{loc:Loc}{st dj:LoopState}{C4 zB:Option Code}{f f':FuncId}{tm:T IV}{lO:Nat}{ps:List Tmp}{gD bd:Code}{fT:Nat}{ld:Loc}{ts:Array Value}(hi:Inv N Z G w)(ej:ro<=l)
 (aM:G.at l=aa (.loop st C4 f tm lO ps gD bd fT))(hl:Z l 0=aa loc)(hd:Z fT 0=aa ld)(he:cY Z ⟨lO,tm⟩ ts):
 let go:Go.Obj:=.loop {state:=dj,pending:=zB,fn:=f',tmps:=ts,params:=ps.toArray,assign:=gD,body:=bd,defers:=ld.b}
 Inv N Z (G.put l (.loop dj zB f tm lO ps gD bd fT)) {w with heap:=w.heap.setIfInBounds loc.b go}/\Le ro Z w G Z {w with heap:=w.heap.setIfInBounds loc.b go} (G.put l (.loop dj zB f tm lO ps gD bd fT)):=by
 intro go;have ak:=hi.gE l _ ⟨0,loc,hl,rfl⟩;exact hi.wX aM ej hl ⟨loc,ld,ts,f',hl,hd,heap_set ak,he.1.symm,he.2⟩
def G5{l:Nat}{R:Ending->World->Prop}{ex:Ex}{ch:List PanicEntry}(hx:¬ex.Ez=ab){a:Act}{w:World}(h:∃v w',(aA1 l (fK ex)).run P w=.ok v w'/\R (.returned v) w'):roundPost P l R (G3 ch ex) a w:=by
 cases ex<;>first|exact h|exact absurd rfl hx
def ad0(hS:iv P S m)(hm:bW S){l:Nat}{loc:Loc}{args:List IV}{us:List Value}{v:IV}{au:St}(h:DC S ro l args G=aa (v,au))(hN:au.n<=N)(hF:kf F rd Z)(hi:Inv N Z G w)
 (hl:Z l 0=aa loc)(hr:aL Z args us):
 ∃f' ts gD bd,(aAm loc.b us.toArray).run P w=.ok (.round loc.b f' ts gD bd) w/\RoundIn F 0 P loc.b f' ts gD bd w (zA N ro Z w G v au):=by
 unfold DC at h;split at h
 .rename_i state pending f tm lO params assign body fT aM;split at h
  .cases h
  .rename_i hc;have bU:args.length=params.length:=aye λhx=>hc (.inl hx);have mN:ro<=l:=aye λhx=>hc (.inr (.inl hx));have hc3:state=.ready:=aye λhx=>hc (.inr (.inr hx));simp only at h;split at h
   .rename_i e1 av h1;split at h
    .rename_i ad1 f1 Aw EA params1 WH agm s5 o_;split at h
     .rename_i ex e2 cK h2;split at h
      .cases h
      rename_i hnp;split at h
      .rename_i st3 avs f3 Ju C7 params3 ave avt nH AE;cases h;obtain⟨ld,ts,f',hd,hh,he,ak⟩:=jU hi aM hl;have zi:cK.n<=N:=hN
       have dW:av.n<=N:=by
        have:=hm _ _ _ _ _ _ _ _ h2;simp only[St.mY]at this;omega
       have bf:us.toArray.size=params.toArray.size:=by simp[<-hr.1,bU]
       refine⟨f',(params.zip us).foldl (λtmps (t,a)=>tmps.setIfInBounds t a) ts,assign,body,?_,?_⟩
       .have hz:((params.toArray.zip us.toArray).foldl (λtmps (t,a)=>tmps.setIfInBounds t a) ts)=(params.zip us).foldl (λtmps (t,a)=>tmps.setIfInBounds t a) ts:=by simp[List.zip_toArray]
        simp only[aAm,awn,o9 hh,awg,bf,ne_eq,not_true_eq_false,if_false,awz,hz]
       .refine roundIn_of_wpIn (hF.fn f') ?_;rw[hF.inRound];refine(hS N ro (aa l) f assign _ [] G _ h1 dW (awP.inRound loc.b) Z {tmps:=_,defers:=[]} w _ (.inr ⟨l,loc,rfl,hl,rfl⟩) hi (G4 he hr) trivial ?_).wp;intro a1 w1 bO ft i1 l1 cM d1 p1;have mM:=l1.ext _ _ _ hl;obtain⟨ld1,ts1,f1',AF,wE,kZ,qZ⟩:=jU i1 o_ mM;obtain⟨i2,l2⟩:=Ah (ro:=ro) (dj:=.busy) (zB:=ad1) (f':=f1') i1 mN o_ mM AF kZ;refine⟨_,by simp only[Instr.beginRound,awn,o9 wE,awg,gw (P:=P) wE ay,awz];rfl,?_⟩;refine(hS N ro (aa l) f body _ [] _ _ h2 zi (awP.inRound loc.b) bO a1 _ _ (.inr ⟨l,loc,rfl,mM,rfl⟩) i2 cM d1 ?_).wp;intro a2 w2 sE ch2 i3 l3 e2' d2 p2;refine G5 hnp ?_;have gg:=l3.ext _ _ _ mM;obtain⟨ld2,ts2,f2',Jv,uY,BG,dY⟩:=jU i3 AE gg;obtain⟨i4,l4⟩:=Ah (ro:=ro) (dj:=if(fK ex).isNone then .ready else .done) (zB:=fK ex) (f':=f2') i3 mN AE gg Jv BG;refine⟨.bool (fK ex).isNone,_,by simp only[aA1,awn,o9 uY,awg,gw (P:=P) uY ay,awz];rfl,sE,?_,?_,?_⟩
        .exact .raw _
        .exact i4
        .have tA:=Le.then i2 zi l3 l4;have BH:=Le.then i1 (by simp only[St.mY];exact dW) l2 tA;exact Le.then hi dW l1 BH
      .cases h
     .cases h
    .cases h
   .cases h
 .cases h
def iX{ρ:Operand->IV}{o:Oper}{out:gv}(h:aA P ro ρ o G=aa out)(hd:∀d,out≠.WG d):∀c,o.op≠.defer c:=by
 intro c hc;unfold aA at h;rw[hc]at h;dsimp only at h;split at h
 .split at h
  .cases h;exact hd _ rfl
  .cases h
 .cases h
def DP(hS:iv P S m)(hC:eP P S)(hm:bW S){o:Oper}{v:IV}{au:St}{next:Act->World->Prop}(h:kH P S ro e o G=aa (v,au))(hN:au.n<=N)(hF:kf F rd Z)(hi:Inv N Z G w)
 (he:cY Z e a.tmps)(hQ:∀u w' aK,Rv aK v u->Inv N aK au w'->Le ro Z w G aK w' au->next (a.put o.dst u) w'):o.wpIn F 0 P a w next Q:=by
 refine⟨λf _=>hF.fn f,?_⟩;unfold kH at h;split at h
 .rename_i v1 av h1;cases h;rw[axW _ _ _ (iX h1 ay)];obtain⟨u,w',aK,hr,h2,h3,h4⟩:=qv hi he.eval h1 hN;rcases hr with hr|⟨hr,rfl⟩
  .rw[hr,ayZ];exact hQ _ _ _ h2 h3 h4
  .rw[hr,aAS];exact hQ _ _ _ h2 h3 h4
 .rename_i f args h1;rw[axW _ _ _ (iX h1 ay)];obtain⟨us,hr,h2⟩:=qv hi he.eval h1;rw[hr,azK];refine⟨hF.depth,(hF.calls (hC.call N ro f args G v au h hN Z us w hi h2)).mono λe w' hR=>?_⟩;cases e with
  |returned u=>obtain⟨aK,h3,h4,h5⟩:=hR;exact hQ _ _ _ h3 h4 h5
  |panicked chain=>exact hR.elim
  |outgrown=>exact hR.elim
 .rename_i l args h1;rw[axW _ _ _ (iX h1 ay)];obtain⟨loc,us,hl,hr,h2⟩:=qv hi he.eval h1;obtain⟨f',ts,gD,bd,h3,h4⟩:=ad0 (F:=F) hS hm h hN hF hi hl h2;rw[hr,h3,Oper.uponIn_round];refine⟨hF.depth,RoundIn.mono h4 λe w' hR=>?_⟩;cases e with
  |returned u=>obtain⟨aK,h3,h4,h5⟩:=hR;exact hQ _ _ _ h3 h4 h5
  |panicked chain=>exact hR.elim
  |outgrown=>exact hR.elim
 .cases h
theorem LJ(hS:iv P S m)(hC:eP P S)(hm:bW S)(hk:bK S){ops:Array Oper}:∀{l:List Oper} {k:Nat} {e:Env} {df:List Df} {G:St} {cr:CR} {Z:Io} {a:Act} {w:World},
 ops.toList.drop k=l->Bx P S ro rd ops l e df G=aa cr->cr.G.n<=N->kf F rd Z->Inv N Z G w->cY Z e a.tmps->kY Z df a.defers->ur N ro Z w G cr Q->
 wpOpsIn F 0 P ops Q (axN k l.length) a w
 |[],k,e,df,G,cr,Z,a,w,hl,h,hN,hF,hi,he,hd,hQ=>by
  cases h;exact hQ a w Z [] hi (Le.refl _ _ _ _) he hd trivial
 |o::rest,k,e,df,G,cr,Z,a,w,hl,h,hN,hF,hi,he,hd,hQ=>by
  have iW:ops.toList.drop (k+1)=rest:=by
   rw[<-ayj (i:=1) (j:=k),hl];rfl
  have a_:ops[k]?=aa o:=by
   have:(ops.toList.drop k)[0]?=aa o:=by rw[hl];rfl
   simpa using this
  simp only[awJ,ayI];rw[wpOpsIn_cons];unfold wpOpIn;rw[a_];simp only;unfold Bx at h;rw[uW he];split at h
  .rename_i hw;rw[if_pos hw];split at h
   .rename_i v av h1;have dW:av.n<=N:=awy (AD hm hk h) hN;refine DP hS hC hm h1 dW hF hi he λu w' aK hv i1 l1=>?_;exact LJ hS hC hm hk iW h hN (hF.mono l1.ext) i1 ((he.mono l1.ext).put hv _) (hd.mono l1.ext|>λx=>by cases o.dst<;>exact x) (hQ.from hi l1 dW)
   .split at h
    .rename_i d h1;split at h
     .rename_i eQ;have hrn:rd=ah:=by cases rd with|none=>rfl|some _=>cases eQ
      have hFe:F=awP:=by
       rcases hF with⟨_,h2⟩|⟨_,_,h2,_⟩
       .exact h2
       .rw[hrn]at h2;cases h2
      refine⟨λf _=>hF.fn f,?_⟩;obtain⟨dd,hr,Jw,c,hc⟩:=qv hi he.eval h1;have ad2:(o.semAt F.round a.eval)=execOp a.eval o:=by rw[hFe];rfl
      rw[ad2,hr,aAF];refine LJ hS hC hm hk iW h hN hF hi ?_ ?_ hQ
      .cases ek:o.dst with
       |none=>exact he
       |some t=>exact he.set uo t
      .cases o.dst<;>exact⟨Jw,hd⟩
     .cases h
    .rename_i f args h1;split at h
     .rename_i v av h2;cases h;refine⟨λf _=>hF.fn f,?_⟩;rw[axW _ _ _ (iX h1 ay)];obtain⟨us,hr,h3⟩:=qv hi he.eval h1;rw[hr,azK];refine⟨hF.depth,(hF.calls (hC.cd N ro f args G v av h2 hN Z us w hi h3)).mono λed w' hR=>?_⟩;cases ed with
      |returned u=>exact hR.elim
      |outgrown=>exact hR.elim
      |panicked chain=>
       obtain⟨aK,h4,h5,h6⟩:=hR;exact hQ a w' aK chain h5 h6 (he.mono h6.ext) (hd.mono h6.ext) h4
     .cases h
    .rename_i v h1;cases h;refine⟨λf _=>hF.fn f,?_⟩;rw[axW _ _ _ (iX h1 ay)];obtain⟨u,hr,h3⟩:=qv hi he.eval h1;rw[hr,Oper.uponIn_panic];exact hQ a w Z [{v:=u,recovered:=af}] hi (Le.refl _ _ _ _) he hd ⟨u,rfl,h3⟩
    .cases h
  .rename_i hw;rw[if_neg hw];exact⟨λf _=>hF.fn f,LJ hS hC hm hk iW h hN hF hi (he.put uo _) (by cases o.dst<;>exact hd) hQ⟩
def SB(P:Program)(S:Self):Prop:=∀N ro rd ops e df G cr,R8 P S ro ops e df G=aa cr->cr.G.n<=N->∀F Z a w Q id,kf F rd Z->Inv N Z G w->cY Z e a.tmps->kY Z df a.defers->
 ur N ro Z w G cr Q->(aBA id ops ab).wpIn F 0 P Q a w
def J8{x:IV}{b:Bool}{u:Value}(hx:x=.raw (.bool b))(h:Rv Z x u):u=.bool b:=by subst hx;cases h;rfl
theorem kY.append:∀{ds:List Df} {xs:List Deferred} {pN:List Df} {yh:List Deferred},kY Z ds xs->kY Z pN yh->kY Z (ds++pN) (xs++yh)
 |[],[],_,_,_,h=>h
 |_::_,_::_,_,_,h,h'=>⟨h.1,kY.append h.2 h'⟩
 |[],_::_,_,_,h,_=>h.elim
 |_::_,[],_,_,h,_=>h.elim
def SC(rd:Option Nat)(G:St):Option (Nat×St×List Df):=
 match rd with
 |none=>aa (G.n,G.add (.Gp af),[.wT G.n])
 |some l=>match G.at l with
  |some (.loop _ _ _ _ _ _ _ _ fT)=>aa (fT,G,[])
  |_=>ah
def SD{fT:Nat}{av:St}{mark:List Df}(h:SC rd G=aa (fT,av,mark))(hN:av.n<=N)(hF:kf F rd Z)(hi:Inv N Z G w):
 ∃w1 bO ld marks,Inv N bO av w1/\Le ro Z w G bO w1 av/\bO fT 0=aa ld/\kY bO mark marks/\
  ∀fn ts ps gD bd,(azQ fn ts ps gD bd F.round).run P w=.ok (w1.heap.size,marks) {w1 with heap:=w1.heap.push (.loop {state:=.ready,pending:=ah,fn,tmps:=ts,params:=ps,assign:=gD,body:=bd,defers:=ld.b})}:=by
 unfold SC at h;split at h
 .cases h
  have hFe:F.round=ah:=by
   rcases hF with⟨_,rfl⟩|⟨_,_,h,_⟩
   .rfl
   .cases h
  obtain⟨h1,h2⟩:=hi.DN (ro:=ro) (go:=.deferred (aa [])) (ob:=.Gp af) (by simp at hN;omega) ⟨_,cE _ _ _ _,by simp⟩;refine⟨_,_,⟨w.heap.size,1,1⟩,[{target:=.collected w.heap.size,args:= #[]}],h1,h2,cE _ _ _ _,⟨⟨_,cE _ _ _ _,rfl⟩,trivial⟩,λfn ts ps gD bd=>?_⟩;rw[hFe];simp only[azQ,awn,run_newObj,awg,awz]
 .rename_i l;split at h
  .rename_i aM;cases h;rcases hF with⟨h,_⟩|⟨l',loc,h,hl,rfl⟩
   .cases h
   .cases h;obtain⟨ld,ts,f',hd,hh,he,ak⟩:=jU hi aM hl;refine⟨w,Z,ld,[],hi,Le.refl _ _ _ _,hd,trivial,λfn ts ps gD bd=>?_⟩;simp only[azQ,aA7,awn,o9 hh,run_newObj,awg,awz]
  .cases h
def ad3(hS:iv P S m)(hC:eP P S)(hm:bW S)(hk:bK S){fn:FuncId}{g:Operand}{ps:Array Tmp}{gD bd:Code}{df:List Df}{cr:CR}
 (h:xY P S ro rd fn (.rangeFunc g ps gD bd) e df G=aa cr)(hN:cr.G.n<=N)(hF:kf F rd Z)(hi:Inv N Z G w)(he:cY Z e a.tmps)(hd:kY Z df a.defers)(hQ:ur N ro Z w G cr Q):
 (Code.rangeFunc g ps gD bd).wpIn F 0 P Q a w:=by
 unfold xY at h;dsimp only at h
 change(match SC rd G with
  |some (fT,G,mark)=>_
  |none=>ah)=aa cr at h
 split at h
 .rename_i fT av mark qw;split at h
  .rename_i f args kg;split at h
   .rename_i v3 lS agp;split at h
    .rename_i st C4 f3 tm lO uZ Jy u4 nH AE;split at h
     .cases h
     .rename_i hb;have cB:st≠.busy:=λhx=>hb (.inl hx);have dv:ro<=av.n:=aye λhx=>hb (.inr hx)
      have G6:lS.n<=N:=by
       split at h
       .cases h;exact hN
       .have:=hm _ _ _ _ _ _ _ _ h;simp only[St.mY]at this;omega
      have zi:=hk.call _ _ _ _ _ _ agp;simp only[St.o5]at zi;obtain⟨w1,bO,ld,marks,i1,l1,u5,LK,C8⟩:=SD (P:=P) (ro:=ro) qw aj hF hi;refine wpIn_rangeFunc λPQ _=>?_;have jT:=i1.fresh av.n (awe _) aj 0;have iF:=l9 (l:=⟨w1.heap.size,1,1⟩) jT
      obtain⟨i2,l2⟩:=i1.DN (ro:=ro) (go:=.loop {state:=.ready,pending:=ah,fn:=PQ,tmps:=a.tmps,params:=ps,assign:=gD,body:=bd,defers:=ld.b}) (ob:=.loop .ready ah fn e.t e.n ps.toList gD bd fT) aj
       ⟨⟨w1.heap.size,1,1⟩,ld,a.tmps,PQ,cE _ _ _ _,iF _ _ _ u5,by simp,he.1.symm,λt=>((he.2 t).mono l1.ext).mono iF⟩
      have gg:eJ bO av.n 0 ⟨w1.heap.size,1,1⟩ av.n 0=aa ⟨w1.heap.size,1,1⟩:=cE _ _ _ _;generalize G7:({w1 with heap:=w1.heap.push (.loop {state:=.ready,pending:=ah,fn:=PQ,tmps:=a.tmps,params:=ps,assign:=gD,body:=bd,defers:=ld.b})}:World)=w2 at i2 l2;generalize eJ bO av.n 0 ⟨w1.heap.size,1,1⟩=sE at i2 l2 gg iF;obtain⟨d,hZ,g_⟩:=BF (w:=w2) (((he.mono l1.ext).mono iF).eval g) (aL.cons (.sD av.n _ gg) aL.nil) kg;rcases g_ with⟨f',as,vs,fM,hinv,dP,_⟩|⟨_,_,fM,_⟩
      .cases fM;refine⟨w1.heap.size,marks,w2,d,w2,f,vs.toArray,w2,by rw[C8,G7],?_,λf' _=>hF.fn f',hinv,hF.depth,?_⟩
       .simpa[resolve,rangeCall,Act.eval]using hZ
       .refine(hF.calls (hC.call N ro f args _ _ _ agp G6 sE vs w2 i2 dP)).mono λed w3 hR=>?_;cases ed with
        |panicked chain=>exact hR.elim
        |outgrown=>exact hR.elim
        |returned u=>
         obtain⟨PR,_,i3,l3⟩:=hR;have BI:=l3.ext _ _ _ gg;obtain⟨ld3,ts3,f3',hd3,AG,PS,G8⟩:=jU i3 AE BI;obtain⟨i4,l4⟩:=Ah (ro:=ro) (dj:=.exhausted) (zB:=C4) (f':=f3') i3 dv AE BI hd3 PS;refine⟨C4,_,by simp only[Instr.endLoop,awn,o9 AG,awg,PO st cB,awA,if_false,gw (P:=P) AG ay,awz];rfl,?_⟩;have l34:=Le.then i2 G6 l3 l4;have BH:=Le.then i1 (by simp only[St.o5];omega) l2 l34;have tA:=Le.then hi aj l1 BH;have e4:cY PR e a.tmps:=he.mono tA.ext;have d4:kY PR (mark++df) (marks++a.defers):=(LK.mono BH.ext).append (hd.mono tA.ext);split at h
         .cases h;exact hQ _ _ _ [] i4 tA e4 d4 trivial
         .rename_i c;exact(hS N ro rd fn c e _ _ cr h hN F PR {a with defers:=marks++a.defers} _ Q (hF.mono tA.ext) i4 e4 d4 (hQ.from hi tA (by simp only[St.mY];exact G6))).wp
      .cases fM
    .cases h
   .cases h
  .cases h
 .cases h
def WV(hS:iv P S m)(hC:eP P S)(hm:bW S)(hk:bK S)(hD:SB P S):iv P (mX P S) (m+1):=by
 intro N ro rd fn c e df G cr h hN F Z a w Q hF hi he hd hQ;change xY P S ro rd fn c e df G=aa cr at h;cases c<;>unfold xY at h<;>dsimp only at h
 case skip=>cases h;exact wpIn_skip (hQ a w Z [] hi (Le.refl _ _ _ _) he hd trivial)
 case label=>cases h;exact wpIn_label (hQ a w Z [] hi (Le.refl _ _ _ _) he hd trivial)
 case exit=>cases h;exact wpIn_exit (hQ a w Z [] hi (Le.refl _ _ _ _) he hd trivial)
 case goto=>cases h;exact wpIn_goto (hQ a w Z [] hi (Le.refl _ _ _ _) he hd trivial)
 case ret=>cases h;exact wpIn_ret (hQ a w Z [] hi (Le.refl _ _ _ _) he hd trivial)
 case refuse=>cases h
 case region id ops draw=>
  split at h
  .rename_i GX;subst GX;exact hD N ro rd ops e df G cr h hN F Z a w Q id hF hi he hd hQ
  .rename_i GX;have:draw=af:=by simpa using GX
   subst this;refine wpIn_region ?_;have:=LJ (k:=0) hS hC hm hk ay h hN hF hi he hd hQ;rw[ay9];simpa using this
 case seq x y=>
  refine wpIn_seq ?_;split at h
  .rename_i e1 tB av h1;have dW:av.n<=N:=awy (hm _ _ _ _ _ _ _ _ h) hN;refine(hS N ro rd fn x e df G _ h1 dW F Z a w _ hF hi he hd ?_).wp;intro a1 w1 bO ft i1 l1 cM d1 p1;exact(hS N ro rd fn y _ _ _ _ h hN F bO a1 w1 Q (hF.mono l1.ext) i1 cM d1 (hQ.from hi l1 dW)).wp
  .rename_i fC;refine(hS N ro rd fn x e df G _ h hN F Z a w _ hF hi he hd ?_).wp;intro a1 w1 bO ft i1 l1 cM d1 p1;have:=hQ a1 w1 bO ft i1 l1 cM d1 p1;cases hx:cr.ex with
   |normal=>exact absurd (by rw[h];cases cr;cases hx;rfl) (fC cr.e cr.df cr.G)
   |exit id=>rw[hx]at this;exact this
   |goto l=>rw[hx]at this;exact this
   |ret=>rw[hx]at this;exact this
   |cd v=>rw[hx]at this;exact this
 case cond c x y=>
  split at h
  .rename_i t ht;have hc:=J8 ht (he.eval c);exact wpIn_cond hc (hS N ro rd fn _ e df G cr h hN F Z a w Q hF hi he hd hQ).wp
  .cases h
 case block id x=>
  refine wpIn_block ?_;split at h
  .rename_i bt e1 tB av h1
   have dW:av.n<=N:=by
    split at h<;>(cases h;exact hN)
   refine(hS N ro rd fn x e df G _ h1 dW F Z a w _ hF hi he hd ?_).wp;intro a1 w1 bO ft i1 l1 cM d1 p1;simp only[G3,aBt];split at h
   .rename_i hid;cases h;rw[if_pos hid];exact hQ a1 w1 bO ft i1 l1 cM d1 p1
   .rename_i hid;cases h;rw[if_neg hid];exact hQ a1 w1 bO ft i1 l1 cM d1 p1
  .rename_i fC;refine(hS N ro rd fn x e df G _ h hN F Z a w _ hF hi he hd ?_).wp;intro a1 w1 bO ft i1 l1 cM d1 p1;have:=hQ a1 w1 bO ft i1 l1 cM d1 p1;cases hx:cr.ex with
   |exit bt=>exact absurd (by rw[h];cases cr;cases hx;rfl) (fC bt cr.e cr.df cr.G)
   |normal=>rw[hx]at this;exact this
   |goto l=>rw[hx]at this;exact this
   |ret=>rw[hx]at this;exact this
   |cd v=>rw[hx]at this;exact this
 case loop x=>
  show aBj F 0 P x Q (m+1) a w;rw[roundsIn_succ];split at h
  .rename_i e1 tB av h1;have dW:av.n<=N:=awy (hm _ _ _ _ _ _ _ _ h) hN;refine(hS N ro rd fn x e df G _ h1 dW F Z a w _ hF hi he hd ?_).wp;intro a1 w1 bO ft i1 l1 cM d1 p1;exact hS N ro rd fn (.loop x) _ _ _ _ h hN F bO a1 w1 Q (hF.mono l1.ext) i1 cM d1 (hQ.from hi l1 dW)
  .rename_i fC;refine(hS N ro rd fn x e df G _ h hN F Z a w _ hF hi he hd ?_).wp;intro a1 w1 bO ft i1 l1 cM d1 p1;have:=hQ a1 w1 bO ft i1 l1 cM d1 p1;cases hx:cr.ex with
   |normal=>exact absurd (by rw[h];cases cr;cases hx;rfl) (fC cr.e cr.df cr.G)
   |exit id=>rw[hx]at this;exact this
   |goto l=>rw[hx]at this;exact this
   |ret=>rw[hx]at this;exact this
   |cd v=>rw[hx]at this;exact this
 case scope x=>
  refine LH ?_;split at h
  .cases h
  .rename_i fC;refine(hS N ro rd fn x e df G _ h hN F Z a w _ hF hi he hd ?_).wp;intro a1 w1 bO ft i1 l1 cM d1 p1;have:=hQ a1 w1 bO ft i1 l1 cM d1 p1;cases hx:cr.ex with
   |goto l=>exact absurd (by rw[h];cases cr;cases hx;rfl) (fC l cr.e cr.df cr.G)
   |normal=>rw[hx]at this;exact this
   |exit id=>rw[hx]at this;exact this
   |ret=>rw[hx]at this;exact this
   |cd v=>rw[hx]at this;exact this
 case rangeFunc g params assign body=>
  exact ad3 hS hC hm hk (by unfold xY;exact h) hN hF hi he hd hQ
def Ny{m:Option IV}{u:FrameMode}(h:o8 Z m u):u≠.run:=by
 cases m with
 |none=>rw[show u=_ from h];simp
 |some v=>obtain⟨x,rfl,_⟩:=h;simp
theorem EN(hC:eP P S)(hk:bK S){fn:Func}{ts:Array Value}{R:Ending->World->Prop}:∀{df:List Df} {ds:List Deferred} {G au:St} {m m':Option IV} {u:FrameMode} {Z:Io} {w:World},gW S ro df m G=aa (m',au)->
 kY Z df ds->o8 Z m u->Inv N Z G w->au.n<=N->
 (∀w' aK u',Inv N aK au w'->Le ro Z w G aK w' au->o8 aK m' u'->LeavesIn awP 0 P fn ts R [] u' w')->LeavesInM awP 0 P fn ts R ds u w
 |[],[],G,au,m,m',u,Z,w,h,_,hu,hi,_,hQ=>by
  cases h;exact hQ w Z u hi (Le.refl _ _ _ _) hu
 |.wT id::df,d::ds,G,au,m,m',u,Z,w,h,hd,hu,hi,hn,hQ=>by
  unfold gW at h;obtain⟨⟨l,hl,rfl⟩,wF⟩:=hd;split at h
  .rename_i aM;split at h
   .rename_i ej;obtain⟨l',cz,hh⟩:=hi.obj id _ aM;rw[hl]at cz;cases cz;have ak:=hi.gE id _ ⟨0,l,hl,rfl⟩;obtain⟨i1,l1⟩:=hi.wX (ro:=ro) (go:=.deferred ah) (fp:=.Gp ab) aM ej hl ⟨l,hl,heap_set ak⟩;have eN:=lx hk h;simp only[St.mY]at eN;refine⟨Ny hu,.inl ⟨l.b,_,rfl,?_,EN hC hk h wF hu i1 hn λw' aK u' i2 l2 Gr=>hQ w' aK u' i2 (Le.then hi (by simp only[St.mY];omega) l1 l2) Gr⟩⟩;simp only[Instr.takeDeferred,awn,cX (P:=P) hh ay,awg,awA,if_false,gw (P:=P) hh ay,awz]
   .cases h
  .cases h
 |.call f args::df,d::ds,G,au,m,m',u,Z,w,h,hd,hu,hi,hn,hQ=>by
  unfold gW at h;obtain⟨⟨cap,us,vs,rfl,dP,jG⟩,wF⟩:=hd;split at h
  .rename_i m1 av h1;have eN:=lx hk h;have hc:=hC.zd N ro f args m G m1 av h1 aj Z vs u w hu hi dP;refine⟨Ny hu,.inr ⟨by simp[awP],.func f,cap.toArray,f,vs.toArray,rfl,?_,λg _=>trivial,?_⟩⟩
   .obtain⟨PQ,cL,hb⟩:=hC.DO ro f args m G m1 av h1;simp only[invoke];rw[C6 cL hb,jG];simp
   .refine hc.mono λe u' w' hR=>?_;cases e with
    |returned v=>
     obtain⟨bO,yj,i1,l1⟩:=hR;exact EN hC hk h (wF.mono l1.ext) yj i1 hn λw2 sE u2 i2 l2 wG=>hQ w2 sE u2 i2 (Le.then hi aj l1 l2) wG
    |panicked chain=>exact hR.elim
    |outgrown=>exact hR.elim
  .cases h
 |[],_::_,_,_,_,_,_,_,_,_,h,_,_,_,_=>h.elim
 |.wT _::_,[],_,_,_,_,_,_,_,_,h,_,_,_,_=>h.elim
 |.call _ _::_,[],_,_,_,_,_,_,_,_,h,_,_,_,_=>h.elim
def C9(P:Program)(e:Env)(G:St)(r:ResultVar):Option IV:=
 match r with
 |.tmp t=>aa (e.at t)
 |.cell a t=>match e.at a with
  |.ptr id off ep ext=>match aW P t,G.at id with
   |some s,aa (.cells cs aD mn)=>if s<=ext/\mn<=ep/\ep<=aD then partOf P t cs off else ah
   |_,_=>ah
  |_=>ah
def Nz(ts:Array Value)(r:ResultVar):Sem Value:=
 match r with
 |.tmp t=>pure (ts.getD t awT)
 |.cell a t=>do loadVar t (<-asAddr (ts.getD a awT))
def aj0{ts:Array Value}{r:ResultVar}{v:IV}(h:C9 P e G r=aa v)(hi:Inv N Z G w)(he:cY Z e ts):∃u,(Nz ts r).run P w=.ok u w/\Rv Z v u:=by
 unfold C9 at h;unfold Nz;cases r with
 |tmp t=>cases h;exact⟨_,by simp only[awz],he.2 t⟩
 |cell a t=>
  simp only at h⊢;have hr:=he.2 a;split at h
  .rename_i id off ep ext hx;rw[hx]at hr;split at h
   .rename_i s cs aD mn hs aM;split at h
    .rename_i hc;obtain⟨ad,x,hu,h1,h2⟩:=GM hi hs aM hc.1 hc.2.1 hc.2.2 h hr;refine⟨x,?_,h2⟩;rw[hu];simp only[asAddr,awn,awz,awg,h1]
    .cases h
   .cases h
  .cases h
theorem WW{ts:Array Value}(hi:Inv N Z G w)(he:cY Z e ts):∀{rs:List ResultVar} {vs:List IV},rs.mapM (C9 P e G)=aa vs->∃us,(rs.mapM (Nz ts)).run P w=.ok us w/\aL Z vs us
 |[],vs,h=>by
  simp only[aAb]at h;cases h;exact⟨[],by simp only[aAb,awz],aL.nil⟩
 |r::rs,vs,h=>by
  rw[ayk]at h;cases h1:C9 P e G r with
  |none=>rw[h1]at h;cases h
  |some v=>
   rw[h1]at h;cases h2:rs.mapM (C9 P e G)with
   |none=>rw[h2]at h;cases h
   |some zf=>
    rw[h2]at h;cases h;obtain⟨u,k1,k2⟩:=aj0 h1 hi he;obtain⟨us,k3,k4⟩:=WW hi he h2;exact⟨u::us,by simp only[ayk,awn,k1,awg,k3,awz],aL.cons k2 k4⟩
def YY(fn:Func)(ts:Array Value):results fn ts=(do
 let vs<-fn.results.mapM (Nz ts)
 pure (if h:vs.size=1 then vs[0]else .tuple vs)):=by
 unfold results
 have:(λr:ResultVar=>(match r with|.tmp t=>pure (ts.getD t awT)|.cell a t=>do loadVar t (<-asAddr (ts.getD a awT)):Sem Value))=Nz ts:=by
  funext r;cases r<;>rfl
 rw[<-this];rfl
def Wl{fn:Func}{v:IV}(h:cV P fn e G=aa v):∃vs,fn.results.toList.mapM (C9 P e G)=aa vs/\((∃x,vs=[x]/\v=x)\/(vs.length≠1/\v=.aF vs)):=by
 unfold cV at h;dsimp only at h
 change(match fn.results.toList with
  |[r]=>C9 P e G r
  |l=>match l.mapM (C9 P e G)with
   |some vs=>aa (.aF vs)
   |none=>ah)=aa v at h
 split at h
 .rename_i r hl;exact⟨[v],by rw[hl,ayk,h];rfl,.inl ⟨v,rfl,rfl⟩⟩
 .rename_i hl;split at h
  .rename_i vs dP;cases h;refine⟨vs,dP,.inr ⟨λhlen=>?_,rfl⟩⟩
   have mM:fn.results.toList.length=vs.length:=by
    clear hl hlen;generalize fn.results.toList=l at dP;induction l generalizing vs with
    |nil=>cases dP;rfl
    |cons r rs ih=>
     rw[ayk]at dP;cases h1:C9 P e G r with
     |none=>rw[h1]at dP;cases dP
     |some v=>
      rw[h1]at dP;cases h2:rs.mapM (C9 P e G)with
      |none=>rw[h2]at dP;cases dP
      |some zf=>
       rw[h2]at dP;cases dP;simp[ih _ h2]
   cases hc:fn.results.toList with
   |nil=>rw[hc]at mM;simp at mM;omega
   |cons r rs=>
    cases rs with
    |nil=>exact hl r hc
    |cons r2 rs2=>rw[hc]at mM;simp at mM;omega
  .cases h
def vq{fn:Func}{ts:Array Value}{v:IV}(h:cV P fn e G=aa v)(hi:Inv N Z G w)(he:cY Z e ts):∃u,(results fn ts).run P w=.ok u w/\Rv Z v u:=by
 obtain⟨vs,dP,h⟩:=Wl h;obtain⟨us,h1,h2⟩:=WW hi he dP
 have hm:(fn.results.mapM (Nz ts)).run P w=.ok us.toArray w:=by
  rw[Array.mapM_eq_mapM_toList,Sem.run_map,h1];rfl
 rw[YY];simp only[awn,hm,awg,awz];refine⟨_,rfl,?_⟩;rcases h with⟨x,rfl,rfl⟩|⟨hlen,rfl⟩
 .obtain⟨u,rfl,hu⟩:=Iz h2;simpa using hu
 .have:¬us.toArray.size=1:=by rw[List.size_toArray,<-h2.1];exact hlen
  rw[dif_neg this];exact rY h2
theorem SG:∀{args:List IV} {us:List Value} {k:Nat} {e:Env} {ts:Array Value},cY Z e ts->aL Z args us->
 cY Z ((args.zipIdx k).foldl (λe (v,i)=>e.put (aa i) v) e) ((us.zipIdx k).foldl (λts (u,i)=>ts.setIfInBounds i u) ts)
 |[],us,k,e,ts,h,hr=>by rw[hr.of_nil];exact h
 |v::args,us,k,e,ts,h,hr=>by
  obtain⟨u,wA,rfl,h1,h2⟩:=hr.x_;simp only[azL,awW];exact SG (h.set h1 k) h2
theorem LL:∀(us:List Value) (k:Nat) (ts:Array Value),k+us.length<=ts.size->(us.zipIdx k).foldl (λts (u,i)=>ts.setIfInBounds i u) ts=(ts.toList.take k++us++ts.toList.drop (k+us.length)).toArray
 |[],k,ts,_=>by simp
 |u::us,k,ts,h=>by
  simp only[azL,awW];simp only[awJ]at h;rw[LL us (k+1) _ (by simp;omega)]
  congr 1
  simp only[azU,awJ]
  have h1:(ts.toList.set k u).take (k+1)=ts.toList.take k++[u]:=by
   have hk:k<ts.toList.length:=by simp;omega
   rw[List.take_add_one,List.getElem?_set_self hk];simp[List.take_set_of_le]
  have h2:(ts.toList.set k u).drop (k+1+us.length)=ts.toList.drop (k+(us.length+1)):=by
   rw[List.drop_set_of_lt aj]
   congr 1
   omega
  rw[h1,h2];simp
def ah_(n:Nat):cY Z ⟨n,.lf⟩ (axc n awT):=by
 refine⟨by simp,λt=>?_⟩
 have:(axc n awT).getD t awT=awT:=by
  rw[aw9,azZ];split<;>rfl
 rw[this];exact .raw _
def AH{args:List IV}{us:List Value}{n:Nat}(hr:aL Z args us)(hn:args.length<=n):
 cY Z (args.zipIdx.foldl (λe (v,i)=>e.put (aa i) v) ⟨n,.lf⟩) (us.toArray++axc (n- us.toArray.size) awT):=by
 have h:=SG (k:=0) (ah_ (Z:=Z) n) hr;have hl:=hr.1;rw[LL us 0 _ (by simp;omega)]at h
 have:(us.toArray++axc (n- us.toArray.size) awT)=((axc n awT).toList.take 0++us++(axc n awT).toList.drop (0+us.length)).toArray:=by
  simp
 rw[this];exact h
def WX(hS:iv P S m)(hC:eP P S)(hm:bW S)(hk:bK S){f:FuncId}{args:List IV}{SH:Func}{e':Env}{mo:Option IV}{au:St}{us:List Value}{R:Ending->World->Prop}
 (h:DE P S ro f args G=aa (SH,e',mo,au))(hN:au.n<=N)(hi:Inv N Z G w)(hr:aL Z args us)
 (hQ:∀ts w' aK u',Inv N aK au w'->Le ro Z w G aK w' au->cY aK e' ts->o8 aK mo u'->LeavesIn awP 0 P SH ts R [] u' w'):CallsIn awP 0 P f us.toArray w R:=by
 unfold DE at h;split at h
 .rename_i fn cL;split at h
  .rename_i c hb;split at h
   .cases h
   .rename_i hlen;simp only at h
    have key:∀{ex:Ex} {e1:Env} {df:List Df} {av:St} {mi:Option IV},S.code ro ah f c (args.zipIdx.foldl (λe (v,i)=>e.put (aa i) v) ⟨fn.ntmps,.lf⟩) [] G=aa ⟨ex,e1,df,av⟩->
     (((ex=.normal\/ex=.ret)/\mi=ah)\/∃v,ex=.cd v/\mi=aa v)->
     (match gW S ro df mi av with
      |some (m,G)=>aa (fn,e1,m,G)
      |none=>ah)=aa (SH,e',mo,au)->CallsIn awP 0 P f us.toArray w R:=by
     intro ex e1 df av mi h1 hex h;split at h
     .rename_i m2 cK h2;obtain⟨rfl,rfl,rfl,rfl⟩:fn=SH/\e1=e'/\m2=mo/\cK=au:=by cases h;exact⟨rfl,rfl,rfl,rfl⟩
      clear h;have eN:=lx hk h2;have dW:av.n<=N:=aj;refine callsIn_of_wp_marks cL hb trivial ?_;refine(hS N ro ah f c _ [] G _ h1 dW awP Z {tmps:=us.toArray++axc (fn.ntmps- us.toArray.size) awT,defers:=[]} w _ (.inl ⟨rfl,rfl⟩) hi (AH hr aj) trivial ?_).wp;intro a1 w1 bO ft i1 l1 cM d1 p1
      have:∀u,o8 bO mi u->LeavesInM awP 0 P fn a1.tmps R a1.defers u w1:=λu hu=>
       EN hC hk h2 d1 hu i1 hN λw2 sE u2 i2 l2 wG=>hQ a1.tmps w2 sE u2 i2 (Le.then hi dW l1 l2) (cM.mono l2.ext) wG
      rcases hex with⟨rfl|rfl,rfl⟩|⟨v,rfl,rfl⟩
      .exact this _ rfl
      .exact this _ rfl
      .obtain⟨u,rfl,hu⟩:=p1;exact this _ ⟨u,rfl,hu⟩
     .cases h
    split at h
    .rename_i h1;exact key h1 (.inl ⟨.inl rfl,rfl⟩) h
    .rename_i h1;exact key h1 (.inl ⟨.inr rfl,rfl⟩) h
    .rename_i h1;exact key h1 (.inr ⟨_,rfl,rfl⟩) h
    .cases h
  .cases h
 .cases h
def tN(Z:Io):Option IV->FrameMode->Prop
 |none,u=>u=.returning\/∃x,u=.panicking [{v:=x,recovered:=ab}]
 |some v,u=>∃x,u=.panicking [{v:=x,recovered:=af}]/\Rv Z v x
def tN.of{m:Option IV}{u:FrameMode}(h:o8 Z m u):tN Z m u:=by
 cases m with
 |none=>exact .inl h
 |some v=>exact h
theorem tN.mono{aK:Io}(iK:Ext Z aK){m:Option IV}{u:FrameMode}(h:tN Z m u):tN aK m u:=by
 cases m with
 |none=>exact h
 |some v=>obtain⟨x,h1,h2⟩:=h;exact⟨x,h1,h2.mono iK⟩
theorem tN.settle{m:Option IV}{u:FrameMode}(h:tN Z m u):o8 Z m (Go.settle u):=by
 cases m with
 |none=>
  rcases h with rfl|⟨x,rfl⟩
  .rfl
  .rfl
 |some v=>obtain⟨x,rfl,h2⟩:=h;exact⟨x,rfl,h2⟩
def Rn(N ro:Nat)(Z:Io)(w:World)(G:St)(cr:CR)(m:Option IV)(c0:Frame)(sI:List Frame)(Q:Exit->Act->List Frame->World->Prop):Prop:=
 ∀a' w' aK u' ch,Inv N aK cr.G w'->Le ro Z w G aK w' cr.G->cY aK cr.e a'.tmps->kY aK cr.df a'.defers->SA aK ch cr.ex->tN aK m u'->Q (G3 ch cr.ex) a' ({c0 with mode:=u'}::sI) w'
theorem Ai{ops:Array Oper}{Q:Exit->Act->List Frame->World->Prop}{c0:Frame}{sI:List Frame}:∀{l:List Oper} {k:Nat} {e:Env} {G:St} {e':Env} {mo pO:Option IV} {au:St} {Z:Io} {a:Act} {u:FrameMode} {w:World},
 ops.toList.drop k=l->pL P ro ops l e mo G=aa (e',pO,au)->au.n<=N->Inv N Z G w->cY Z e a.tmps->a.defers=[]->tN Z mo u->Rn N ro Z w G ⟨.normal,e',[],au⟩ pO c0 sI Q->
 wpOpsSIn awP 0 P ops Q (axN k l.length) a ({c0 with mode:=u}::sI) w
 |[],k,e,G,e',mo,pO,au,Z,a,u,w,hl,h,hN,hi,he,hd,hu,hQ=>by
  cases h;exact hQ a w Z u [] hi (Le.refl _ _ _ _) he (by rw[hd];trivial) trivial hu
 |o::rest,k,e,G,e',mo,pO,au,Z,a,u,w,hl,h,hN,hi,he,hd,hu,hQ=>by
  have iW:ops.toList.drop (k+1)=rest:=by
   rw[<-ayj (i:=1) (j:=k),hl];rfl
  have a_:ops[k]?=aa o:=by
   have:(ops.toList.drop k)[0]?=aa o:=by rw[hl];rfl
   simpa using this
  simp only[awJ,ayI];unfold wpOpsSIn;rw[a_];simp only;refine⟨λf _=>trivial,?_⟩;have J9:∀v,(a.put o.dst v).defers=[]:=λv=>by cases o.dst<;>exact hd
  unfold pL at h;rw[uW he];split at h
  .rename_i hw;rw[if_pos hw];split at h
   .rename_i EO
    have hex:(execOp a.eval o).run P w=.ok .recover w:=by
     unfold oU at EO;split at EO
     .rename_i ew;simp only[execOp,ew,resolve,awn,awz,awg,invoke,builtin]
     .cases EO
    rw[hex];simp only;split at h
    .rename_i v;obtain⟨x,rfl,hx⟩:=hu;simp only[recoverD];exact Ai iW h hN hi (he.put hx _) (J9 _) (.inr ⟨x,rfl⟩) hQ
    .have jT:recoverD ({c0 with mode:=u}::sI)=ah:=by
      rcases hu with rfl|⟨x,rfl⟩<;>rfl
     rw[jT];simp only;exact Ai iW h hN hi (he.put (.raw _) _) (J9 _) hu hQ
   .split at h
    .rename_i v av h1;have dW:av.n<=N:=awy (uX h) hN;obtain⟨u1,w1,bO,hr,h2,h3,h4⟩:=qv hi he.eval h1 dW;have hQ':Rn N ro bO w1 av ⟨.normal,e',[],au⟩ pO c0 sI Q:=λa' w' aK u' ch g1 g2 g3 g4 g5 g6=>hQ a' w' aK u' ch g1 (Le.then hi dW h4 g2) g3 g4 g5 g6;rcases hr with hr|⟨hr,rfl⟩
     .rw[hr];simp only;exact Ai iW h hN h3 ((he.mono h4.ext).put h2 _) (J9 _) (hu.mono h4.ext) hQ'
     .rw[hr];simp only;exact Ai iW h hN h3 ((he.mono h4.ext).put h2 _) (J9 _) (hu.mono h4.ext) hQ'
    .cases h
  .rename_i hw;rw[if_neg hw];exact Ai iW h hN hi (he.put uo _) (J9 _) hu hQ
def ar0(hS:iv P S m)(hm:bW S){fn:FuncId}{c0:Frame}{sI:List Frame}:∀{c:Code} {Q:Exit->Act->List Frame->World->Prop} {e:Env} {mo pO:Option IV} {G:St} {cr:CR} {Z:Io} {a:Act} {u:FrameMode} {w:World},
 By P S ro fn c e mo G=aa (cr,pO)->cr.G.n<=N->Inv N Z G w->cY Z e a.tmps->a.defers=[]->tN Z mo u->Rn N ro Z w G cr pO c0 sI Q->c.wpSIn awP 0 P Q a ({c0 with mode:=u}::sI) w:=by
 intro c
 have other:∀{c:Code} {Q:Exit->Act->List Frame->World->Prop} {e:Env} {mo pO:Option IV} {G:St} {cr:CR} {Z:Io} {a:Act} {u:FrameMode} {w:World},(match S.code ro ah fn c e [] G with|some r=>aa (r,mo)|none=>ah)=aa (cr,pO)->
  cr.G.n<=N->Inv N Z G w->cY Z e a.tmps->a.defers=[]->tN Z mo u->Rn N ro Z w G cr pO c0 sI Q->c.wpSIn awP 0 P Q a ({c0 with mode:=u}::sI) w:=by
  intro c Q e mo pO G cr Z a u w h hN hi he hd hu hQ;split at h
  .rename_i h1;cases h;refine wpSIn_of_wpIn rfl ?_;refine(hS N ro ah fn c e [] G _ h1 hN awP Z a w _ (.inl ⟨rfl,rfl⟩) hi he (by rw[hd];trivial) ?_).wp;intro a1 w1 bO ft i1 l1 e1 d1 p1;exact hQ a1 w1 bO u ft i1 l1 e1 d1 p1 (hu.mono l1.ext)
  .cases h
 induction c with
 |seq x y ihx ihy=>
  intro Q e mo pO G cr Z a u w h hN hi he hd hu hQ;unfold By at h;refine wpSIn_seq ?_;split at h
  .rename_i e1 av m1 h1;have dW:av.n<=N:=awy (J7 hm h) hN;refine ihx h1 dW hi he hd hu ?_;intro a1 w1 bO u1 ft i1 l1 cM d1 p1 yj;exact ihy h hN i1 cM d1.nil yj λa' w' aK u' ch g1 g2 g3 g4 g5 g6=>hQ a' w' aK u' ch g1 (Le.then hi dW l1 g2) g3 g4 g5 g6
  .cases h
  .rename_i avX ar1;refine ihx h hN hi he hd hu ?_;intro a1 w1 bO u1 ft i1 l1 cM d1 p1 yj;have:=hQ a1 w1 bO u1 ft i1 l1 cM d1 p1 yj;cases hx:cr.ex with
   |normal=>exact absurd (by rw[h];cases cr;cases hx;rfl) (ar1 cr.e cr.df cr.G pO)
   |exit id=>rw[hx]at this;exact this
   |goto l=>rw[hx]at this;exact this
   |ret=>rw[hx]at this;exact this
   |cd v=>rw[hx]at this;exact this
 |region id ops draw=>
  intro Q e mo pO G cr Z a u w h hN hi he hd hu hQ;unfold By at h;split at h
  .rename_i hc
   have GX:draw=af:=by
    cases draw with
    |false=>rfl
    |true=>simp at hc
   subst GX;split at h
   .rename_i h1;cases h;refine wpSIn_region ?_;have:=Ai (k:=0) ay h1 hN hi he hd hu hQ;rw[ay9];simpa using this
   .cases h
  .exact other h hN hi he hd hu hQ
 |_=>
  intro Q e mo pO G cr Z a u w h hN hi he hd hu hQ;unfold By at h;exact other h hN hi he hd hu hQ
def aj1(hS:iv P S m)(hm:bW S){f:FuncId}{args:List IV}{mo pO:Option IV}{au:St}(h:EB P S ro f args mo G=aa (pO,au))(hN:au.n<=N){us:List Value}{u:FrameMode}(hu:o8 Z mo u)(hi:Inv N Z G w)(hr:aL Z args us):
 CallsDIn awP 0 P f us.toArray u w (LI N ro Z w G pO au):=by
 unfold EB at h;split at h
 .rename_i fn cL;split at h
  .cases h
  split at h
  .rename_i c hb;split at h
   .cases h
   .rename_i hlen;simp only at h
    have key:∀{ex:Ex} {e1:Env} {av:St} {m1:Option IV},By P S ro f c (args.zipIdx.foldl (λe (v,i)=>e.put (aa i) v) ⟨fn.ntmps,.lf⟩) mo G=aa (⟨ex,e1,[],av⟩,m1)->(ex=.normal\/ex=.ret)->
     (match cV P fn e1 av with
      |some _=>aa (m1,av)
      |none=>ah)=aa (pO,au)->CallsDIn awP 0 P f us.toArray u w (LI N ro Z w G pO au):=by
     intro ex e1 av m1 h1 hex h;split at h
     .rename_i v hv;cases h;refine callsDIn_of_wpSIn cL hb trivial λc0 cs Gq=>?_;have bU:c0={c0 with mode:=u}:=by rw[<-Gq]
      have:=ar0 hS hm (c0:=c0) (sI:=cs) (Q:=bodyPostS P fn c0 cs (LI N ro Z w G pO au)) (a:={tmps:=us.toArray++axc (fn.ntmps- us.toArray.size) awT,defers:=[]}) h1 hN hi (AH hr aj) rfl (tN.of hu) ?_
      .rw[<-bU]at this;exact this
      .intro a1 w1 bO u1 ft i1 l1 cM d1 p1 yj;obtain⟨x,k1,k2⟩:=vq hv i1 cM;have:bodyPostS P fn c0 cs (LI N ro Z w G pO au) .ret a1 ({c0 with mode:=u1}::cs) w1:=⟨d1.nil,u1,rfl,x,k1,bO,yj.settle,i1,l1⟩;rcases hex with rfl|rfl<;>exact this
     .cases h
    split at h
    .rename_i h1;exact key h1 (.inl rfl) h
    .rename_i h1;exact key h1 (.inr rfl) h
    .cases h
  .cases h
 .cases h
def NA(hS:iv P S m)(hC:eP P S)(hm:bW S)(hk:bK S):eP P (mX P S) where
 call:=by
  intro N ro f args G v au h hN Z us w hi hr;simp only[mX,R9]at h;split at h
  .rename_i SH e1 av h1;split at h
   .rename_i v' h2;cases h;refine WX hS hC hm hk h1 hN hi hr λts w' aK u' i1 l1 cM hu=>?_;rw[show u'=_ from hu];obtain⟨u,k1,k2⟩:=vq h2 i1 cM;exact⟨u,k1,aK,k2,i1,l1⟩
   .cases h
  .cases h
 cd:=by
  intro N ro f args G v au h hN Z us w hi hr;simp only[mX,YH]at h;split at h
  .rename_i h1;cases h;refine WX hS hC hm hk h1 hN hi hr λts w' aK u' i1 l1 cM hu=>?_;obtain⟨x,rfl,hx⟩:=hu;exact⟨aK,⟨x,rfl,hx⟩,i1,l1⟩
  .cases h
 zd:=by
  intro N ro f args mo G pO au h hN Z us u w hu hi hr;exact aj1 hS hm h hN hu hi hr
 DO:=by
  intro ro f args mo G pO au h;simp only[mX,EB]at h;split at h
  .rename_i fn cL;split at h
   .cases h
   .rename_i zj;exact⟨fn,cL,by simpa only[awX,Bool.not_eq_false]using zj⟩
  .cases h
theorem agq(hD:∀m S,iv P S m->eP P S->bW S->bK S->SB P S):∀n,iv P (ev P n) n/\eP P (ev P n)/\bW (ev P n)/\bK (ev P n)
 |0=>by
  refine⟨?_,⟨?_,?_,?_,?_⟩,?_,⟨?_,?_,?_⟩⟩
  .intro N ro rd fn c e df G cr h;cases h
  .intro N ro f args G v au h;cases h
  .intro N ro f args G v au h;cases h
  .intro N ro f args m G m' au h;cases h
  .intro ro f args m G m' au h;cases h
  .intro ro rd fn c e df G cr h;cases h
  .intro ro f args G v au h;cases h
  .intro ro f args G v au h;cases h
  .intro ro f args m G m' au h;cases h
 |n+1=>by
  obtain⟨h1,h2,h3,h4⟩:=agq hD n;exact⟨WV h1 h2 h3 h4 (hD n _ h1 h2 h3 h4),NA h1 h2 h3 h4,PM h3 h4,G2 h3 h4⟩
def rZ{ρ BJ:Operand->IV}{o:Oper}(h:∀x∈o.op.operands,ρ x=BJ x):aA P ro ρ o G=aA P ro BJ o G:=by
 obtain⟨dst,op,type,pos,after,guard⟩:=o
 have agr:∀ps:Array (Nat×Operand),(∀x∈(ps.toList.map (·.2)),ρ x=BJ x)->(ps.toList.map λ(i,x)=>(i,ρ x))=(ps.toList.map λ(i,x)=>(i,BJ x)):=λps hp=>
  ayn λp hm=>by
   obtain⟨i,x⟩:=p;simp only[hp x (List.mem_map.2 ⟨(i,x),hm,rfl⟩)]
 cases op<;>simp only[Op.operands]at h<;>unfold aA<;>dsimp only
 case move x=>rw[h x ay]
 case assign x=>rw[h x ay]
 case pick c x y=>rw[h c ay,h x ay,h y ay]
 case box t x=>rw[h x ay]
 case build t ps=>rw[agr ps λx hx=>h x (by simpa using hx)]
 case buildSlice t n ps=>rw[agr ps λx hx=>h x (by simpa using hx)]
 case load t x=>rw[h x ay]
 case store t x y=>rw[h x ay,h y ay]
 case nilCheck x=>rw[h x ay]
 case binOp op t x y yT=>rw[h x ay,h y ay]
 case unOp op t x=>rw[h x ay]
 case convert s d x=>rw[h x ay]
 case makeInterface t x=>rw[h x ay]
 case makeFunc fn first captured=>
  rw[ayn (l:=first.toList) λx hx=>h x (by simp at hx;simp[hx]),ayn (l:=captured.toList) λx hx=>h x (by simp at hx;simp[hx])]
 case makeMap t r=>cases r with|none=>rfl|some x=>dsimp only;rw[h x ay]
 case makeSlice t x y=>rw[h x ay,h y ay]
 case slice t x lo hi mx=>
  have e1:lo.map ρ=lo.map BJ:=by cases lo with|none=>rfl|some y=>simp only[awQ,h y ay]
  have e2:hi.map ρ=hi.map BJ:=by cases hi with|none=>rfl|some y=>simp only[awQ,h y ay]
  have e3:mx.map ρ=mx.map BJ:=by cases mx with|none=>rfl|some y=>simp only[awQ,h y ay]
  rw[h x ay,e1,e2,e3]
 case fieldAddr t x f=>rw[h x ay]
 case field t x f=>rw[h x ay]
 case indexAddr t x y=>rw[h x ay,h y ay]
 case index t x y=>rw[h x ay,h y ay]
 case lookup t x y ok=>rw[h x ay,h y ay]
 case mapUpdate t x y z=>rw[h x ay,h y ay,h z ay]
 case insert t x y z=>rw[h x ay,h y ay,h z ay]
 case range t x=>rw[h x ay]
 case next x s=>rw[h x ay]
 case entry x=>rw[h x ay]
 case extract x i=>rw[h x ay]
 case typeAssert x xt t ok=>rw[h x ay]
 case panic x=>rw[h x ay]
 case call c=>
  have ha:c.args.toList.map ρ=c.args.toList.map BJ:=ayn λx hx=>h x (by simp[azl];right;simpa using hx);rw[ha];cases hc:c.callee with
  |value f=>dsimp only;rw[h f (by simp[azl,hc])]
  |invoke r m=>rfl
  |builtin b=>rfl
 case defer c=>
  have ha:c.args.toList.map ρ=c.args.toList.map BJ:=ayn λx hx=>h x (by simp[azl];right;simpa using hx);rw[ha];cases hc:c.callee with
  |value f=>dsimp only;rw[h f (by simp[azl,hc])]
  |invoke r m=>rfl
  |builtin b=>rfl
structure Gn(Fr:Nat->Prop)(Z:Io)(cur:Nat->Option Ob)(w:World):Prop where
 mem:∀b c,Z.m b=aa c->∃e f,w.heap[b]?=aa (.cells c e f)
 sep:∀b c id,Z.m b=aa c->¬Own Z id b
 gE:∀id b,Own Z id b->b<w.heap.size
 inj:∀i j b,Own Z i b->Own Z j b->i=j
 fresh:∀id,Fr id->∀e,Z id e=ah
 obj:∀id o,cur id=aa o->l8 Z w id o
def Gn.inv{Fr:Nat->Prop}{cur:Nat->Option Ob}(h:Gn Fr Z cur w)(sub:∀id o,G.at id=aa o->cur id=aa o)(fr:∀id,G.n<=id->id<N->Fr id)(wf:∀id,G.n<=id->G.at id=ah):Inv N Z G w:=
 ⟨h.mem,h.sep,h.gE,λid h1 h2=>h.fresh id (fr id h1 h2),h.inj,λid o ho=>h.obj id o (sub id o ho),wf⟩
def YZ{id:Nat}{o:Ob}(h:l8 Z w id o):∃e l,Z id e=aa l:=by
 cases o with
 |cells cs ep mn=>obtain⟨_,⟨l,hl,_⟩,_⟩:=h;exact⟨_,l,hl⟩
 |map es c=>obtain⟨l,_,hl,_⟩:=h;exact⟨_,l,hl⟩
 |rW s p=>obtain⟨l,hl,_⟩:=h;exact⟨_,l,hl⟩
 |kG a b c d=>obtain⟨l,_,hl,_⟩:=h;exact⟨_,l,hl⟩
 |loop a b c d e f g h' i=>obtain⟨l,_,_,_,hl,_⟩:=h;exact⟨_,l,hl⟩
 |Gp t=>obtain⟨l,hl,_⟩:=h;exact⟨_,l,hl⟩
def BK(cur:Nat->Option Ob)(G au:St)(id:Nat):Option Ob:=if(G.at id).isSome\/(G.n<=id/\id<au.n)then au.at id else cur id
structure BL(ro nk:Nat)(gq:Io)(w0:World)(d_:St)(Fr:Nat->Prop)(Z:Io)(cur:Nat->Option Ob)(w:World):Prop extends Gn Fr Z cur w where
 ext:Ext gq Z
 yP:∀b c,Z.m b=aa c->gq.m b=aa c\/w0.heap.size<=b
 own:∀id b,Own Z id b->Own gq id b\/w0.heap.size<=b
 Bz:∀id,d_.at id=ah->(id<d_.n\/nk<=id)->∀e,Z id e=gq id e
 dead:∀id,d_.at id=ah->(id<d_.n\/nk<=id)->cur id=ah
 yN:∀id,id<ro->id<d_.n->cur id=d_.at id
 os:w.os=w0.os
 tape:w.tape=w0.tape
 output:w.output=w0.output
 size:w0.heap.size<=w.heap.size
 frame:∀b,b<w0.heap.size->(∀id,Own gq id b->id<ro\/d_.at id=ah)->w.heap[b]?=w0.heap[b]?
def BL.start{nk:Nat}(h:Inv N Z G w)(hnk:nk<=N):BL ro nk Z w G (λid=>G.n<=id/\id<N) Z G.at w:=
 {mem:=h.mem,sep:=h.sep,gE:=h.gE,inj:=h.inj,fresh:=λid hid=>h.fresh id hid.1 hid.2,obj:=h.obj,ext:=Ext.refl _,yP:=λ_ _ h=>.inl h,own:=λ_ _ h=>.inl h,
  Bz:=λ_ _ _ _=>rfl,dead:=λ_ h _=>h,yN:=λ_ _ _=>rfl,os:=rfl,tape:=rfl,output:=rfl,size:=awe _,frame:=λ_ _ _=>rfl}
def BL.step{nk N' gl:Nat}{gq aK:Io}{w0 w':World}{d_ au:St}{Fr:Nat->Prop}{cur:Nat->Option Ob}(h:BL ro nk gq w0 d_ Fr Z cur w)(SI:∀id,d_.n<=id->id<nk->∀e,gq id e=ah)
 (sub:∀id o,G.at id=aa o->cur id=aa o)(jx:∀id,G.n<=id->id<au.n->d_.n<=id/\id<nk)(ej:∀id,id<ro->(G.at id).isSome=ab->id<gl)(wf:∀id,G.n<=id->G.at id=ah)
 (hi:Inv N' aK au w')(hl:Le gl Z w G aK w' au):BL ro nk gq w0 d_ (λid=>Fr id/\¬(G.n<=id/\id<au.n)) aK (BK cur G au) w':=by
 have WY:∀id,cur id=ah->G.at id=ah:=λid hc=>by
  cases hs:G.at id with
  |none=>rfl
  |some o=>rw[sub id o hs]at hc;cases hc
 have out:∀id,¬(G.n<=id/\id<au.n)->id<G.n\/au.n<=id:=λid hn=>by omega
 have LM:∀id,(id<d_.n\/nk<=id)->¬(G.n<=id/\id<au.n):=λid hh hn=>by have:=jx id hn.1 hn.2;omega
 exact{
  mem:=hi.mem,sep:=hi.sep,gE:=hi.gE,inj:=hi.inj
  fresh:=λid hid e=>by
   have hn:G.at id=ah:=by
    cases hs:G.at id with
    |none=>rfl
    |some o=>
     obtain⟨e',l,cz⟩:=YZ (h.obj id o (sub id o hs));rw[h.fresh id hid.1 e']at cz;cases cz
   rw[hl.Bz id hn (out id hid.2) e,h.fresh id hid.1 e]
  obj:=λid o ho=>by
   unfold BK at ho;split at ho
   .exact hi.obj id o ho
   .rename_i hc
    have hn:G.at id=ah:=by
     cases hs:G.at id with
     |none=>rfl
     |some o=>exact absurd (.inl (by rw[hs];rfl)) hc
    have hr:¬(G.n<=id/\id<au.n):=λhx=>hc (.inr hx);refine(h.obj id o ho).vj hl.ext (λe=>hl.Bz id hn (out id hr) e) λb hb=>?_;refine hl.frame b (h.gE id b hb) λbt h_=>.inr ?_;rw[h.inj bt id b h_ hb];exact hn
  ext:=h.ext.trans hl.ext
  yP:=λb c hb=>(hl.yP b c hb).elim (λhb=>h.yP b c hb) (λhb=>.inr (awy h.size hb))
  own:=λid b hb=>(hl.own id b hb).elim (λhb=>h.own id b hb) (λhb=>.inr (awy h.size hb))
  Bz:=λid hn hr e=>(hl.Bz id (WY id (h.dead id hn hr)) (out id (LM id hr)) e).trans (h.Bz id hn hr e)
  dead:=λid hn hr=>by
   unfold BK;rw[if_neg]
   .exact h.dead id hn hr
   .rw[WY id (h.dead id hn hr)];intro hx;rcases hx with hx|hx
    .cases hx
    .exact LM id hr hx
  yN:=λid hr hn=>by
   unfold BK;split
   .rename_i hc;have hs:(G.at id).isSome:=hc.resolve_right (LM id (.inl hn));obtain⟨o,ho⟩:=aym.1 hs;have ak:id<G.n:=ayr λhle=>by rw[wf id hle]at ho;cases ho
    rw[hl.yN id (ej id hr hs) ak,ho,<-sub id o ho];exact h.yN id hr hn
   .exact h.yN id hr hn
  os:=hl.os.trans h.os
  tape:=hl.tape.trans h.tape
  output:=hl.output.trans h.output
  size:=awy h.size hl.size
  frame:=λb hb hc=>by
   rw[hl.frame b (axV hb h.size) ?_,h.frame b hb hc];intro id hid;cases hs:G.at id with
   |none=>exact .inr rfl
   |some o=>
    have ak:id<G.n:=ayr λhle=>by rw[wf id hle]at hs;cases hs
    rcases h.own id b hid with ho|ho
    .rcases hc id ho with hr|hd
     .exact .inl (ej id hr (by rw[hs];rfl))
     .right
      have hr:id<d_.n\/nk<=id:=by
       by_cases h1:id<d_.n
       .exact .inl h1
       .by_cases h2:id<nk
        .obtain⟨e,l,cz,_⟩:=ho;rw[SI id aj h2 e]at cz;cases cz
        .exact .inr aj
      have:=sub id o hs;rw[h.dead id hd hr]at this;cases this
    .omega}
def BL.fr{nk:Nat}{gq:Io}{w0:World}{d_:St}{Fr Fr':Nat->Prop}{cur:Nat->Option Ob}(h:BL ro nk gq w0 d_ Fr Z cur w)(hf:∀id,Fr' id->Fr id):BL ro nk gq w0 d_ Fr' Z cur w:=
 {h with fresh:=λid hid=>h.fresh id (hf id hid)}
def BL.fin{nk:Nat}{gq:Io}{w0:World}{d_:St}{Fr:Nat->Prop}{cur:Nat->Option Ob}{t:T Ob}(h:BL ro nk gq w0 d_ Fr Z cur w)(hn:d_.n<=nk)(qW:∀id,nk<=id->id<N->Fr id)
 (sub:∀id o,t.get id=aa o->cur id=aa o)(wf:∀id,nk<=id->t.get id=ah)(hp:∀id,id<ro->id<d_.n->t.get id=d_.at id):
 Inv N Z ⟨nk,t⟩ w/\Le ro gq w0 d_ Z w ⟨nk,t⟩:=by
 refine⟨h.toGn.inv sub qW wf,h.ext,h.own,h.Bz,λid hn hr=>?_,hp,hn,h.os,h.tape,h.output,h.size,h.frame,h.yP⟩;have:=h.dead id hn hr;cases hs:t.get id with
 |none=>exact hs
 |some o=>rw[sub id o hs]at this;cases this
end
section
variable{P:Program}{S:Self}{ro:Nat}{ops:Array Oper}{pl:eh}[Sm]
def jV(ops:Array Oper)(i:Nat):Option Tmp:=(ops[i]?).bind (·.dst)
def C_(ops:Array Oper)(i:Nat):List Nat:=(ops.toList.map (wU ops)).getD i []
def bo(pl:eh)(i:Nat):Kind:=pl.kinds.getD i .effect
def jW(pl:eh)(j i:Nat):Prop:=awC (pl.cg.getD j 0) i=ab
structure pP(ops:Array Oper)(pl:eh):Prop where
 back:∀(j:Nat) (o:Oper),ops[j]?=aa o->∀e∈o.after.toList,axH .any e=ab->e.on<j
 ad4:∀j,j<ops.size->bo pl j=.load->∀t,jV ops j=aa t->t∉C_ ops j
 single:∀i j,i<j->j<ops.size->∀t,jV ops i=aa t->jV ops j≠aa t
 abh:∀i j,i<j->j<ops.size->bo pl i=.load->∀t,jV ops j=aa t->t∉C_ ops i
 free:∀i j,i<j->j<ops.size->¬jW pl j i->(∀t,jV ops i=aa t->t∉C_ ops j)/\(∀t,jV ops j=aa t->t∉C_ ops i)/\ago (bo pl i) (bo pl j)=af
 bits:∀(j:Nat) (o:Oper),ops[j]?=aa o->∀i,jW pl j i->∃e∈o.after.toList,axH .any e=ab/\(e.on=i\/jW pl e.on i)
theorem vt{o:Oper}{l:List Nat}(h:writes o l=af):∀t,o.dst=aa t->t∉l:=by
 intro t ht hm;unfold writes at h;rw[ht]at h;simp[hm]at h
theorem PT{f:Edge->Nat}{c:Edge->Bool}{i:Nat}:∀(l:List Edge) (s:Nat),awC (l.foldl (λs e=>if c e then az6 s (f e)else s) s) i=ab->
 awC s i=ab\/∃e∈l,c e=ab/\awC (f e) i=ab
 |[],s,h=>.inl h
 |e::l,s,h=>by
  simp only[awW]at h;rcases PT l _ h with h|⟨e',fM,h1,h2⟩
  .split at h
   .rename_i hc;have:awC (s|||f e) i=ab:=h;rw[aBk,awO]at this;rcases this with h|h
    .exact .inl h
    .exact .inr ⟨e,by simp,hc,h⟩
   .exact .inl h
  .exact .inr ⟨e',by simp[fM],h1,h2⟩
theorem abi{a i:Nat}(h:awC (azp 1 a) i=ab):a=i:=by
 have h':awC (1<<<a) i=ab:=h;rw[Nat.testBit_shiftLeft]at h';simp only[awb,decide_eq_true_eq]at h';have h2:=h'.2
 have:i- a=0:=by
  cases hk:i- a with
  |zero=>rfl
  |succ n=>rw[hk]at h2;simp[Nat.testBit_succ]at h2
 omega
theorem SJ:∀(l:List Oper) (acc:List Nat),∃rest,l.foldl Iw acc=acc++rest/\rest.length=l.length/\
 ∀(q:Nat) (o:Oper),l[q]?=aa o->∀i,awC ((acc++rest).getD (acc.length+q) 0) i=ab->
  ∃e∈o.after.toList,axH .any e=ab/\(e.on=i\/awC ((acc++rest).getD e.on 0) i=ab)
 |[],acc=>⟨[],by simp,rfl,λq o h=>by simp at h⟩
 |o::l,acc=>by
  obtain⟨rest,h1,h2,h3⟩:=SJ l (Iw acc o);obtain⟨x,hx⟩:∃x,Iw acc o=acc++[x]:=⟨_,rfl⟩
  have BM:x=o.after.toList.foldl (λs e=>if axH .any e then az6 s (az6 (azp 1 e.on) (acc.getD e.on 0))else s) 0:=by
   have:acc++[x]=acc++[o.after.toList.foldl (λs e=>if axH .any e then az6 s (az6 (azp 1 e.on) (acc.getD e.on 0))else s) 0]:=hx▸rfl;simpa using this
  rw[hx]at h1 h3;refine⟨x::rest,by rw[awW,hx,h1];simp,by simp[h2],λq o' hq i hi=>?_⟩;have pc:acc++x::rest=acc++[x]++rest:=by simp
  cases q with
  |zero=>
   simp only[List.getElem?_cons_zero,awf]at hq;subst hq;have hg:(acc++x::rest).getD (acc.length+0) 0=x:=by simp
   rw[hg,BM]at hi;rcases PT _ _ hi with hi|⟨e,he,hb,hi⟩
   .simp at hi
   .refine⟨e,he,hb,?_⟩;have cw:awC (azp 1 e.on|||acc.getD e.on 0) i=ab:=hi;rw[aBk,awO]at cw;rcases cw with hi|hi
    .exact .inl (abi hi)
    .right;by_cases hl:e.on<acc.length
     .have:(acc++x::rest).getD e.on 0=acc.getD e.on 0:=by
       rw[awS,awS,List.getElem?_append_left hl]
      rw[this];exact hi
     .rw[awS,List.getElem?_eq_none aj]at hi;simp at hi
  |succ q=>
   simp only[List.getElem?_cons_succ]at hq;rw[pc]at hi⊢
   have:=h3 q o' hq i (by
    have e1:(acc++[x]).length+q=acc.length+(q+1):=by simp;omega
    rw[e1];exact hi)
   exact this
theorem DQ{ops:Array Oper}{j:Nat}{o:Oper}(ho:ops[j]?=aa o){i:Nat}(h:awC ((J2 ops).getD j 0) i=ab):
 ∃e∈o.after.toList,axH .any e=ab/\(e.on=i\/awC ((J2 ops).getD e.on 0) i=ab):=by
 obtain⟨rest,h1,_,h3⟩:=SJ ops.toList [];have hb:J2 ops=rest:=by unfold J2;rw[h1];simp
 rw[hb]at h⊢;have:=h3 j o (by simpa using ho) i (by simpa using h);simpa using this
theorem abj(h:(bP ops).ok=ab):pP ops (bP ops):=by
 have bS:∀(j:Nat) (o:Oper),ops[j]?=aa o->(o.after.toList.all λe=> !axH .any e||aw6 e.on j)=ab/\(!(bo (bP ops) j==.load)|| !writes o (C_ ops j))=ab/\
  ∀(i:Nat) (p:Oper),ops[i]?=aa p->i<j->DD (bP ops).cg (bP ops).kinds (ops.toList.map (wU ops)) p i o j=ab:=by
  intro j o ho;have hm:(o,j)∈ops.toList.zipIdx:=axm.2 (by simpa using ho);unfold bP at h;dsimp only at h;rw[awt]at h;have:=h (o,j) hm;simp only[awb]at this;obtain⟨⟨h1,h2⟩,h3⟩:=this;refine⟨h1,h2,λi p hp oW=>?_⟩;rw[awt]at h3;have SK:(p,i)∈ops.toList.zipIdx:=axm.2 (by simpa using hp);have:=h3 (p,i) SK;have ak:aw6 i j=ab:=by simpa using oW
  simp only[ak,axu,ayc]at this;exact this
 have ew:∀{j:Nat},j<ops.size->∃o,ops[j]?=aa o:=λhj=>⟨ops[_],awF hj⟩;have ek:∀{j:Nat} {o:Oper},ops[j]?=aa o->jV ops j=o.dst:=λho=>by unfold jV;rw[ho];rfl
 have pair:∀i j,i<j->j<ops.size->∃p o,ops[i]?=aa p/\ops[j]?=aa o/\DD (bP ops).cg (bP ops).kinds (ops.toList.map (wU ops)) p i o j=ab:=λi j oW hj=>by
  obtain⟨o,ho⟩:=ew hj;obtain⟨p,hp⟩:=ew (show i<ops.size by omega);exact⟨p,o,hp,ho,(bS j o ho).2.2 i p hp oW⟩
 refine⟨λj o ho e he hb=>?_,λj hj hk t ht=>?_,λi j oW hj t hi hjt=>?_,λi j oW hj hk t ht=>?_,λi j oW hj sJ=>?_,λj o ho i hb=>DQ ho hb⟩
 .have:=(awt.1 (bS j o ho).1) e he;rw[hb]at this;simpa using this
 .obtain⟨o,ho⟩:=ew hj;have:=(bS j o ho).2.1;rw[hk]at this;simp only[beq_self_eq_true,axu,ayc,awX]at this;rw[ek ho]at ht;exact vt this t ht
 .obtain⟨p,o,hp,ho,oC⟩:=pair i j oW hj;rw[ek hp]at hi;rw[ek ho]at hjt;unfold DD at oC;rw[hi,hjt]at oC;simp at oC
 .obtain⟨p,o,hp,ho,oC⟩:=pair i j oW hj;unfold DD at oC;simp only[awb]at oC;have h2:=oC.1.2;have cH:(bP ops).kinds.getD i .effect=.load:=hk;rw[cH]at h2;simp only[beq_self_eq_true,axu,ayc,awX]at h2;rw[ek ho]at ht;exact vt h2 t ht
 .obtain⟨p,o,hp,ho,oC⟩:=pair i j oW hj;unfold DD at oC;simp only[awb]at oC;have h3:=oC.2
  have hb:awC ((bP ops).cg.getD j 0) i=af:=by
   cases hc:awC ((bP ops).cg.getD j 0) i with
   |false=>rfl
   |true=>exact absurd hc sJ
  rw[hb]at h3;simp only[ayc,awb,awX]at h3;refine⟨λt ht=>?_,λt ht=>?_,h3.2⟩
  .rw[ek hp]at ht;exact vt h3.1.1 t ht
  .rw[ek ho]at ht;exact vt h3.1.2 t ht
end
section
variable{P:Program}{S:Nat->Self}{ro:Nat}{ops:Array Oper}{pl:eh}[Sm]
theorem lT(b:T Ob)(p:Piece)(id:Nat):(dJ b p).get id=if p.lo<=id/\id<p.hi then(p.t.get id).or (b.get id)else b.get id:=by
 have aux:∀(l:List Nat) (b:T Ob),(l.foldl (λb id=>match p.t.get id with|some o=>b.set id o|none=>b) b).get id=if id∈l then(p.t.get id).or (b.get id)else b.get id:=by
  intro l;induction l with
  |nil=>intro b;simp
  |cons x l ih=>
   intro b;rw[awW,ih];by_cases hx:x=id
   .subst hx;cases hp:p.t.get x with
    |none=>simp
    |some o=>simp[T.gX]
   .have hb:(match p.t.get x with|some o=>b.set x o|none=>b).get id=b.get id:=by
     cases p.t.get x with
     |none=>rfl
     |some o=>simp[T.gX,hx]
    rw[hb];have:id∈x::l↔id∈l:=by simp[Ne.symm hx]
    simp only[this]
 refine(aux (axN p.lo (p.hi- p.lo)) b).trans ?_
 have:id∈axN p.lo (p.hi- p.lo)↔p.lo<=id/\id<p.hi:=by
  rw[List.mem_range'_1];omega
 simp only[this]
theorem EP:∀(l:List Piece) (b:T Ob) (id:Nat) (o:Ob),(l.foldl dJ b).get id=aa o->(∃p∈l,p.lo<=id/\id<p.hi/\p.t.get id=aa o)\/b.get id=aa o
 |[],b,id,o,h=>.inr h
 |p::l,b,id,o,h=>by
  rw[awW]at h;rcases EP l _ id o h with⟨q,hq,h1⟩|h
  .exact .inl ⟨q,by simp[hq],h1⟩
  .rw[lT]at h;split at h
   .rename_i hc;cases hp:p.t.get id with
    |none=>rw[hp]at h;exact .inr h
    |some x=>rw[hp]at h;exact .inl ⟨p,by simp,hc.1,hc.2,by rw[hp];exact h⟩
   .exact .inr h
theorem J_:∀(l:List Piece) (b:T Ob) (id:Nat),(∀p∈l,id<p.lo)->(l.foldl dJ b).get id=b.get id
 |[],b,id,_=>rfl
 |p::l,b,id,h=>by
  rw[awW,J_ l _ id (λq hq=>h q (by simp[hq])),lT,if_neg];have:=h p ay;omega
theorem Ka{aS:List Piece}{bits:Nat}{b:T Ob}{id:Nat}{o:Ob}(h:(seen aS bits b).get id=aa o):
 (∃p∈aS,awC bits p.j=ab/\p.lo<=id/\id<p.hi/\p.t.get id=aa o)\/b.get id=aa o:=by
 rcases EP _ _ _ _ h with⟨p,hp,h1⟩|h
 .rw[aw7]at hp;exact .inl ⟨p,hp.1,by simpa using hp.2,h1⟩
 .exact .inr h
theorem ad5{aS:List Piece}{bits:Nat}{b:T Ob}{id:Nat}(h:∀p∈aS,id<p.lo):(seen aS bits b).get id=b.get id:=
 J_ _ _ _ λp hp=>h p (aw7.1 hp).1
inductive Stp(P:Program)(S:Self)(pl:eh)(ro:Nat)(ops:Array Oper)(o:Oper)(j:Nat)(d d':DS)(v:IV):Prop
 |skip (h:aX o ops d.e=af) (hv:v=.undef) (hn:d'.n=d.n) (hp:d'.aS=d.aS) (hk:bo pl j≠.effect) (hb:d'.bs=d.bs)
 |IB (h:aX o ops d.e=af) (hv:v=.undef) (hn:d'.n=d.n) (hp:d'.aS=d.aS) (hk:bo pl j=.effect) (i0:Nat) (b:T Ob) (rest:List (Nat×T Ob)) (ji:d.bs=(i0,b)::rest)
   (hb:d'.bs=(j,b)::d.bs) (hr:recheck P pl ops (pl.cg.getD j 0) d.e d.n d.aS b (ops.toList.zipIdx.take j)=ab)
 |pure (h:aX o ops d.e=ab) (hk:bo pl j=.pure) (hn:d'.n=d.n) (hp:d'.aS=d.aS) (hb:d'.bs=d.bs) (G:St) (he:aA P 0 (aB d.e) o ⟨0,.lf⟩=aa (.val v G)) (h0:G.n=0)
 |alloc (h:aX o ops d.e=ab) (hk:bo pl j=.alloc) (hb:d'.bs=d.bs) (G:St) (he:aA P 0 (aB d.e) o ⟨d.n,.lf⟩=aa (.val v G)) (hn:d'.n=G.n) (hp:d'.aS=⟨j,d.n,G.n,G.t⟩::d.aS)
 |load (h:aX o ops d.e=ab) (hk:bo pl j=.load) (hn:d'.n=d.n) (hp:d'.aS=d.aS) (hb:d'.bs=d.bs) (i0:Nat) (b:T Ob) (rest:List (Nat×T Ob)) (ji:d.bs=(i0,b)::rest)
   (G:St) (he:aA P d.n (aB d.e) o ⟨d.n,seen d.aS (pl.cg.getD j 0) b⟩=aa (.val v G)) (h0:G.n=d.n)
   (hl:(awC (pl.cg.getD j 0) i0||nG P d.e o d.n v d.aS (pl.cg.getD j 0) rest)=ab)
 |call (h:aX o ops d.e=ab) (hk:bo pl j=.call) (hb:d'.bs=d.bs) (i0:Nat) (b:T Ob) (rest:List (Nat×T Ob)) (ji:d.bs=(i0,b)::rest)
   (G:St) (he:kH P S d.n d.e o ⟨d.n,seen d.aS (pl.cg.getD j 0) b⟩=aa (v,G)) (hn:d'.n=G.n) (hp:d'.aS=⟨j,d.n,G.n,G.t⟩::d.aS)
 |effect (h:aX o ops d.e=ab) (hk:bo pl j=.effect) (i0:Nat) (b:T Ob) (rest:List (Nat×T Ob)) (ji:d.bs=(i0,b)::rest)
   (G:St) (he:kH P S ro d.e o ⟨d.n,seen d.aS (pl.cg.getD j 0) b⟩=aa (v,G)) (hn:d'.n=G.n) (hb:d'.bs=(j,G.t)::d.bs) (hp:d'.aS=d.aS.filter λp=> !awC (pl.cg.getD j 0) p.j)
   (hr:recheck P pl ops (pl.cg.getD j 0) d.e d'.n d'.aS G.t (ops.toList.zipIdx.take j)=ab)
theorem SL{U:Self}{o:Oper}{j:Nat}{d d':DS}(h:bV P U pl ro ops o j d=aa d'):∃v,d'.e=d.e.put o.dst v/\d.bs≠[]/\Stp P U pl ro ops o j d d' v:=by
 unfold bV at h;dsimp only at h;split at h
 .cases h
 .rename_i i0 b rest ji;have bg:d.bs≠[]:=by rw[ji];simp
  split at h
  .rename_i hw;split at h
   .rename_i hk;split at h
    .rename_i v G he;split at h
     .rename_i h0;cases h;exact⟨v,rfl,bg,.pure hw hk rfl rfl rfl G he h0⟩
     .cases h
    .cases h
   .rename_i hk;split at h
    .rename_i v G he;cases h;exact⟨v,rfl,bg,.alloc hw hk rfl G he rfl rfl⟩
    .cases h
   .rename_i hk;split at h
    .rename_i v G he;split at h
     .rename_i hc;cases h;exact⟨v,rfl,bg,.load hw hk rfl rfl rfl i0 b rest ji G he hc.1 hc.2⟩
     .cases h
    .cases h
   .rename_i hk;split at h
    .rename_i v G he;cases h;exact⟨v,rfl,bg,.call hw hk rfl i0 b rest ji G he rfl rfl⟩
    .cases h
   .rename_i hk;split at h
    .rename_i v G he;split at h
     .rename_i hc;cases h;exact⟨v,rfl,bg,.effect hw hk i0 b rest ji G he rfl rfl rfl hc⟩
     .cases h
    .cases h
  .rename_i hw;have hw:aX o ops d.e=af:=by simpa using hw
   split at h
   .rename_i hk;split at h
    .rename_i hc;cases h;exact⟨.undef,rfl,bg,.IB hw rfl rfl rfl hk i0 b rest ji rfl hc⟩
    .cases h
   .rename_i hk;cases h;exact⟨.undef,rfl,bg,.skip hw rfl rfl rfl hk rfl⟩
structure Tr(P:Program)(S:Nat->Self)(pl:eh)(ro:Nat)(ops:Array Oper)(D:Nat->DS):Prop where
 step:∀(j:Nat) (o:Oper),ops[j]?=aa o->bV P (S j) pl ro ops o j (D j)=aa (D (j+1))
def pQ(P:Program)(S:Nat->Self)(pl:eh)(ro:Nat)(ops:Array Oper)(d:DS):Nat->DS
 |0=>d
 |j+1=>match ops[j]? with
  |some o=>(bV P (S j) pl ro ops o j (pQ P S pl ro ops d j)).getD (pQ P S pl ro ops d j)
  |none=>pQ P S pl ro ops d j
theorem PU{d0:DS}:∀{l:List Oper} {k:Nat} {d':DS},ops.toList.drop k=l->k<=ops.size->jF P S pl ro ops (l.zipIdx k) (pQ P S pl ro ops d0 k)=aa d'->
 (∀(j:Nat) (o:Oper),k<=j->ops[j]?=aa o->bV P (S j) pl ro ops o j (pQ P S pl ro ops d0 j)=aa (pQ P S pl ro ops d0 (j+1)))/\d'=pQ P S pl ro ops d0 ops.size
 |[],k,d',hl,hk,h=>by
  have hs:ops.size<=k:=by
   have:ops.toList.length<=k:=List.drop_eq_nil_iff.1 hl;simpa using this
  cases h;refine⟨λj o hj ho=>?_,by rw[show k=ops.size by omega]⟩;have:=(aw4.1 ho).1;omega
 |o::l,k,d',hl,hk,h=>by
  have a_:ops[k]?=aa o:=by
   have:(ops.toList.drop k)[0]?=aa o:=by rw[hl];rfl
   simpa using this
  have iW:ops.toList.drop (k+1)=l:=by
   rw[<-ayj (i:=1) (j:=k),hl];rfl
  have ak:=(aw4.1 a_).1;rw[azL]at h;unfold jF at h;split at h
  .rename_i d1 h1
   have AF:pQ P S pl ro ops d0 (k+1)=d1:=by
    rw[pQ,a_];simp only[h1,aw8]
   rw[<-AF]at h;obtain⟨h2,h3⟩:=PU iW aj h;refine⟨λj o' hj ho=>?_,h3⟩;rcases ayT hj with hj|rfl
   .exact h2 j o' aj ho
   .rw[a_]at ho;cases ho;rw[h1,AF]
  .cases h
theorem ad6{d0 d':DS}(h:jF P S pl ro ops ops.toList.zipIdx d0=aa d'):Tr P S pl ro ops (pQ P S pl ro ops d0)/\d'=pQ P S pl ro ops d0 ops.size:=by
 obtain⟨h1,h2⟩:=PU (k:=0) ay aj h;exact⟨⟨λj o ho=>h1 j o aj ho⟩,h2⟩
section tr
variable{D:Nat->DS}(ht:Tr P S pl ro ops D)
include ht
theorem Tr.SM{j:Nat}(hj:j<ops.size):∃o v,ops[j]?=aa o/\(D (j+1)).e=(D j).e.put o.dst v/\(D j).bs≠[]/\Stp P (S j) pl ro ops o j (D j) (D (j+1)) v:=by
 have ho:ops[j]?=aa ops[j]:=awF hj;obtain⟨v,h1,h2,h3⟩:=SL (ht.step j _ ho);exact⟨_,v,ho,h1,h2,h3⟩
theorem Tr.abk(hc:∀j,bW (S j))(hk:∀j,bK (S j)){j:Nat}(hj:j<ops.size):(D j).n<=(D (j+1)).n:=
 Gt (hc j) (hk j) (ht.step j _ (awF hj))
theorem Tr.gF(hc:∀j,bW (S j))(hk:∀j,bK (S j)){i j:Nat}(oW:i<=j)(hj:j<=ops.size):(D i).n<=(D j).n:=by
 induction j with
 |zero=>have:i=0:=aj
        subst this;exact awe _
 |succ j ih=>
  rcases ayT oW with h|rfl
  .exact awy (ih aj aj) (ht.abk hc hk aj)
  .exact awe _
theorem Tr.apart(hc:∀j,bW (S j))(hk:∀j,bK (S j)){i j id:Nat}(hi:i<ops.size)(hj:j<ops.size)(h1:(D i).n<=id/\id<(D (i+1)).n)(h2:(D j).n<=id/\id<(D (j+1)).n):i=j:=by
 rcases ayW i j with h|h|h
 .have:=ht.gF hc hk (show i+1<=j from h) aj;omega
 .exact h
 .have:=ht.gF hc hk (show j+1<=i from h) aj;omega
theorem Tr.aia{j:Nat}(hj:j<ops.size):(D (j+1)).bs=(D j).bs\/(bo pl j=.effect/\∃b,(D (j+1)).bs=(j,b)::(D j).bs):=by
 obtain⟨o,v,_,_,_,h⟩:=ht.SM hj;cases h with
 |skip _ _ _ _ _ hb=>exact .inl hb
 |IB _ _ _ _ hk _ b _ _ hb _=>exact .inr ⟨hk,b,hb⟩
 |pure _ _ _ _ hb=>exact .inl hb
 |alloc _ _ hb=>exact .inl hb
 |load _ _ _ _ hb=>exact .inl hb
 |call _ _ hb=>exact .inl hb
 |effect _ hk _ _ _ _ G _ _ hb=>exact .inr ⟨hk,G.t,hb⟩
theorem Tr.PX{m j:Nat}(hm:m<=j)(hj:j<=ops.size):∃pre,(D j).bs=pre++(D m).bs/\∀x∈pre,m<=x.1/\x.1<j/\bo pl x.1=.effect:=by
 induction j with
 |zero=>have:m=0:=aj
        subst this;exact⟨[],rfl,λ_ h=>by cases h⟩
 |succ j ih=>
  rcases ayT hm with h|rfl
  .obtain⟨pre,h1,h2⟩:=ih aj aj;rcases ht.aia (show j<ops.size by omega)with hb|⟨hk,b,hb⟩
   .exact⟨pre,by rw[hb,h1],λx hx=>by have:=h2 x hx;exact⟨this.1,by omega,this.2.2⟩⟩
   .refine⟨(j,b)::pre,by rw[hb,h1];rfl,λx hx=>?_⟩;rcases aws.1 hx with rfl|hx
    .exact⟨by omega,by omega,hk⟩
    .have:=h2 x hx;exact⟨this.1,by omega,this.2.2⟩
  .exact⟨[],rfl,λ_ h=>by cases h⟩
theorem Tr.SN{m j:Nat}(hm:m<=j)(hj:j<=ops.size)(bg:∀i,m<=i->i<j->bo pl i≠.effect):(D j).bs=(D m).bs:=by
 obtain⟨pre,h1,h2⟩:=ht.PX hm hj;cases pre with
 |nil=>exact h1
 |cons x pre=>have:=h2 x ay;exact absurd this.2.2 (bg x.1 this.1 this.2.1)
end tr
structure vu(ops:Array Oper)(D:Nat->DS)(A:Nat->Prop)(e:Env):Prop where
 n:e.n=(D 0).e.n
 put:∀j,A j->∀t,jV ops j=aa t->e.at t=(D (j+1)).e.at t
 cG:∀t,(∀j,A j->jV ops j≠aa t)->e.at t=(D 0).e.at t
def abl{e:Env}{dst:Option Tmp}{v:IV}{t:Nat}(h:dst≠aa t):(e.put dst v).at t=e.at t:=by
 cases dst with
 |none=>rfl
 |some d=>
  rw[Env.cW,if_neg];intro hc;exact h (by rw[hc.2])
def vu.step{D:Nat->DS}{A:Nat->Prop}{e:Env}(ho:pP ops pl){j:Nat}{o:Oper}{v:IV}(h:vu ops D A e)(hA:∀i,A i->i<ops.size)(hj:ops[j]?=aa o)(hnj:¬A j)
 (hd:(D (j+1)).e=(D j).e.put o.dst v)(hold:∀t,jV ops j=aa t->(D j).e.at t=(D 0).e.at t)(hn:(D j).e.n=(D 0).e.n):vu ops D (λi=>A i\/i=j) (e.put o.dst v):=by
 have ak:=(aw4.1 hj).1;have ek:jV ops j=o.dst:=by unfold jV;rw[hj];rfl
 have ags:∀i t,A i->jV ops i=aa t->o.dst≠aa t:=by
  intro i t hi hit;have zk:=hA i hi;have bg:i≠j:=λhx=>hnj (hx▸hi);rw[<-ek];rcases Nat.lt_or_gt_of_ne bg with gj|gj
  .exact ho.single i j gj ak t hit
  .intro hc;exact ho.single j i gj zk t hc hit
 refine⟨by rw[Env.mY];exact h.n,λi hi t hit=>?_,λt fC=>?_⟩
 .rcases hi with hi|rfl
  .rw[abl (ags i t hi hit)];exact h.put i hi t hit
  .rw[ek]at hit;rw[hd,hit,Env.cW,Env.cW,h.n,hn];split
   .rfl
   .rw[hold t (by rw[ek];exact hit)];refine h.cG t λi hi hc=>ags i t hi hc hit
 .rw[abl (by rw[<-ek];exact fC j (.inr rfl))];exact h.cG t λi hi=>fC i (.inl hi)
theorem Tr.env{D:Nat->DS}(ht:Tr P S pl ro ops D)(ho:pP ops pl):∀j,j<=ops.size->vu ops D (λi=>i<j) (D j).e
 |0,_=>⟨rfl,λi hi=>absurd hi aj,λt _=>rfl⟩
 |j+1,hj=>by
  obtain⟨o,v,h1,h2,_,_⟩:=ht.SM (show j<ops.size by omega);have ih:=ht.env ho j aj;have:=vu.step (A:=λi=>i<j) (v:=v) ho ih (λi hi=>by omega) h1 aj h2 (λt hd=>ih.cG t λi hi hc=>ho.single i j hi aj t hc hd) ih.n;rw[<-h2]at this;refine⟨this.n,λi hi=>this.put i aj,λt fC=>this.cG t λi hi=>fC i aj⟩
def aj2(ho:pP ops pl):∀(j:Nat),j<ops.size->∀i,jW pl j i->i<j:=by
 intro j;induction j using aA9 with
 |_ j ih=>
  intro hj i hb;obtain⟨e,he,cB,h1⟩:=ho.bits j _ (awF hj) i hb;have ak:=ho.back j _ (awF hj) e he cB;rcases h1 with rfl|h1
  .exact ak
  .have:=ih e.on ak aj i h1;omega
def Kb{D:Nat->DS}{A B:Nat->Prop}{e e':Env}(h:vu ops D A e)(h':vu ops D B e'){t:Nat}(hAB:∀i,jV ops i=aa t->(A i↔B i)):e.at t=e'.at t:=by
 by_cases hx:∃i,A i/\jV ops i=aa t
 .obtain⟨i,hi,hd⟩:=hx;rw[h.put i hi t hd,h'.put i ((hAB i hd).1 hi) t hd]
 .rw[h.cG t λi hi hd=>hx ⟨i,hi,hd⟩,h'.cG t λi hi hd=>hx ⟨i,(hAB i hd).2 hi,hd⟩]
def vv{e e':Env}{j:Nat}{o:Oper}(hj:ops[j]?=aa o)(h:∀t∈C_ ops j,e.at t=e'.at t)(hn:e.n=e'.n):
 (∀x∈o.op.operands,aB e x=aB e' x)/\aX o ops e=aX o ops e':=by
 have hr:C_ ops j=wU ops o:=by
  unfold C_;rw[awS,List.getElem?_map];have:ops.toList[j]?=aa o:=by simpa using hj
  rw[this];rfl
 rw[hr]at h;refine⟨λx hx=>?_,?_⟩
 .cases x with
  |tmp t=>exact h t (by unfold wU;rw[awm];left;exact List.mem_filterMap.2 ⟨.tmp t,by simpa using hx,rfl⟩)
  |_=>rfl
 .unfold aX;cases hg:o.guard with
  |none=>rfl
  |some g=>
   obtain⟨i,want⟩:=g;dsimp only;cases hd:(ops[i]?).bind (·.dst)with
   |none=>rfl
   |some d=>
    dsimp only;rw[hn,h d (by unfold wU;rw[awm];right;rw[hg];dsimp only;rw[hd];simp)]
end
section
variable{P:Program}{S:Nat->Self}{ro:Nat}{ops:Array Oper}{pl:eh}{D:Nat->DS}{N:Nat}[Sm]
structure Made(ops:Array Oper)(D:Nat->DS)(p:Piece):Prop where
 lt:p.j<ops.size
 lo:p.lo=(D p.j).n
 hi:p.hi=(D (p.j+1)).n
 aS:(D (p.j+1)).aS=p::(D p.j).aS
def WZ(ops:Array Oper)(pl:eh)(D:Nat->DS)(i:Nat):Prop:=bo pl i=.effect/\∃o,ops[i]?=aa o/\aX o ops (D i).e=ab
def vw(ops:Array Oper)(pl:eh)(D:Nat->DS)(A:Nat->Prop)(q:Nat):Prop:=∀i,A i->WZ ops pl D i->¬jW pl i q
def gQ(l:List (Nat×T Ob)):T Ob:=match l with|(_,b)::_=>b|[]=>.lf
theorem Tr.aS(ht:Tr P S pl ro ops D)(ho:pP ops pl)(h0:(D 0).aS=[]):∀j,j<=ops.size->∀p∈(D j).aS,Made ops D p/\p.j<j/\∀i,i<j->WZ ops pl D i->¬jW pl i p.j:=by
 intro j;induction j with
 |zero=>intro _ p hp;rw[h0]at hp;cases hp
 |succ j ih=>
  intro hj p hp;have SO:j<ops.size:=aj;obtain⟨o,v,h1,_,_,hs⟩:=ht.SM SO
  have cG:p∈(D j).aS->(WZ ops pl D j->¬jW pl j p.j)->Made ops D p/\p.j<j+1/\∀i,i<j+1->WZ ops pl D i->¬jW pl i p.j:=λhp hw=>by
   obtain⟨a,b,c⟩:=ih aj p hp;refine⟨a,by omega,λi hi kh=>?_⟩;rcases ayT (Nat.le_of_lt_succ hi)with hi|rfl
   .exact c i hi kh
   .exact hw kh
  have new:∀G:St,p=⟨j,(D j).n,G.n,G.t⟩->(D (j+1)).n=G.n->(D (j+1)).aS=⟨j,(D j).n,G.n,G.t⟩::(D j).aS->Made ops D p/\p.j<j+1/\∀i,i<j+1->WZ ops pl D i->¬jW pl i p.j:=λG yk hn ki=>by
   subst yk;refine⟨⟨SO,rfl,hn.symm,ki⟩,Nat.lt_succ_self _,λi hi _ hb=>?_⟩;have:=aj2 ho i aj _ hb;dsimp only at this;omega
  cases hs with
  |skip hw hv hn ki hk hb=>rw[ki]at hp;exact cG hp λh=>absurd h.1 hk
  |IB hw hv hn ki hk=>
   rw[ki]at hp;refine cG hp λh=>?_;obtain⟨_,o',h2,h3⟩:=h;rw[h1]at h2;cases h2;rw[hw]at h3;cases h3
  |pure hw hk hn ki=>rw[ki]at hp;exact cG hp λh=>(by have:=h.1;rw[hk]at this;cases this)
  |load hw hk hn ki=>rw[ki]at hp;exact cG hp λh=>(by have:=h.1;rw[hk]at this;cases this)
  |alloc hw hk hb G he hn ki=>
   have vl:=hp;rw[ki]at vl;rcases aws.1 vl with rfl|vl
   .exact new G rfl hn ki
   .exact cG vl λh=>(by have:=h.1;rw[hk]at this;cases this)
  |call hw hk hb i0 b rest ji G he hn ki=>
   have vl:=hp;rw[ki]at vl;rcases aws.1 vl with rfl|vl
   .exact new G rfl hn ki
   .exact cG vl λh=>(by have:=h.1;rw[hk]at this;cases this)
  |effect hw hk i0 b rest ji G he hn hb ki=>
   rw[ki,aw7]at hp;refine cG hp.1 λ_ hb=>?_;have h2:=hp.2;unfold jW at hb;rw[hb]at h2;cases h2
theorem SP(ht:Tr P S pl ro ops D){p:Piece}(hp:Made ops D p):bo pl p.j≠.effect:=by
 intro hk;obtain⟨o,v,h1,_,_,hs⟩:=ht.SM hp.lt;have ki:=hp.aS;have len:=congrArg List.length ki;simp only[awJ]at len;cases hs with
 |skip _ _ _ h=>rw[h]at len;omega
 |IB _ _ _ h=>rw[h]at len;omega
 |pure _ h=>rw[hk]at h;cases h
 |load _ h=>rw[hk]at h;cases h
 |alloc _ h=>rw[hk]at h;cases h
 |call _ h=>rw[hk]at h;cases h
 |effect _ _ _ _ _ _ _ _ _ _ h=>
  rw[h]at len;have:=List.length_filter_le (λq=> !awC (pl.cg.getD p.j 0) q.j) (D p.j).aS;omega
theorem SQ{p q:Piece}(hp:Made ops D p)(hq:Made ops D q)(h:p.j=q.j):p=q:=by
 have h1:=hp.aS;have h2:=hq.aS;rw[h,h2]at h1;exact(ayv h1).1.symm
structure tC(ops:Array Oper)(pl:eh)(D:Nat->DS)(N ro:Nat)(gq:Io)(w0:World)(d_:St)(A:Nat->Prop)(m:Nat)(e:Env)(Z:Io)(cur:Nat->Option Ob)(w:World):Prop where
 sub:∀i,A i->i<ops.size
 closed:∀j,A j->∀i,jW pl j i->A i
 env:vu ops D A e
 SR:m<=ops.size
 PY:∀i,i<ops.size->bo pl i=.effect->(A i↔i<m)
 last:m=0\/∃i,m=i+1/\A i/\bo pl i=.effect
 zl:BL ro (D ops.size).n gq w0 d_ (λid=>(∃j,j<ops.size/\¬A j/\(D j).n<=id/\id<(D (j+1)).n)\/((D ops.size).n<=id/\id<N)) Z cur w
 piece:∀p,Made ops D p->A p.j->vw ops pl D A p.j->∀id o,p.lo<=id->id<p.hi->p.t.get id=aa o->cur id=aa o
 base:∀id o,(gQ (D m).bs).get id=aa o->cur id=aa o
 NB:∀p,Made ops D p->vw ops pl D A p.j->∀id,p.lo<=id->id<p.hi->(gQ (D m).bs).get id=ah
 top:∀id,(D m).n<=id->(gQ (D m).bs).get id=ah
 low:∀id,id<ro->id<d_.n->(gQ (D m).bs).get id=d_.at id
section phi
variable{gq Z aK:Io}{w0 w w':World}{d_:St}{A:Nat->Prop}{m:Nat}{e:Env}{cur uu:Nat->Option Ob}
theorem tC.see(h:tC ops pl D N ro gq w0 d_ A m e Z cur w){j n':Nat}{aS:List Piece}(hb:∀i,jW pl j i->A i)(hp:∀p∈aS,Made ops D p/\vw ops pl D A p.j/\p.hi<=n')(hn:(D m).n<=n'):
 (∀id o,(seen aS (pl.cg.getD j 0) (gQ (D m).bs)).get id=aa o->cur id=aa o)/\(∀id,n'<=id->(seen aS (pl.cg.getD j 0) (gQ (D m).bs)).get id=ah):=by
 refine⟨λid o hs=>?_,λid hid=>?_⟩
 .rcases Ka hs with⟨p,BN,jH,h1,h2,h3⟩|hs
  .obtain⟨a,b,_⟩:=hp p BN;exact h.piece p a (hb _ jH) b id o h1 h2 h3
  .exact h.base id o hs
 .cases hs:(seen aS (pl.cg.getD j 0) (gQ (D m).bs)).get id with
  |none=>rfl
  |some o=>
   rcases Ka hs with⟨p,BN,jH,h1,h2,h3⟩|hs
   .obtain⟨_,_,c⟩:=hp p BN;omega
   .rw[h.top id aj]at hs;cases hs
theorem vw.less{A':Nat->Prop}{q:Nat}(h:vw ops pl D A' q)(hA:∀i,A i->A' i):vw ops pl D A q:=λi hi=>h i (hA i hi)
theorem tC.next(h:tC ops pl D N ro gq w0 d_ A m e Z cur w)(ht:Tr P S pl ro ops D)(hc:∀j,bW (S j))(hk:∀j,bK (S j)){j:Nat}{e':Env}(hj:j<ops.size)(nX:¬A j)(hb:∀i,jW pl j i->A i)(gG:bo pl j≠.effect)
 (he:vu ops D (λi=>A i\/i=j) e'){Fr:Nat->Prop}(qn:BL ro (D ops.size).n gq w0 d_ Fr aK uu w')
 (qW:∀id,((∃i,i<ops.size/\¬(A i\/i=j)/\(D i).n<=id/\id<(D (i+1)).n)\/((D ops.size).n<=id/\id<N))->Fr id)
 (aj3:∀id o,¬((D j).n<=id/\id<(D (j+1)).n)->cur id=aa o->uu id=aa o)(hr:(D (j+1)).n=(D j).n\/∃p,Made ops D p/\p.j=j)
 (ki:∀p,Made ops D p->p.j=j->∀id o,p.lo<=id->id<p.hi->p.t.get id=aa o->uu id=aa o):tC ops pl D N ro gq w0 d_ (λi=>A i\/i=j) m e' aK uu w' where
 sub:=λi hi=>hi.elim (h.sub i) (λx=>x▸hj)
 closed:=λi hi q hq=>hi.elim (λhi=>.inl (h.closed i hi q hq)) (λx=>.inl (hb q (x▸hq)))
 env:=he
 SR:=h.SR
 PY:=λi hi qx=>by
  rw[<-h.PY i hi qx];exact⟨λx=>x.elim id (λx=>absurd (x▸qx) gG),.inl⟩
 last:=h.last.imp id (λ⟨i,h1,h2,h3⟩=>⟨i,h1,.inl h2,h3⟩)
 zl:=qn.fr qW
 piece:=λp hp hA hu id o h1 h2 h3=>by
  by_cases pR:p.j=j
  .exact ki p hp pR id o h1 h2 h3
  .refine aj3 id o (λhx=>?_) (h.piece p hp (hA.resolve_right pR) (hu.less λ_ x=>.inl x) id o h1 h2 h3);rw[hp.lo]at h1;rw[hp.hi]at h2;exact pR (ht.apart hc hk hp.lt hj ⟨h1,h2⟩ hx)
 base:=λid o hg=>by
  refine aj3 id o (λhx=>?_) (h.base id o hg);rcases hr with hr|⟨p,hp,pR⟩
  .omega
  .have:=h.NB p hp (λi hi _ Si=>nX (h.closed i hi j (pR▸Si))) id (by rw[hp.lo,pR];exact hx.1) (by rw[hp.hi,pR];exact hx.2);rw[this]at hg;cases hg
 NB:=λp hp hu=>h.NB p hp (hu.less λ_ x=>.inl x)
 top:=h.top
 low:=h.low
theorem tC.agt(h:tC ops pl D N ro gq w0 d_ A m e Z cur w){j:Nat}{e':Env}(hj:j<ops.size)(hb:∀i,jW pl j i->A i)(gG:bo pl j=.effect)(yR:∀i,i<ops.size->bo pl i=.effect->(A i↔i<j))
 (he:vu ops D (λi=>A i\/i=j) e'){Fr:Nat->Prop}(qn:BL ro (D ops.size).n gq w0 d_ Fr aK uu w')
 (qW:∀id,((∃i,i<ops.size/\¬(A i\/i=j)/\(D i).n<=id/\id<(D (i+1)).n)\/((D ops.size).n<=id/\id<N))->Fr id)
 (ki:∀p,Made ops D p->p.j≠j->A p.j->vw ops pl D (λi=>A i\/i=j) p.j->∀id o,p.lo<=id->id<p.hi->cur id=aa o->uu id=aa o)(bg:∀p,Made ops D p->p.j≠j)
 (IC:∀id o,(gQ (D (j+1)).bs).get id=aa o->uu id=aa o)
 (aod:∀p,Made ops D p->vw ops pl D (λi=>A i\/i=j) p.j->∀id,p.lo<=id->id<p.hi->(gQ (D (j+1)).bs).get id=ah)
 (Kc:∀id,(D (j+1)).n<=id->(gQ (D (j+1)).bs).get id=ah)(ad7:∀id,id<ro->id<d_.n->(gQ (D (j+1)).bs).get id=d_.at id):
 tC ops pl D N ro gq w0 d_ (λi=>A i\/i=j) (j+1) e' aK uu w' where
 sub:=λi hi=>hi.elim (h.sub i) (λx=>x▸hj)
 closed:=λi hi q hq=>hi.elim (λhi=>.inl (h.closed i hi q hq)) (λx=>.inl (hb q (x▸hq)))
 env:=he
 SR:=hj
 PY:=λi hi qx=>by
  constructor
  .intro x;rcases x with x|rfl
   .have:=(yR i hi qx).1 x;omega
   .omega
  .intro x;by_cases oW:i=j
   .exact .inr oW
   .exact .inl ((yR i hi qx).2 aj)
 last:=.inr ⟨j,rfl,.inr rfl,gG⟩
 zl:=qn.fr qW
 piece:=λp hp hA hu id o h1 h2 h3=>ki p hp (bg p hp) (hA.resolve_right (bg p hp)) hu id o h1 h2 (h.piece p hp (hA.resolve_right (bg p hp)) (hu.less λ_ x=>.inl x) id o h1 h2 h3)
 base:=IC
 NB:=aod
 top:=Kc
 low:=ad7
end phi
end
section
variable{P:Program}{S:Nat->Self}{ro:Nat}{ops:Array Oper}{pl:eh}{D:Nat->DS}{N:Nat}[Sm]
theorem PZ{e:Env}{o:Oper}{n bits:Nat}{v:IV}{aS:List Piece}{b:T Ob}(h:loadAt P e o n v aS bits b=ab):
 ∃G,aA P n (aB e) o ⟨n,seen aS bits b⟩=aa (.val v G)/\G.n=n:=by
 unfold loadAt at h;split at h
 .rename_i u G he;simp only[awb]at h;rw[Sm.ok _ _ h.2]at he;exact⟨G,he,Nat.eq_of_beq_eq_true h.1⟩
 .cases h
theorem Jz{e:Env}{o:Oper}{n bits:Nat}{v:IV}{aS:List Piece}{i:Nat}{b:T Ob}{rest:List (Nat×T Ob)}:∀{pre:List (Nat×T Ob)},nG P e o n v aS bits (pre++(i,b)::rest)=ab->
 (∀x∈pre,awC bits x.1≠ab)->loadAt P e o n v aS bits b=ab
 |[],h,_=>by
  simp only[axp,nG,awb]at h;exact h.1
 |x::pre,h,hp=>by
  obtain⟨i',b'⟩:=x;simp only[axk,nG,awb,awO]at h;exact Jz (h.2.resolve_left (hp (i',b') ay)) λy hy=>hp y (by simp[hy])
theorem abm{i:Nat}{t:Tmp}(h:jV ops i=aa t):i<ops.size:=by
 unfold jV at h;cases ho:ops[i]? with
 |none=>rw[ho]at h;cases h
 |some o=>exact(aw4.1 ho).1
section step
variable{gq Z:Io}{w0 w:World}{d_:St}{A:Nat->Prop}{m:Nat}{e:Env}{cur:Nat->Option Ob}{j:Nat}
theorem tC.reads(h:tC ops pl D N ro gq w0 d_ A m e Z cur w)(ht:Tr P S pl ro ops D)(ho:pP ops pl)(hj:j<ops.size)(nX:¬A j)(hb:∀i,jW pl j i->A i):∀t∈C_ ops j,e.at t=(D j).e.at t:=by
 intro t hm;refine Kb h.env (ht.env ho j aj) λi hd=>?_;have hi:=abm hd;rcases ayW i j with ak|rfl|ak
 .refine⟨λ_=>ak,λ_=>aw2 λhn=>?_⟩;exact(ho.free i j ak hj (λhx=>hn (hb i hx))).1 t hd hm
 .exact⟨λx=>absurd x nX,λx=>absurd x aj⟩
 .refine⟨λhA=>absurd hm ?_,λx=>by omega⟩;exact(ho.free j i ak hi (λhx=>nX (h.closed i hA j hx))).2.1 t hd
theorem tC.order(h:tC ops pl D N ro gq w0 d_ A m e Z cur w)(ht:Tr P S pl ro ops D)(ho:pP ops pl)(hj:j<ops.size)(nX:¬A j)(hb:∀i,jW pl j i->A i)(gG:bo pl j=.effect\/bo pl j=.call):
 (∀i,i<ops.size->bo pl i=.effect->(A i↔i<j))/\m<=j/\(D j).bs=(D m).bs:=by
 have h1:∀i,i<ops.size->bo pl i=.effect->(A i↔i<j):=by
  intro i hi qx;rcases ayW i j with ak|rfl|ak
  .refine⟨λ_=>ak,λ_=>aw2 λhn=>?_⟩;have:=(ho.free i j ak hj (λhx=>hn (hb i hx))).2.2;rw[qx]at this;rcases gG with gG|gG<;>(rw[gG]at this;cases this)
  .exact⟨λx=>absurd x nX,λx=>absurd x aj⟩
  .refine⟨λhA=>?_,λx=>by omega⟩;have:=(ho.free j i ak hi (λhx=>nX (h.closed i hA j hx))).2.2;rw[qx]at this;rcases gG with gG|gG<;>(rw[gG]at this;cases this)
 have h2:m<=j:=by
  rcases h.last with hm|⟨i,hm,hA,qx⟩
  .omega
  .have:=(h1 i (h.sub i hA) qx).1 hA;omega
 refine⟨h1,h2,ht.SN h2 aj λi W0 P0 qx=>?_⟩;have:=(h1 i aj qx).2 P0;have:=(h.PY i aj qx).1 this;omega
theorem Tr.aoe(ht:Tr P S pl ro ops D)(hj:j<ops.size):(D j).bs≠[]:=by
 obtain⟨_,_,_,_,h,_⟩:=ht.SM hj;exact h
theorem tC.aof(h:tC ops pl D N ro gq w0 d_ A m e Z cur w)(ht:Tr P S pl ro ops D)(ho:pP ops pl)(hc:∀j,bW (S j))(hk:∀j,bK (S j))(h0:(D 0).aS=[])(hj:j<ops.size)(nX:¬A j)(hb:∀i,jW pl j i->A i)
 {o:Oper}{v:IV}(lP:ops[j]?=aa o)(hw:aX o ops (D j).e=ab)(gG:bo pl j=.load)(hej:(D (j+1)).e=(D j).e.put o.dst v)
 {i0:Nat}{b:T Ob}{rest:List (Nat×T Ob)}(ji:(D j).bs=(i0,b)::rest){G:St}(he:aA P (D j).n (aB (D j).e) o ⟨(D j).n,seen (D j).aS (pl.cg.getD j 0) b⟩=aa (.val v G))(ma:G.n=(D j).n)
 (hl:(awC (pl.cg.getD j 0) i0||nG P (D j).e o (D j).n v (D j).aS (pl.cg.getD j 0) rest)=ab):
 ∃aS n' u au,aA P n' (aB e) o ⟨n',seen aS (pl.cg.getD j 0) (gQ (D m).bs)⟩=aa (.val u au)/\au.n=n'/\(∀p∈aS,Made ops D p/\vw ops pl D A p.j/\p.hi<=n')/\(D m).n<=n'/\e.put o.dst u=e.put o.dst v:=by
 have eQ:=h.reads ht ho hj nX hb;have qw:e.n=(D j).e.n:=by rw[h.env.n,(ht.env ho j aj).n]
 by_cases LN:m<=j
 .have ki:∀p∈(D j).aS,Made ops D p/\vw ops pl D A p.j/\p.hi<=(D j).n:=by
   intro p hp;obtain⟨a,b,c⟩:=ht.aS ho h0 j aj p hp;refine⟨a,λi hA JA=>c i ?_ JA,by rw[a.hi];exact ht.gF hc hk b aj⟩;have:=(h.PY i (h.sub i hA) JA.1).1 hA;omega
  have Ro:=λ(n':Nat) (G:St)=>rZ (P:=P) (ro:=n') (G:=G) (vv lP eQ qw).1;obtain⟨pre,Kd,qY⟩:=ht.PX LN (by omega:j<=ops.size);cases pre with
  |nil=>
   have AB:gQ (D m).bs=b:=by
    rw[axp]at Kd;rw[<-Kd,ji];rfl
   exact⟨(D j).aS,(D j).n,v,G,by rw[Ro,AB];exact he,ma,ki,ht.gF hc hk LN aj,rfl⟩
  |cons x pre=>
   obtain⟨i1,b1,Rp,wD⟩:∃i1 b1 Rp,(D m).bs=(i1,b1)::Rp:=by
    cases hx:(D m).bs with
    |nil=>exact absurd hx (ht.aoe aj)
    |cons y ys=>exact⟨y.1,y.2,ys,rfl⟩
   have nob:∀y∈x::pre,awC (pl.cg.getD j 0) y.1≠ab:=by
    intro y hy jH;obtain⟨g1,g2,g3⟩:=qY y hy;have:=(h.PY y.1 aj g3).1 (hb y.1 jH);omega
   rw[ji]at Kd;simp only[axk,axC]at Kd;obtain⟨hx,iW⟩:=Kd
   have sJ:awC (pl.cg.getD j 0) i0=af:=by
    have:=nob x ay;rw[<-hx]at this;simpa using this
   rw[sJ,ayc,iW,wD]at hl;obtain⟨au,h1,h2⟩:=PZ (Jz hl λy hy=>nob y (by simp[hy]));refine⟨(D j).aS,(D j).n,v,au,?_,h2,ki,ht.gF hc hk LN aj,rfl⟩;rw[Ro,wD];exact h1
 .obtain⟨i,hmi,hA,qx⟩:∃i,m=i+1/\A i/\bo pl i=.effect:=h.last.resolve_left aj;have hi:=h.sub i hA;have oW:i≠j:=λhx=>nX (hx▸hA);have ak:j<i:=aj;have aog:¬jW pl i j:=λhx=>nX (h.closed i hA j hx)
  have ki:∀p∈(D m).aS,Made ops D p/\vw ops pl D A p.j/\p.hi<=(D m).n:=by
   intro p hp;obtain⟨a,b,c⟩:=ht.aS ho h0 m h.SR p hp;refine⟨a,λi hA JA=>c i ?_ JA,by rw[a.hi];exact ht.gF hc hk b h.SR⟩;exact(h.PY i (h.sub i hA) JA.1).1 hA
  have Y0:=ht.env ho i aj
  have aj4:∀t∈C_ ops j,e.at t=(D i).e.at t:=by
   intro t htm;refine Kb h.env Y0 λq hd=>?_;have hq:=abm hd;rcases ayW q j with SU|rfl|SU
   .have:A q:=aw2 λhn=>(ho.free q j SU hj (λhx=>hn (hb q hx))).1 t hd htm;exact⟨λ_=>by omega,λ_=>this⟩
   .exact absurd htm (ho.ad4 q hj gG t hd)
   .exact absurd htm (ho.abh j q SU hq gG t hd)
  have aj5:e.n=(D i).e.n:=by rw[h.env.n,Y0.n]
  have Ro:=λ(n':Nat) (G:St)=>rZ (P:=P) (ro:=n') (G:=G) (vv lP aj4 aj5).1;have kh:aX o ops (D i).e=ab:=by rw[<-(vv lP aj4 aj5).2,(vv lP eQ qw).2,hw]
  have EO:recheck P pl ops (pl.cg.getD i 0) (D i).e (D m).n (D m).aS (gQ (D m).bs) (ops.toList.zipIdx.take i)=ab:=by
   obtain⟨o',v',_,_,_,hs⟩:=ht.SM hi;rw[hmi];cases hs with
   |skip _ _ _ _ hx=>exact absurd qx hx
   |IB _ _ hn hp _ i1 b1 Rp _ cB hr=>rw[hn,hp,cB];exact hr
   |pure _ hx=>rw[qx]at hx;cases hx
   |alloc _ hx=>rw[qx]at hx;cases hx
   |load _ hx=>rw[qx]at hx;cases hx
   |call _ hx=>rw[qx]at hx;cases hx
   |effect _ _ i1 b1 Rp _ av _ hn cB hp hr=>rw[cB];exact hr
  unfold recheck at EO;rw[awt]at EO
  have dD:(o,j)∈ops.toList.zipIdx.take i:=by
   rw[ay_];refine⟨j,?_⟩;rw[List.getElem?_take,if_pos ak,aza];have:ops.toList[j]?=aa o:=by simpa using lP
   rw[this];simp
  have hx:=EO (o,j) dD;dsimp only at hx;have ar2:pl.kinds.getD j .effect=.load:=gG;rw[ar2]at hx
  have sJ:awC (pl.cg.getD i 0) j=af:=by
   cases hc:awC (pl.cg.getD i 0) j with
   |false=>rfl
   |true=>exact absurd hc aog
  rw[sJ,kh]at hx;simp only[axu,ayc]at hx;split at hx
  .rename_i d hd;obtain⟨au,h1,h2⟩:=PZ hx;refine⟨(D m).aS,(D m).n,(D i).e.at d,au,?_,h2,ki,awe _,?_⟩
   .rw[Ro];exact h1
   .rw[hd];have hdj:jV ops j=aa d:=by unfold jV;rw[lP];exact hd
    have aM:(D i).e.at d=(D (j+1)).e.at d:=Y0.put j ak d hdj;rw[aM,hej,hd,Env.cW];by_cases hdn:d<e.n
    .rw[if_pos ⟨by rw[<-qw];exact hdn,rfl⟩]
    .have fC:∀z:IV,e.put (aa d) z=e:=λz=>by
      have:aw6 d e.n=af:=by
       cases hc:aw6 d e.n with
       |false=>rfl
       |true=>exact absurd (by simpa using hc) hdn
      simp only[Env.put,this];rfl
     rw[fC,fC]
  .cases hx
end step
end
section
variable{P:Program}{S:Nat->Self}{ro nn:Nat}{ops:Array Oper}{pl:eh}{D:Nat->DS}{N:Nat}{F:Fence}{rd:Option Nat}{Q:Exit->Act->World->Prop}[Sm]
theorem put_defers{a:Act}{dst:Option Tmp}{u:Value}:(a.put dst u).defers=a.defers:=by cases dst<;>rfl
theorem ad8{cur:Nat->Option Ob}{G au:St}(h:∀id,G.at id=ah)(hn:au.n<=G.n):BK cur G au=cur:=by
 funext id;unfold BK;rw[if_neg];rw[h id];intro hx;rcases hx with hx|hx
 .cases hx
 .omega
section step
variable{gq Z:Io}{w0 w:World}{d_:St}{A:Nat->Prop}{m:Nat}{e:Env}{cur:Nat->Option Ob}{j:Nat}{a:Act}{K:Act->World->Prop}
theorem tC.step(hS:∀j,iv P (S j) nn)(hC:∀j,eP P (S j))(hm:∀j,bW (S j))(hk:∀j,bK (S j))(ho:pP ops pl)(ht:Tr P S pl ro ops D)(h0:(D 0).aS=[])(ma:(D 0).n=d_.n)(hnk:(D ops.size).n<=N)(G9:Inv N gq d_ w0)
 (h:tC ops pl D N ro gq w0 d_ A m e Z cur w)(hj:j<ops.size)(nX:¬A j)(hb:∀i,jW pl j i->A i)(hF0:kf F rd gq)(he:cY Z e a.tmps)
 (hK:∀m' e' aK uu w' a',tC ops pl D N ro gq w0 d_ (λi=>A i\/i=j) m' e' aK uu w'->cY aK e' a'.tmps->a'.defers=a.defers->K a' w'):wpOpIn F 0 P ops Q j K a w:=by
 obtain⟨o,v,lP,hej,avY,hs⟩:=ht.SM hj;have hF:kf F rd Z:=hF0.mono h.zl.ext;have Y1:=ht.env ho j aj;have eQ:=h.reads ht ho hj nX hb;have qw:e.n=(D j).e.n:=by rw[h.env.n,Y1.n]
 have fv:=vv lP eQ qw;have hold:∀t,jV ops j=aa t->(D j).e.at t=(D 0).e.at t:=λt hd=>Y1.cG t λi hi hc=>ho.single i j hi hj t hc hd;have ER:vu ops D (λi=>A i\/i=j) (e.put o.dst v):=h.env.step ho h.sub lP nX hej hold Y1.n;have SI:∀id,d_.n<=id->id<(D ops.size).n->∀e,gq id e=ah:=λid h1 h2=>G9.fresh id h1 aj;have hnj:(D j).n<=(D (j+1)).n:=ht.abk hm hk hj;have ad9:d_.n<=(D j).n:=by rw[<-ma];exact ht.gF hm hk aj aj
 have avZ:(D (j+1)).n<=(D ops.size).n:=ht.gF hm hk aj aj
 have hX:∀id,((∃i,i<ops.size/\¬(A i\/i=j)/\(D i).n<=id/\id<(D (i+1)).n)\/((D ops.size).n<=id/\id<N))->
  ((∃i,i<ops.size/\¬A i/\(D i).n<=id/\id<(D (i+1)).n)\/((D ops.size).n<=id/\id<N))/\¬((D j).n<=id/\id<(D (j+1)).n):=by
  intro id hx;rcases hx with⟨i,h1,h2,h3⟩|hx
  .exact⟨.inl ⟨i,h1,λhA=>h2 (.inl hA),h3⟩,λhr=>h2 (.inr (ht.apart hm hk h1 hj h3 hr))⟩
  .exact⟨.inr hx,λhr=>by omega⟩
 have hFr:∀id,(D j).n<=id->id<(D (j+1)).n->((∃i,i<ops.size/\¬A i/\(D i).n<=id/\id<(D (i+1)).n)\/((D ops.size).n<=id/\id<N)):=λid h1 h2=>.inl ⟨j,hj,nX,h1,h2⟩
 have NC:(D (j+1)).n=(D j).n->∀p,Made ops D p->p.j=j->∀(uu:Nat->Option Ob) id o,p.lo<=id->id<p.hi->p.t.get id=aa o->uu id=aa o:=by
  intro hn p hp pR uu id o h1 h2;rw[hp.lo,pR]at h1;rw[hp.hi,pR]at h2;omega
 have hbB:∀{i0:Nat} {b:T Ob} {rest:List (Nat×T Ob)},(D j).bs=(i0,b)::rest->(D j).bs=(D m).bs->gQ (D m).bs=b:=λh1 h2=>by rw[<-h2,h1];rfl
 have jI:(∀i,i<ops.size->bo pl i=.effect->(A i↔i<j))->∀p∈(D j).aS,Made ops D p/\vw ops pl D A p.j/\p.hi<=(D j).n:=by
  intro yR p hp;obtain⟨c1,c2,c3⟩:=ht.aS ho h0 j aj p hp;exact⟨c1,λi hA JA=>c3 i ((yR i (h.sub i hA) JA.1).1 hA) JA,by rw[c1.hi];exact ht.gF hm hk c2 aj⟩
 unfold wpOpIn;rw[lP];dsimp only;rw[uW he,fv.2];cases hs with
 |skip hw hv hn hp gG ji=>
  rw[hw];refine⟨λf _=>hF.fn f,?_⟩;subst hv;exact hK m _ Z cur w _ (h.next ht hm hk hj nX hb gG ER h.zl (λid hx=>(hX id hx).1) (λ_ _ _ hc=>hc) (.inl hn) (λp hp pR=>NC hn p hp pR cur)) (he.put uo _) put_defers
 |IB hw hv hn hp gG i0 b rest ji cB hr=>
  rw[hw];refine⟨λf _=>hF.fn f,?_⟩;subst hv;obtain⟨yR,LN,AB⟩:=h.order ht ho hj nX hb (.inl gG);have hB:=hbB ji AB;have LP:gQ (D (j+1)).bs=gQ (D m).bs:=by rw[cB,hB];rfl
  have eN:=ht.gF hm hk LN (by omega:j<=ops.size);refine hK (j+1) _ Z cur w _ (h.agt hj hb gG yR ER h.zl (λid hx=>(hX id hx).1) (λ_ _ _ _ _ _ _ _ _ hc=>hc) (λp hp pR=>SP ht hp (by rw[pR];exact gG)) ?_ ?_ ?_ ?_) (he.put uo _) put_defers
  .rw[LP];exact h.base
  .rw[LP];exactλp hp hu=>h.NB p hp (hu.less λ_ x=>.inl x)
  .rw[LP];exactλid hid=>h.top id aj
  .rw[LP];exact h.low
 |pure hw gG hn hp ji G ew DR=>
  rw[hw];have hx:kH P (S j) 0 e o ⟨0,.lf⟩=aa (v,G):=by unfold kH;rw[rZ fv.1,ew]
  refine DP (N:=0) (hS j) (hC j) (hm j) hx aj hF (h.zl.toGn.inv (λid o hs=>by cases hs) (λid h1 h2=>by omega) (λ_ _=>rfl)) he λu w' aK hv cw hl=>?_;have qn:=h.zl.step SI (λid o hs=>by cases hs) (λid h1 h2=>by omega) (λid _ hs=>by cases hs) (λ_ _=>rfl) cw hl;rw[ad8 (λ_=>rfl) aj]at qn;exact hK m _ aK cur w' _ (h.next ht hm hk hj nX hb (by rw[gG];simp) ER qn (λid hx=>⟨(hX id hx).1,λhh=>by omega⟩) (λ_ _ _ hc=>hc) (.inl hn) (λp hp pR=>NC hn p hp pR cur)) ((he.mono hl.ext).put hv _) put_defers
 |alloc hw gG ji G ew hn hp=>
  rw[hw];have hx:kH P (S j) 0 e o ⟨(D j).n,.lf⟩=aa (v,G):=by unfold kH;rw[rZ fv.1,ew]
  refine DP (N:=(D (j+1)).n) (hS j) (hC j) (hm j) hx aj hF (h.zl.toGn.inv (λid o hs=>by cases hs) (λid h1 h2=>hFr id h1 h2) (λ_ _=>rfl)) he λu w' aK hv cw hl=>?_;have qn:=h.zl.step SI (λid o hs=>by cases hs) (λid h1 h2=>⟨awy ad9 h1,by omega⟩) (λid _ hs=>by cases hs) (λ_ _=>rfl) cw hl;have LK:Made ops D ⟨j,(D j).n,G.n,G.t⟩:=⟨hj,rfl,hn.symm,hp⟩;refine hK m _ aK _ w' _ (h.next ht hm hk hj nX hb (by rw[gG];simp) ER qn (λid hx=>⟨(hX id hx).1,λhh=>(hX id hx).2 (by rw[hn];exact hh)⟩) (λid o hr hc=>?_) (.inr ⟨_,LK,rfl⟩) (λp mL pR id o h1 h2 h3=>?_)) ((he.mono hl.ext).put hv _) put_defers
  .unfold BK;rw[if_neg,hc];intro hx;rcases hx with hx|hx
   .cases hx
   .exact hr (by rw[hn];exact hx)
  .have yk:=SQ mL LK pR;subst yk;unfold BK;rw[if_pos (.inr ⟨h1,h2⟩)];exact h3
 |load hw gG hn hp ji i0 b rest G_ G ew DR WM=>
  rw[hw];obtain⟨aS,n',u',au,ar3,av0,nY,eN,J9⟩:=h.aof ht ho hm hk h0 hj nX hb lP hw gG hej G_ ew DR WM;obtain⟨iG,k_⟩:=h.see hb nY eN;have hx:kH P (S j) n' e o ⟨n',seen aS (pl.cg.getD j 0) (gQ (D m).bs)⟩=aa (u',au):=by unfold kH;rw[ar3]
  refine DP (N:=n') (hS j) (hC j) (hm j) hx aj hF (h.zl.toGn.inv iG (λid h1 h2=>by dsimp only at h1;omega) k_) he λu w' aK hv cw hl=>?_;have qn:=h.zl.step (G:=⟨n',seen aS (pl.cg.getD j 0) (gQ (D m).bs)⟩) SI iG (λid h1 h2=>by dsimp only at h1;omega) (λid _ hs=>?_) k_ cw hl
  .have W1:BK cur ⟨n',seen aS (pl.cg.getD j 0) (gQ (D m).bs)⟩ au=cur:=by
    funext id;unfold BK;split
    .rename_i hc;have hs:((⟨n',seen aS (pl.cg.getD j 0) (gQ (D m).bs)⟩:St).at id).isSome:=hc.resolve_right (by dsimp only;omega);obtain⟨x,hx⟩:=aym.1 hs;have ak:id<n':=ayr λhle=>by have:=k_ id hle;rw[show(⟨n',seen aS (pl.cg.getD j 0) (gQ (D m).bs)⟩:St).at id=_ from this]at hx;cases hx
     rw[hl.yN id ak ak,hx];exact(iG id x hx).symm
    .rfl
   rw[W1]at qn;have ar4:cY aK (e.put o.dst v) (a.put o.dst u).tmps:=by rw[<-J9];exact(he.mono hl.ext).put hv _
   exact hK m _ aK cur w' _ (h.next ht hm hk hj nX hb (by rw[gG];simp) ER qn (λid hx=>⟨(hX id hx).1,λhh=>by dsimp only at hh;omega⟩) (λ_ _ _ hc=>hc) (.inl hn) (λp hp pR=>NC hn p hp pR cur)) ar4 put_defers
  .exact ayr λhle=>by
    have:=k_ id hle;rw[show(⟨n',seen aS (pl.cg.getD j 0) (gQ (D m).bs)⟩:St).at id=_ from this]at hs;cases hs
 |call hw gG ji i0 b rest G_ G ew hn hp=>
  rw[hw];obtain⟨yR,LN,AB⟩:=h.order ht ho hj nX hb (.inr gG);have hB:=hbB G_ AB;have eN:=ht.gF hm hk LN (by omega:j<=ops.size);obtain⟨iG,k_⟩:=h.see hb (jI yR) eN;rw[hB]at iG k_
  have hx:kH P (S j) (D j).n e o ⟨(D j).n,seen (D j).aS (pl.cg.getD j 0) b⟩=aa (v,G):=by
   rw[<-ew];unfold kH;rw[rZ fv.1]
  have ak:∀id,((⟨(D j).n,seen (D j).aS (pl.cg.getD j 0) b⟩:St).at id).isSome=ab->id<(D j).n:=λid hs=>ayr λhle=>by
   have:=k_ id hle;rw[show(⟨(D j).n,seen (D j).aS (pl.cg.getD j 0) b⟩:St).at id=_ from this]at hs;cases hs
  refine DP (N:=(D (j+1)).n) (hS j) (hC j) (hm j) hx aj hF (h.zl.toGn.inv iG (λid h1 h2=>hFr id h1 h2) k_) he λu w' aK hv cw hl=>?_;have qn:=h.zl.step (G:=⟨(D j).n,seen (D j).aS (pl.cg.getD j 0) b⟩) SI iG (λid h1 h2=>⟨awy ad9 h1,by omega⟩) (λid _ hs=>ak id hs) k_ cw hl;have LK:Made ops D ⟨j,(D j).n,G.n,G.t⟩:=⟨hj,rfl,hn.symm,hp⟩;refine hK m _ aK _ w' _ (h.next ht hm hk hj nX hb (by rw[gG];simp) ER qn (λid hx=>⟨(hX id hx).1,λhh=>(hX id hx).2 (by rw[hn];exact hh)⟩) (λid o hr hc=>?_) (.inr ⟨_,LK,rfl⟩) (λp mL pR id o h1 h2 h3=>?_)) ((he.mono hl.ext).put hv _) put_defers
  .unfold BK;split
   .rename_i jy;have hs:=jy.resolve_right (λhx=>hr (by rw[hn];exact hx));obtain⟨x,hx⟩:=aym.1 hs;rw[hl.yN id (ak id hs) (ak id hs),hx,<-iG id x hx];exact hc
   .exact hc
  .have yk:=SQ mL LK pR;subst yk;unfold BK;rw[if_pos (.inr ⟨h1,h2⟩)];exact h3
 |effect hw gG i0 b rest G_ G ew hn cB hp hr=>
  rw[hw];obtain⟨yR,LN,AB⟩:=h.order ht ho hj nX hb (.inl gG);have hB:=hbB G_ AB;have LP:gQ (D (j+1)).bs=G.t:=by rw[cB];rfl
  have eN:=ht.gF hm hk LN (by omega:j<=ops.size);obtain⟨iG,k_⟩:=h.see hb (jI yR) eN;rw[hB]at iG k_
  have hx:kH P (S j) ro e o ⟨(D j).n,seen (D j).aS (pl.cg.getD j 0) b⟩=aa (v,G):=by
   rw[<-ew];unfold kH;rw[rZ fv.1]
  have SV:WZ ops pl D j:=⟨gG,o,lP,hw⟩
  have om:∀p,Made ops D p->vw ops pl D (λi=>A i\/i=j) p.j->∀id,p.lo<=id->id<p.hi->(seen (D j).aS (pl.cg.getD j 0) b).get id=ah:=by
   intro p mL hu id h1 h2;cases ym:(seen (D j).aS (pl.cg.getD j 0) b).get id with
   |none=>rfl
   |some x=>
    rcases Ka ym with⟨q,hq,jH,g1,g2,g3⟩|ym
    .obtain⟨BB,_,_⟩:=jI yR q hq
     have:q.j=p.j:=by
      rw[BB.lo]at g1;rw[BB.hi]at g2;rw[mL.lo]at h1;rw[mL.hi]at h2;exact ht.apart hm hk BB.lt mL.lt ⟨g1,g2⟩ ⟨h1,h2⟩
     exact absurd (show jW pl j p.j by rw[<-this];exact jH) (hu j (.inr rfl) SV)
    .rw[<-hB,h.NB p mL (hu.less λ_ x=>.inl x) id h1 h2]at ym;cases ym
  have bg:∀p,Made ops D p->p.j≠j:=λp mL pR=>SP ht mL (by rw[pR];exact gG)
  have SX:∀p,Made ops D p->∀id,p.lo<=id->id<p.hi->¬((D j).n<=id/\id<G.n):=λp mL id h1 h2 hx=>by
   rw[mL.lo]at h1;rw[mL.hi]at h2;exact bg p mL (ht.apart hm hk mL.lt hj ⟨h1,h2⟩ (by rw[hn];exact hx))
  refine DP (N:=(D (j+1)).n) (hS j) (hC j) (hm j) hx aj hF (h.zl.toGn.inv iG (λid h1 h2=>hFr id h1 h2) k_) he λu w' aK hv cw hl=>?_;have qn:=h.zl.step (G:=⟨(D j).n,seen (D j).aS (pl.cg.getD j 0) b⟩) SI iG (λid h1 h2=>⟨awy ad9 h1,by omega⟩) (λid hr _=>hr) k_ cw hl;refine hK (j+1) _ aK _ w' _ (h.agt hj hb gG yR ER qn (λid hx=>⟨(hX id hx).1,λhh=>(hX id hx).2 (by rw[hn];exact hh)⟩) (λp mL pR hA hu id o h1 h2 hc=>?_) bg ?_ ?_ ?_ ?_) ((he.mono hl.ext).put hv _) put_defers
  .unfold BK;rw[if_neg]
   .exact hc
   .intro hx;rcases hx with hx|hx
    .rw[show(⟨(D j).n,seen (D j).aS (pl.cg.getD j 0) b⟩:St).at id=_ from om p mL hu id h1 h2]at hx;cases hx
    .exact SX p mL id h1 h2 hx
  .rw[LP];intro id o hg;unfold BK;split
   .exact hg
   .rename_i hx
    have jT:(⟨(D j).n,seen (D j).aS (pl.cg.getD j 0) b⟩:St).at id=ah:=by
     cases hs:(⟨(D j).n,seen (D j).aS (pl.cg.getD j 0) b⟩:St).at id with
     |none=>rfl
     |some y=>exact absurd (.inl (by rw[hs];rfl)) hx
    have avu:¬((D j).n<=id/\id<G.n):=λhh=>hx (.inr hh);have:=hl.dead id jT (by dsimp only;omega);rw[show G.at id=_ from hg]at this;cases this
  .rw[LP];intro p mL hu id h1 h2;have:=SX p mL id h1 h2;exact hl.dead id (om p mL hu id h1 h2) (by dsimp only;omega)
  .rw[LP];intro id hid;exact hl.dead id (k_ id aj) (.inr aj)
  .rw[LP];intro id DT ak;rw[show G.t.get id=G.at id from rfl,hl.yN id DT (by dsimp only;omega)];show(seen (D j).aS (pl.cg.getD j 0) b).get id=_;rw[ad5,<-hB]
   .exact h.low id DT ak
   .intro p mL;obtain⟨c1,c2,_⟩:=ht.aS ho h0 j aj p mL;rw[c1.lo];have:=ht.gF hm hk (aw5 p.j) (by have:=c1.lt;omega);omega
end step
end
section
variable{P:Program}{S:Nat->Self}{ro nn:Nat}{ops:Array Oper}{pl:eh}{D:Nat->DS}{N:Nat}{F:Fence}{rd:Option Nat}{Q:Exit->Act->World->Prop}[Sm]
def gr(listed:Array Bool)(i:Nat):Prop:=listed[i]?=aa ab
omit [Sm]in
theorem Aj{listed:Array Bool}{j:Nat}(hj:j<listed.size):gr (listed.setIfInBounds j ab)=λi=>gr listed i\/i=j:=by
 funext i;refine propext ?_;unfold gr;rw[azP];by_cases oW:j=i
 .subst oW;simp[hj]
 .simp[oW,Ne.symm oW]
omit [Sm]in
theorem q7{listed:Array Bool}{j:Nat}(h:j∈axd .any ops listed):j<ops.size/\listed[j]?=aa af/\∃o,ops[j]?=aa o/\∀e∈o.after.toList,axH .any e=ab->gr listed e.on:=by
 unfold axd at h;rw[aw7,axL]at h;obtain⟨ak,h⟩:=h;rw[awb]at h;refine⟨ak,?_,ops[j],awF ak,λe he hb=>?_⟩
 .have h1:=h.1;rw[aw9]at h1;cases hx:listed[j]? with
  |none=>rw[hx]at h1;cases h1
  |some b=>rw[hx]at h1;cases b with
   |false=>rfl
   |true=>cases h1
 .have h2:=h.2;rw[awF ak]at h2;simp only[awQ,aw8]at h2;rw[aAr]at h2;have:=h2 e (by simpa using he);rw[hb,axu,ayc,aw9]at this;unfold gr;cases hx:listed[e.on]? with
  |none=>rw[hx]at this;cases this
  |some b=>rw[hx]at this;cases b with
   |false=>cases this
   |true=>rfl
omit [Sm]in
theorem P1(ho:pP ops pl){listed:Array Bool}(bf:listed.size=ops.size)(h:axd .any ops listed=[]):∀i,i<ops.size->gr listed i:=by
 intro i;induction i using aA9 with
 |_ i ih=>
  intro hi;refine aw2 λhn=>?_
  have hf:listed[i]?=aa af:=by
   rw[awF aj];cases hx:listed[i]'aj with
   |false=>rfl
   |true=>exact absurd (by unfold gr;rw[awF aj,hx]) hn
  have hm:i∈axd .any ops listed:=by
   unfold axd;rw[aw7,axL];refine⟨hi,?_⟩;rw[aw9,hf,awF hi];simp only[aw8,Bool.not_false,Bool.true_and,awQ];rw[aAr];intro e he;cases hb:axH .any e with
   |false=>rfl
   |true=>
    have ak:=ho.back i _ (awF hi) e (by simpa using he) hb;have:=ih e.on ak aj;unfold gr at this;rw[aw9,this];rfl
  rw[h]at hm;cases hm
section any
variable{gq:Io}{w0:World}{d_:St}{a0:Act}
theorem aj6(hS:∀j,iv P (S j) nn)(hC:∀j,eP P (S j))(hm:∀j,bW (S j))(hk:∀j,bK (S j))(ho:pP ops pl)(ht:Tr P S pl ro ops D)(h0:(D 0).aS=[])(ma:(D 0).n=d_.n)(hnk:(D ops.size).n<=N)(G9:Inv N gq d_ w0)
 (hF0:kf F rd gq)(Da:∀m e Z cur w a,tC ops pl D N ro gq w0 d_ (λi=>i<ops.size) m e Z cur w->cY Z e a.tmps->a.defers=a0.defers->Q .normal a w):
 ∀(fuel:Nat) (listed:Array Bool) (m:Nat) (e:Env) (Z:Io) (cur:Nat->Option Ob) (w:World) (a:Act),listed.size=ops.size->listed.toList.count af<=fuel->tC ops pl D N ro gq w0 d_ (gr listed) m e Z cur w->
  cY Z e a.tmps->a.defers=a0.defers->wpAnyIn F 0 P .any ops Q fuel listed a w:=by
 have bS:∀(listed:Array Bool) (m:Nat) (e:Env) (Z:Io) (cur:Nat->Option Ob) (w:World) (a:Act),listed.size=ops.size->(∀i,i<ops.size->gr listed i)->tC ops pl D N ro gq w0 d_ (gr listed) m e Z cur w->
  cY Z e a.tmps->a.defers=a0.defers->Q .normal a w:=by
  intro listed m e Z cur w a bf hl h he hd
  have:gr listed=λi=>i<ops.size:=by
   funext i;refine propext ⟨λhx=>h.sub i hx,hl i⟩
  rw[this]at h;exact Da m e Z cur w a h he hd
 intro fuel;induction fuel with
 |zero=>
  intro listed m e Z cur w a bf hc h he hd
  have hl:∀i,i<ops.size->gr listed i:=by
   intro i hi;have ak:i<listed.size:=aj;unfold gr;rw[awF ak];cases hx:listed[i]with
   |true=>rfl
   |false=>
    have dD:af∈listed.toList:=by
     rw[ay_];exact⟨i,by rw[aya,awF ak,hx]⟩
    have:=List.count_pos_iff.2 dD;omega
  refine⟨?_,bS listed m e Z cur w a bf hl h he hd⟩;cases hr:axd .any ops listed with
  |nil=>rfl
  |cons x xs=>
   obtain⟨h1,h2,_⟩:=q7 (show x∈axd .any ops listed by rw[hr];simp);have:=hl x h1;unfold gr at this;rw[this]at h2;cases h2
 |succ fuel ih=>
  intro listed m e Z cur w a bf hc h he hd;refine⟨λhr=>bS listed m e Z cur w a bf (P1 ho bf hr) h he hd,λj hj=>?_⟩;obtain⟨SO,hlj,o,lP,ad_⟩:=q7 hj;have nX:¬gr listed j:=λhx=>by unfold gr at hx;rw[hlj]at hx;cases hx
  have hb:∀i,jW pl j i->gr listed i:=by
   intro i jH;obtain⟨e',fM,sK,hh⟩:=ho.bits j o lP i jH;have:=ad_ e' fM sK;rcases hh with rfl|hh
   .exact this
   .exact h.closed _ this i hh
  refine h.step hS hC hm hk ho ht h0 ma hnk G9 SO nX hb hF0 he λm' e' aK uu w' a' hP fM wF=>?_;rw[<-Aj aj]at hP;refine ih _ m' e' aK uu w' a' (by simp[bf]) ?_ hP fM (wF.trans hd);have pS:j<listed.toList.length:=by simp;omega
  have hjv:listed.toList[j]=af:=by
   have:listed.toList[j]?=aa af:=by rw[aya];exact hlj
   rw[av_ pS]at this;exact ayh this
  rw[azU,List.count_set pS,hjv];have e1:(if(af==af)=ab then 1 else 0)=1:=rfl;have e2:(if(ab==af)=ab then 1 else 0)=0:=rfl;rw[e1,e2];omega
end any
def Ha(hS:∀j,iv P (S j) nn)(hC:∀j,eP P (S j))(hm:∀j,bW (S j))(hk:∀j,bK (S j)):
 ∀N ro rd ops e df G cr,kI P S ro ops e df G=aa cr->cr.G.n<=N->∀F Z a w Q,kf F rd Z->Inv N Z G w->cY Z e a.tmps->kY Z df a.defers->ur N ro Z w G cr Q->wpAnyIn F 0 P .any ops Q ops.size (axc ops.size af) a {w with drawn:=w.drawn+1}:=by
 intro N ro rd ops e df G cr h hN F Z a w Q hF hi he hd hQ;unfold kI at h;dsimp only at h;split at h
 .rename_i a_;split at h
  .rename_i e' n i b rest aS GX;cases h;obtain⟨ht,cH⟩:=ad6 GX;generalize hDd:pQ P S (bP ops) ro ops ⟨e,G.n,[(0,G.t)],[]⟩=D at ht cH;have SY:D 0=⟨e,G.n,[(0,G.t)],[]⟩:=by rw[<-hDd];rfl
   have ho:=abj a_;have hn:(D ops.size).n=n:=by rw[<-cH]
   have cw:Inv N Z G {w with drawn:=w.drawn+1}:=hi.same rfl;have hle:Le ro Z w G Z {w with drawn:=w.drawn+1} G:=Le.same rfl rfl rfl rfl
   have ar5:G.n<=N:=by
    have:=ht.gF hm hk (aw5 ops.size) (awe _);rw[hn,SY]at this;exact awy this hN
   have hQ':=hQ.from hi hle ar5;have DU:gQ (D 0).bs=G.t:=by rw[SY];rfl
   have ma:(D 0).n=G.n:=by rw[SY]
   have ar6:tC ops (bP ops) D N ro Z {w with drawn:=w.drawn+1} G (gr (axc ops.size af)) 0 e Z G.at {w with drawn:=w.drawn+1}:=by
    have fC:∀i,¬gr (axc ops.size af) i:=by
     intro i hx;unfold gr at hx;rw[azZ]at hx;split at hx<;>cases hx
    refine⟨λi hx=>absurd hx (fC i),λj hx=>absurd hx (fC j),⟨by rw[SY],λj hx=>absurd hx (fC j),λt _=>by rw[SY]⟩,aw5 _,λi _ _=>⟨λhx=>absurd hx (fC i),λhx=>absurd hx (Nat.not_lt_zero _)⟩,.inl rfl,
     (BL.start cw (by rw[hn];exact hN)).fr ?_,λp _ hx=>absurd hx (fC _),?_,?_,?_,?_⟩
    .intro id hx;rcases hx with⟨j,hj,_,h1,h2⟩|⟨h1,h2⟩
     .have g1:=ht.gF hm hk (aw5 j) aj;have g2:=ht.gF hm hk (show j+1<=ops.size from hj) (awe _);exact⟨by omega,by have:n<=N:=hN;omega⟩
     .have g1:=ht.gF hm hk (aw5 ops.size) (awe _);exact⟨by omega,h2⟩
    .rw[DU];exactλ_ _ h=>h
    .rw[DU];intro p hp _ id h1 _;have g1:=ht.gF hm hk (aw5 p.j) (by have:=hp.lt;omega);exact hi.wf id (by rw[hp.lo]at h1;omega)
    .rw[DU,ma];exact hi.wf
    .rw[DU];exactλ_ _ _=>rfl
   refine aj6 (a0:=a) hS hC hm hk ho ht (by rw[SY]) ma (by rw[hn];exact hN) cw hF ?_ ops.size _ 0 e Z G.at _ a ay ?_ ar6 he rfl
   .intro m e1 bO cur w1 a1 hp kZ AF
    have ji:(D ops.size).bs=(D m).bs:=ht.SN hp.SR (awe _) λi h1 h2 qx=>by
     have:=(hp.PY i h2 qx).1 h2;omega
    have hB:gQ (D m).bs=b:=by rw[<-ji,<-cH];rfl
    have ki:(D ops.size).aS=aS:=by rw[<-cH]
    have jI:∀p∈aS,Made ops D p/\vw ops (bP ops) D (λi=>i<ops.size) p.j/\p.hi<=n:=by
     intro p BN;obtain⟨c1,c2,c3⟩:=ht.aS ho (by rw[SY]) ops.size (awe _) p (by rw[ki];exact BN);exact⟨c1,λi hA JA=>c3 i hA JA,by rw[c1.hi,<-hn];exact ht.gF hm hk c2 (awe _)⟩
    have qn:=hp.zl;rw[hn]at qn;have eN:=ht.gF hm hk hp.SR (awe _);have h0n:=ht.gF hm hk (aw5 ops.size) (awe _)
    obtain⟨i1,l1⟩:=qn.fin (N:=N) (t:=aS.foldl dJ b) aj (λid h1 h2=>.inr ⟨h1,h2⟩) (λid o hg=>by
     rcases EP _ _ _ _ hg with⟨p,BN,g1,g2,g3⟩|hg
     .obtain⟨c1,c2,_⟩:=jI p BN;exact hp.piece p c1 c1.lt c2 id o g1 g2 g3
     .exact hp.base id o (by rw[hB];exact hg))
     (λid hid=>by
      cases hg:(aS.foldl dJ b).get id with
      |none=>rfl
      |some o=>
       rcases EP _ _ _ _ hg with⟨p,BN,g1,g2,g3⟩|hg
       .obtain⟨_,_,c3⟩:=jI p BN;omega
       .rw[<-hB,hp.top id aj]at hg;cases hg)
     (λid hr ak=>by
      rw[J_,<-hB]
      .exact hp.low id hr ak
      .intro p BN;obtain⟨c1,_,_⟩:=jI p BN;rw[c1.lo];have:=ht.gF hm hk (aw5 p.j) (by have:=c1.lt;omega);omega)
    have ER:cY bO e' a1.tmps:=by
     have lR:=ht.env ho ops.size (awe _);have PJ:(D ops.size).e=e':=by rw[<-cH]
     refine⟨by rw[<-PJ,lR.n,<-hp.env.n];exact kZ.1,λt=>?_⟩;rw[<-PJ,<-Kb hp.env lR (t:=t) λi _=>Iff.rfl];exact kZ.2 t
    exact hQ' a1 w1 bO [] i1 l1 ER (by rw[AF];exact hd.mono l1.ext) trivial
   .rw[Array.toList_replicate,List.count_replicate];simp
  .cases h
 .cases h
def Ke(fF:P.follows .mixedOrders=ab)(hS:∀j,iv P (S j) nn)(hC:∀j,eP P (S j))(hm:∀j,bW (S j))(hk:∀j,bK (S j)):
 ∀N ro rd ops e df G cr,kI P S ro ops e df G=aa cr->cr.G.n<=N->∀F Z a w Q id,kf F rd Z->Inv N Z G w->cY Z e a.tmps->kY Z df a.defers->ur N ro Z w G cr Q->(aBA id ops ab).wpIn F 0 P Q a w:=
 λN ro rd ops e df G cr h hN F Z a w Q _ hF hi he hd hQ=>wpIn_region_any fF (Ha hS hC hm hk N ro rd ops e df G cr h hN F Z a w Q hF hi he hd hQ)
omit [Sm]in
def W4{U:Self}(fF:P.follows .mixedOrders=ab)(hS:iv P U nn)(hC:eP P U)(hm:bW U)(hk:bK U):SB P U:=
 @Ke _ _ _ xX fF (λ_=>hS) (λ_=>hC) (λ_=>hm) (λ_=>hk)
end
section
variable{P:Program}{N ro m:Nat}{Z:Io}{w:World}{G:St}{e:Env}{a:Act}{F:Fence}{rd:Option Nat}{Q:Exit->Act->World->Prop}{fn:FuncId}{df:List Df}{cr:CR}
def gx(P:Program)(ro:Nat)(rd:Option Nat)(fn:FuncId)(c:Code)(e:Env)(df:List Df)(G:St)(cr:CR):Prop:=
 G.n<=cr.G.n/\∃m0,∀m,m0<=m->∀N,cr.G.n<=N->∀F Z a w Q,kf F rd Z->Inv N Z G w->cY Z e a.tmps->kY Z df a.defers->ur N ro Z w G cr Q->YX F P m c Q a w
def ly(P:Program)(ro:Nat)(f:FuncId)(args:List IV)(G:St)(v:IV)(au:St):Prop:=
 G.n<=au.n/\∀N,au.n<=N->∀Z us w,Inv N Z G w->aL Z args us->CallsIn awP 0 P f us.toArray w (zA N ro Z w G v au)
def uw(P:Program)(ro:Nat)(rd:Option Nat)(ops:Array Oper)(l:List Oper)(e:Env)(df:List Df)(G:St)(cr:CR):Prop:=
 G.n<=cr.G.n/\∀N,cr.G.n<=N->∀F Z a w Q k,ops.toList.drop k=l->kf F rd Z->Inv N Z G w->cY Z e a.tmps->kY Z df a.defers->ur N ro Z w G cr Q->
  wpOpsIn F 0 P ops Q (axN k l.length) a w
def gx.mk{c:Code}(hn:G.n<=cr.G.n)(hl:∀b,c≠.loop b)(h:∀N,cr.G.n<=N->∀F Z a w Q,kf F rd Z->Inv N Z G w->cY Z e a.tmps->kY Z df a.defers->ur N ro Z w G cr Q->c.wpIn F 0 P Q a w):gx P ro rd fn c e df G cr:=by
 refine⟨hn,0,λm _ N hN F Z a w Q hF hi he hd hQ=>?_⟩;have:=h N hN F Z a w Q hF hi he hd hQ;cases c<;>first|exact this|exact absurd rfl (hl _)
theorem gx.wp{c:Code}(h:gx P ro rd fn c e df G cr)(hN:cr.G.n<=N)(hF:kf F rd Z)(hi:Inv N Z G w)(he:cY Z e a.tmps)(hd:kY Z df a.defers)(hQ:ur N ro Z w G cr Q):c.wpIn F 0 P Q a w:=by
 obtain⟨_,m0,h⟩:=h;exact(h m0 (awe _) N hN F Z a w Q hF hi he hd hQ).wp
theorem gx.seq{x y:Code}{e1:Env}{tB:List Df}{av:St}(h:gx P ro rd fn x e df G ⟨.normal,e1,tB,av⟩)(k:gx P ro rd fn y e1 tB av cr):gx P ro rd fn (.seq x y) e df G cr:=by
 refine .mk (awy h.1 k.1) ay λN hN F Z a w Q hF hi he hd hQ=>wpIn_seq ?_;have dW:av.n<=N:=awy k.1 hN;refine h.wp dW hF hi he hd ?_;intro a1 w1 bO ft i1 l1 cM d1 p1;exact k.wp hN (hF.mono l1.ext) i1 cM d1 (hQ.from hi l1 dW)
theorem gx.cond{c:Operand}{x y:Code}{t:Bool}(hc:aB e c=.raw (.bool t))(h:gx P ro rd fn (if t then x else y) e df G cr):gx P ro rd fn (.cond c x y) e df G cr:=
 .mk h.1 ay λN hN F Z a w Q hF hi he hd hQ=>wpIn_cond (J8 hc (he.eval c)) (h.wp hN hF hi he hd hQ)
def gx.P2{id:Nat}{x:Code}(h:gx P ro rd fn x e df G cr)(hx:cr.ex≠.exit id):gx P ro rd fn (.block id x) e df G cr:=by
 refine .mk h.1 ay λN hN F Z a w Q hF hi he hd hQ=>wpIn_block (h.wp hN hF hi he hd ?_);intro a1 w1 bO ft i1 l1 cM d1 p1;have:=hQ a1 w1 bO ft i1 l1 cM d1 p1;cases hc:cr.ex with
 |exit bt=>
  have bg:bt≠id:=λh=>hx (by rw[hc,h]);rw[hc]at this;simp only[G3,aBt,if_neg bg];exact this
 |_=>rw[hc]at this;exact this
theorem gx.region{id:Nat}{ops:Array Oper}(h:uw P ro rd ops ops.toList e df G cr):gx P ro rd fn (.region id ops af) e df G cr:=by
 refine .mk h.1 ay λN hN F Z a w Q hF hi he hd hQ=>wpIn_region ?_;have:=h.2 N hN F Z a w Q 0 ay hF hi he hd hQ;rw[ay9];simpa using this
variable{ops:Array Oper}{o:Oper}{l:List Oper}
def uw.nil:uw P ro rd ops [] e df G ⟨.normal,e,df,G⟩:=
 ⟨awe _,λ_ _ _ Z a w _ _ _ _ hi he hd hQ=>hQ a w Z [] hi (Le.refl _ _ _ _) he hd trivial⟩
def uw.cons(hn:G.n<=cr.G.n)(hw:aX o ops e=ab)
 (h:∀N,cr.G.n<=N->∀F Z a w Q k,ops.toList.drop (k+1)=l->kf F rd Z->Inv N Z G w->cY Z e a.tmps->kY Z df a.defers->ur N ro Z w G cr Q->
  o.wpIn F 0 P a w (wpOpsIn F 0 P ops Q (axN (k+1) l.length)) Q):uw P ro rd ops (o::l) e df G cr:=by
 refine⟨hn,λN hN F Z a w Q k hl hF hi he hd hQ=>?_⟩
 have iW:ops.toList.drop (k+1)=l:=by
  rw[<-ayj (i:=1) (j:=k),hl];rfl
 have a_:ops[k]?=aa o:=by
  have:(ops.toList.drop k)[0]?=aa o:=by rw[hl];rfl
  simpa using this
 simp only[awJ,ayI];rw[wpOpsIn_cons];unfold wpOpIn;rw[a_];simp only;rw[uW he,if_pos hw];exact h N hN F Z a w Q k iW hF hi he hd hQ
theorem uw.val{v:IV}{av:St}(hw:aX o ops e=ab)(hv:aA P ro (aB e) o G=aa (.val v av))(h:uw P ro rd ops l (e.put o.dst v) df av cr):uw P ro rd ops (o::l) e df G cr:=by
 refine .cons (awy (mb hv) h.1) hw λN hN F Z a w Q k hl hF hi he hd hQ=>?_;have dW:av.n<=N:=awy h.1 hN;refine⟨λf _=>hF.fn f,?_⟩;rw[axW _ _ _ (iX hv ay)];obtain⟨u,w',aK,hr,h2,h3,h4⟩:=qv hi he.eval hv dW
 have key:wpOpsIn F 0 P ops Q (axN (k+1) l.length) (a.put o.dst u) w':=
  h.2 N hN F aK _ w' Q (k+1) hl (hF.mono h4.ext) h3 ((he.mono h4.ext).put h2 _) (hd.mono h4.ext|>λx=>by cases o.dst<;>exact x) (hQ.from hi h4 dW)
 rcases hr with hr|⟨hr,rfl⟩
 .rw[hr,ayZ];exact key
 .rw[hr,aAS];exact key
def uw.defer{d:Df}(hw:aX o ops e=ab)(hv:aA P ro (aB e) o G=aa (.WG d))(h:uw P ro ah ops l (e.put o.dst .undef) (d::df) G cr):uw P ro ah ops (o::l) e df G cr:=by
 refine .cons h.1 hw λN hN F Z a w Q k hl hF hi he hd hQ=>?_
 have hFe:F=awP:=by
  rcases hF with⟨_,h2⟩|⟨_,_,h2,_⟩
  .exact h2
  .cases h2
 refine⟨λf _=>hF.fn f,?_⟩;obtain⟨dd,hr,Jw,c,hc⟩:=qv hi he.eval hv;have ad2:(o.semAt F.round a.eval)=execOp a.eval o:=by rw[hFe];rfl
 rw[ad2,hr,aAF];refine h.2 N hN F Z _ w Q (k+1) hl hF hi ?_ ?_ hQ
 .cases ek:o.dst with
  |none=>exact he
  |some t=>exact he.set uo t
 .cases o.dst<;>exact⟨Jw,hd⟩
end
section
variable{P:Program}{N ro:Nat}{Z:Io}{w:World}{G:St}
inductive Pure:IV->Prop
 |raw (v:Value):Pure (.raw v)
 |agg (cs:List IV) (h:∀c∈cs,Pure c):Pure (.agg cs)
 |aF (cs:List IV) (h:∀c∈cs,Pure c):Pure (.aF cs)
 |emp:Pure .emp
 |dK (t:TypeId) (x:IV) (h:Pure x):Pure (.dK t x)
 |tree (s:Nat) (es:List IV) (h:∀e∈es,∀c∈cellsOf e,Pure c):Pure (.tree s es)
 |fn (f:Fn) (as bs:List IV) (h:∀c∈as,Pure c) (h2:∀c∈bs,Pure c):Pure (.fn f as bs)
abbrev iY(M:Fz):Io:=⟨λ_ _=>ah,M⟩
def Pure.rv{M:Fz}{x:IV}(hp:Pure x):∀{v:Value},Rv Z x v->(∀b c,Z.m b=aa c->M b=aa c)->Rv (iY M) x v:=by
 induction hp with
 |raw v=>intro u h _;cases h;exact .raw v
 |agg cs _ ih=>intro u h hM;cases h with|agg _ vs hl hh=>exact .agg cs vs hl λi c v h1 h2=>ih c (awq h1) (hh i c v h1 h2) hM
 |aF cs _ ih=>intro u h hM;cases h with|aF _ vs hl hh=>exact .aF cs vs hl λi c v h1 h2=>ih c (awq h1) (hh i c v h1 h2) hM
 |emp=>intro u h _;cases h;exact .emp _
 |dK t x _ ih=>intro u h hM;cases h with|dK _ _ v hh=>exact .dK t x v (ih hh hM)
 |tree s es _ ih=>
  intro u h hM;cases h with
  |tree _ _ b off c us hs hc bD hu hh=>exact .tree s es b off c us hs hc bD (λk hk=>EC hM (hu k hk)) λi e j c h1 h2=>ih e (awq h1) c (awq h2) (hh i e j c h1 h2) hM
  |eB _ a c hs hn=>exact .eB s a c hs hn
 |fn f as bs _ _ ih fL=>
  intro u h hM;cases h with
  |fn _ _ _ cs ds hl hh gg uY=>exact .fn f as bs cs ds hl (λi c v h1 h2=>ih c (awq h1) (hh i c v h1 h2) hM) gg (λi c v h1 h2=>fL c (awq h1) (uY i c v h1 h2) hM)
inductive Can(fr:Bool)(G:St):IV->IV->Prop
 |raw (v:Value):Can fr G (.raw v) (.raw v)
 |nil (s:Nat) (hs:0<s):Can fr G (.raw (.slice ah 0 0)) (.tree s [])
 |emp (s:Nat) (hs:0<s):Can fr G .emp (.tree s [])
 |dK (t:TypeId) (x y:IV) (h:Can fr G x y):Can fr G (.dK t x) (.dK t y)
 |agg (cs ds:List IV) (hl:cs.length=ds.length) (h:∀(i:Nat) c d,cs[i]?=aa c->ds[i]?=aa d->Can fr G c d):Can fr G (.agg cs) (.agg ds)
 |aF (cs ds:List IV) (hl:cs.length=ds.length) (h:∀(i:Nat) c d,cs[i]?=aa c->ds[i]?=aa d->Can fr G c d):Can fr G (.aF cs) (.aF ds)
 |pure (x:IV) (hf:fr=ab) (hp:Pure x):Can fr G x x
 |eB (s:Nat):Can fr G (.tree s []) (.tree s [])
 |sl (id off len:Nat) (cap:Option Nat) (ep s:Nat) (cs:List IV) (aD mn:Nat) (es:List IV) (aM:G.at id=aa (.cells cs aD mn)) (h1:mn<=ep) (h2:ep<=aD) (hl:es.length=len) (hb:off+len*s<=cs.length)
   (bD:∀e∈es,(cellsOf e).length=s) (h:∀(i:Nat) e (j:Nat) c d,es[i]?=aa e->(cellsOf e)[j]?=aa d->cs[off+i*s+j]?=aa c->Can fr G c d):Can fr G (.sl id off len cap ep s) (.tree s es)
theorem Can.rv{fr:Bool}{M:Fz}{x z:IV}(hi:Inv N Z G w)(hM:∀b c el,w.heap[b]?=aa (.cells c el (0,0))->(∃id,Own Z id b)->M b=aa c)(hm:fr=ab->∀b c,Z.m b=aa c->M b=aa c)
 (h:Can fr G x z):∀{u:Value},Rv Z x u->Rv (iY M) z u:=by
 induction h with
 |raw v=>intro u h;cases h;exact .raw v
 |nil s hs=>intro u h;cases h;exact .eB s ah 0 hs (λ_=>rfl)
 |emp s hs=>intro u h;cases h;exact .eB s _ 0 hs (λ_=>rfl)
 |dK t x y _ ih=>intro u h;cases h with|dK _ _ v hh=>exact .dK t y v (ih hh)
 |agg cs ds hl _ ih=>
  intro u h;cases h with
  |agg _ vs cz hh=>
   refine .agg ds vs (hl▸cz) λi d v h1 h2=>?_;have cw:i<cs.length:=by have:=(awa.1 h1).1;omega
   exact ih i _ d (av_ cw) h1 (hh i _ v (av_ cw) h2)
 |aF cs ds hl _ ih=>
  intro u h;cases h with
  |aF _ vs cz hh=>
   refine .aF ds vs (hl▸cz) λi d v h1 h2=>?_;have cw:i<cs.length:=by have:=(awa.1 h1).1;omega
   exact ih i _ d (av_ cw) h1 (hh i _ v (av_ cw) h2)
 |pure x hf hp=>intro u h;exact hp.rv h (hm hf)
 |eB s=>
  intro u h;cases h with
  |tree _ _ b off c us hs hc bD hu hh=>exact .eB s _ c hs ay
  |eB _ a c hs hn=>exact .eB s a c hs hn
 |sl id off len cap ep s cs aD mn es aM h1 h2 hl hb bD _ ih=>
  intro u h;cases h with
  |sl _ _ _ _ _ _ l c a cz hn kc hs hle jG ha=>
   obtain⟨⟨_,_⟩,_,Y2⟩:=hi.obj id _ aM;obtain⟨l',ca,el,gg,GP,aoh,avv,iR⟩:=Y2 ep h1 h2;rw[cz]at gg;cases gg;have hMb:M l.b=aa ca:=hM _ _ _ aoh ⟨id,ep,l,cz,rfl⟩;subst hl;by_cases he:es=[]
   .subst he;exact .eB s (aa a) c hs ay
   .have wW:0<es.length:=by cases es with|nil=>exact absurd rfl he|cons=>simp
    have LB:=ha aj;subst LB;refine .tree s es l.b off c (λk=>ca.getD (off+k) awT) hs hle bD (λk hk=>?_) (λi e j d dh wH=>?_)
    .obtain⟨x,hx⟩:∃x,cs[off+k]?=aa x:=⟨_,av_ aj⟩;obtain⟨v,hv,_⟩:=iR (off+k) x aj hx;show(M l.b).bind _=_;rw[hMb];simp[aw9,hv]
    .have cw:=(awa.1 dh).1;have nW:j<s:=by have:=(awa.1 wH).1;rw[bD e (awq dh)]at this;exact this
     have hmul:i*s+s<=es.length*s:=by
      have:(i+1)*s<=es.length*s:=Nat.mul_le_mul_right s cw;rw[Nat.add_mul]at this;omega
     obtain⟨x,hx⟩:∃x,cs[off+i*s+j]?=aa x:=⟨_,av_ aj⟩;obtain⟨v,hv,hr⟩:=iR (off+i*s+j) x aj hx;have:=ih i e j x d dh wH hx hr;simp only[aw9];rw[show off+(i*s+j)=off+i*s+j by omega,hv];exact this
def BO(M:Fz)(w:World):Prop:=∀b c,M b=aa c->∃e f,w.heap[b]?=aa (.cells c e f)
def BO.lt{M:Fz}(h:BO M w){b:Nat}{c:Array Value}(hb:M b=aa c):b<w.heap.size:=by
 obtain⟨e,f,hh⟩:=h b c hb;rcases Nat.lt_or_ge b w.heap.size with ak|Ax
 .exact ak
 .rw[ayA Ax]at hh;cases hh
def ND(new:Bool)(M:Fz)(w:World)(z:IV)(u:Value)(w':World):Prop:=
 ∃M',BO M' w'/\(∀b c,M' b=aa c->(new=af/\M b=aa c)\/w.heap.size<=b)/\(new=af->∀b c,M b=aa c->M' b=aa c)/\Rv (iY M') z u/\
  w'.os=w.os/\w'.tape=w.tape/\w'.output=w.output/\w.heap.size<=w'.heap.size/\∀b,b<w.heap.size->w'.heap[b]?=w.heap[b]?
def ar7(cd new:Bool)(M:Fz)(w:World)(z:IV):Ending->World->Prop
 |.returned u,w'=>cd=af/\ND new M w z u w'
 |.panicked ch,w'=>cd=ab/\∃u,ch=[{v:=u,recovered:=af}]/\ND new M w z u w'
 |.outgrown,_=>False
def eC(P:Program)(cd new:Bool)(f:FuncId)(xs:List IV)(z:IV):Prop:=
 ∀M w us,BO M w->aL (iY M) xs us->CallsIn awP 0 P f us.toArray w (ar7 cd new M w z)
def NF{M:Fz}(hM:BO M w):Inv N (iY M) ⟨0,.lf⟩ w:=
 ⟨hM,λ_ _ _ _ h=>(by obtain⟨_,_,h,_⟩:=h;cases h),λ_ _ h=>(by obtain⟨_,_,h,_⟩:=h;cases h),λ_ _ _ _=>rfl,λ_ _ _ h=>(by obtain⟨_,_,h,_⟩:=h;cases h),λ_ _ h=>(by cases h),λ_ _=>rfl⟩
def ux(new:Bool)(M:Fz)(w w':World):Fz:=λb=>
 if b<w.heap.size then(if new then ah else M b)else match w'.heap[b]? with
  |some (.cells c _ _)=>aa c
  |_=>ah
def W5{M:Fz}{new:Bool}{au:St}{v z:IV}{w':World}{u:Value}(hM:BO M w)(hc:Can (!new) au v z)(hu:Rv Z v u)(hi:Inv N Z au w')(hl:Le 0 (iY M) w ⟨0,.lf⟩ Z w' au):ND new M w z u w':=by
 have AI:∀b,b<w.heap.size->w'.heap[b]?=w.heap[b]? :=λb hb=>hl.frame b hb λid ho=>(by obtain⟨_,_,h,_⟩:=ho;cases h);refine⟨ux new M w w',?_,?_,?_,?_,hl.os,hl.tape,hl.output,hl.size,AI⟩
 .intro b c hb;unfold ux at hb;split at hb
  .rename_i ak;split at hb
   .cases hb
   .rw[AI b ak];exact hM b c hb
  .split at hb
   .rename_i c' e f hh;cases hb;exact⟨e,f,hh⟩
   .cases hb
 .intro b c hb;unfold ux at hb;split at hb
  .split at hb
   .cases hb
   .rename_i hn;exact .inl ⟨by simpa using hn,hb⟩
  .exact .inr aj
 .intro hn b c hb;have ak:=hM.lt hb;unfold ux;rw[if_pos ak,if_neg (by simp[hn])];exact hb
 .refine hc.rv hi ?_ ?_ hu
  .intro b c el hh ho;obtain⟨id,ho⟩:=ho;rcases hl.own id b ho with ho|Ax
   .obtain⟨_,_,h,_⟩:=ho;cases h
   .unfold ux;rw[if_neg aj,hh]
  .intro hn b c hb;have oX:new=af:=by simpa using hn
   rcases hl.yP b c hb with sH|Ax
   .have ak:=hM.lt sH;unfold ux;rw[if_pos ak,if_neg (by simp[oX])];exact sH
   .obtain⟨e,f,hh⟩:=hi.mem b c hb;unfold ux;rw[if_neg aj,hh]
def eC.of{new:Bool}{f:FuncId}{xs:List IV}{v z:IV}{au:St}(h:ly P 0 f xs ⟨0,.lf⟩ v au)(hc:Can (!new) au v z):eC P af new f xs z:=by
 intro M w us hM hr;refine(h.2 au.n (awe _) (iY M) us w (NF hM) hr).mono λe w' hR=>?_;cases e with
 |returned u=>
  obtain⟨aK,h1,h2,h3⟩:=hR;exact⟨rfl,W5 hM hc h1 h2 h3⟩
 |panicked ch=>exact hR.elim
 |outgrown=>exact hR.elim
def NG{M:Fz}{new:Bool}{z:IV}{u:Value}{w':World}(hi:Inv N Z G w)(hM:new=af->∀b c,Z.m b=aa c↔M b=aa c)(h:ND new M w z u w'):∃aK,Rv aK z u/\Inv N aK G w'/\Le ro Z w G aK w' G:=by
 obtain⟨M',h1,h2,h3,h4,h5,h6,h7,h8,h9⟩:=h;have hm:BO Z.m w:=hi.mem
 have hold:∀b c,Z.m b=aa c->(λb=>if b<w.heap.size then Z.m b else M' b) b=aa c:=by
  intro b c hb;simp only[if_pos (hm.lt hb)];exact hb
 have ar8:∀b c,M' b=aa c->(λb=>if b<w.heap.size then Z.m b else M' b) b=aa c:=by
  intro b c hb;by_cases ak:b<w.heap.size
  .simp only[if_pos ak];rcases h2 b c hb with⟨hn,sH⟩|Ax
   .exact(hM hn b c).2 sH
   .omega
  .simp only[if_neg ak];exact hb
 have iF:Ext Z ⟨Z.f,λb=>if b<w.heap.size then Z.m b else M' b⟩:=⟨λ_ _ _ h=>h,hold⟩;refine⟨⟨Z.f,λb=>if b<w.heap.size then Z.m b else M' b⟩,h4.mono ⟨λ_ _ _ h=>(by cases h),ar8⟩,⟨?_,?_,?_,hi.fresh,hi.inj,?_,hi.wf⟩,⟨iF,λ_ _ h=>.inl h,λ_ _ _ _=>rfl,λ_ h _=>h,λ_ _ _=>rfl,awe _,h5,h6,h7,h8,λb hb _=>h9 b hb,?_⟩⟩
 .intro b c hb;simp only at hb;split at hb
  .rename_i ak;obtain⟨e,f,hh⟩:=hi.mem b c hb;exact⟨e,f,by rw[h9 b ak];exact hh⟩
  .exact h1 b c hb
 .intro b c id hb ho;simp only at hb;split at hb
  .exact hi.sep b c id hb ho
  .rename_i Ax;exact Ax (hi.gE id b ho)
 .intro id b ho;exact axV (hi.gE id b ho) h8
 .intro id o ho;exact(hi.obj id o ho).vj iF (λ_=>rfl) λb hb=>h9 b (hi.gE id b hb)
 .intro b c hb;simp only at hb;split at hb
  .exact .inl hb
  .rename_i Ax;exact .inr aj
def NH(fr:Bool)(G:St)(cs ds:List IV):Prop:=cs.length=ds.length/\∀(i:Nat) c d,cs[i]?=aa c->ds[i]?=aa d->Can fr G c d
def allM(w:World):Fz:=λb=>match w.heap[b]? with
 |some (.cells c _ _)=>aa c
 |_=>ah
def W6{b:Nat}{c:Array Value}{e:TypeId}{f:Nat×Nat}(h:w.heap[b]?=aa (.cells c e f)):allM w b=aa c:=by unfold allM;rw[h]
def NI:BO (allM w) w:=by
 intro b c hb;unfold allM at hb;split at hb
 .rename_i hh;cases hb;exact⟨_,_,hh⟩
 .cases hb
theorem NH.rv{xs zs:List IV}{us:List Value}(hc:NH ab G xs zs)(hi:Inv N Z G w)(h:aL Z xs us):aL (iY (allM w)) zs us:=by
 refine⟨hc.1▸h.1,λi z u h1 h2=>?_⟩;have cw:i<xs.length:=by have:=(awa.1 h1).1;have:=hc.1;omega
 refine(hc.2 i _ z (av_ cw) h1).rv hi (λb c el hh _=>W6 hh) (λ_ b c hb=>?_) (h.2 i _ u (av_ cw) h2);obtain⟨e,f,hh⟩:=hi.mem b c hb;exact W6 hh
def eC.Rq{f:FuncId}{args xs:List IV}{z:IV}(h:eC P af ab f xs z)(hc:NH ab G args xs):ly P ro f args G z G:=by
 refine⟨awe _,λN hN Z us w hi hr=>?_⟩;refine(h (allM w) w us NI (hc.rv hi hr)).mono λe w' hR=>?_;cases e with
 |returned u=>exact NG hi (λhn=>by cases hn) hR.2
 |panicked ch=>exact absurd hR.1 ay
 |outgrown=>exact hR.elim
def dX(args:List IV)(n:Nat):Env:=args.zipIdx.foldl (λe (v,i)=>e.put (aa i) v) ⟨n,.lf⟩
section body
variable{S:Self}{f:FuncId}{fn:Func}{c:Code}{args:List IV}{e1:Env}{df:List Df}{av au:St}{ex:Ex}{v:IV}
def W7:eP P Self.none/\bK Self.none:=
 ⟨⟨λ_ _ _ _ _ _ _ h=>(by cases h),λ_ _ _ _ _ _ _ h=>(by cases h),λ_ _ _ _ _ _ _ _ h=>(by cases h),λ_ _ _ _ _ _ _ h=>(by cases h)⟩,⟨λ_ _ _ _ _ _ h=>(by cases h),λ_ _ _ _ _ _ h=>(by cases h),λ_ _ _ _ _ _ _ h=>(by cases h)⟩⟩
end body
end
end Go.Ev
namespace Go.Ev
namespace T
variable{α:Type}
inductive WF:T α->Prop
 |lf:WF .lf
 |nd (l:T α) (v:Option α) (r:T α) (hl:WF l) (hr:WF r) (h:v.isSome=ab\/(∃i,(l.get i).isSome=ab)\/∃i,(r.get i).isSome=ab):WF (.nd l v r)
def Kf(l:T α)(v:Option α)(r:T α)(i:Nat):(T.nd l v r).get (2*i+1)=l.get i:=by
 rw[xZ,if_neg aj,if_pos aj];congr 1;omega
def Hb(l:T α)(v:Option α)(r:T α)(i:Nat):(T.nd l v r).get (2*i+2)=r.get i:=by
 rw[xZ,if_neg aj,if_neg aj];congr 1;omega
def Kg(l:T α)(v:Option α)(r:T α):(T.nd l v r).get 0=v:=by rw[xZ,if_pos rfl]
def WF.key{l:T α}{v:Option α}{r:T α}(h:WF (.nd l v r)):∃i,((T.nd l v r).get i).isSome=ab:=by
 cases h with
 |nd _ _ _ _ _ h=>
  rcases h with h|⟨i,h⟩|⟨i,h⟩
  .exact⟨0,by rw[Kg];exact h⟩
  .exact⟨2*i+1,by rw[Kf];exact h⟩
  .exact⟨2*i+2,by rw[Hb];exact h⟩
theorem WF.ext:∀{t t':T α},WF t->WF t'->(∀i,t.get i=t'.get i)->t=t'
 |.lf,.lf,_,_,_=>rfl
 |.lf,.nd l v r,_,h',he=>by
  obtain⟨i,hi⟩:=h'.key;rw[<-he i]at hi;cases hi
 |.nd l v r,.lf,h,_,he=>by
  obtain⟨i,hi⟩:=h.key;rw[he i]at hi;cases hi
 |.nd l v r,.nd l' v' r',.nd _ _ _ hl hr _,.nd _ _ _ cz qt _,he=>by
  have e0:v=v':=by have:=he 0;rwa[Kg,Kg]at this
  have e1:l=l':=hl.ext cz λi=>by have:=he (2*i+1);rwa[Kf,Kf]at this
  have e2:r=r':=hr.ext qt λi=>by have:=he (2*i+2);rwa[Hb,Hb]at this
  rw[e0,e1,e2]
def aib:∀(f:Nat) (t:T α) (i:Nat) (x:α),i<f->WF t->WF (sX f t i x):=by
 intro f;induction f with
 |zero=>intro t i x h;omega
 |succ f ih=>
  intro t i x h hw
  have key:∀(l:T α) (v:Option α) (r:T α),WF l->WF r->WF (sX (f+1) (.nd l v r) i x):=by
   intro l v r hl hr;rw[WK];by_cases hi:i=0
   .rw[if_pos hi];exact .nd _ _ _ hl hr (.inl rfl)
   .rw[if_neg hi];by_cases ho:i % 2=1
    .rw[if_pos ho];exact .nd _ _ _ (ih _ _ _ aj hl) hr (.inr (.inl ⟨i/2,by rw[J3 _ _ _ _ _ aj,if_pos rfl];rfl⟩))
    .rw[if_neg ho];exact .nd _ _ _ hl (ih _ _ _ aj hr) (.inr (.inr ⟨i/2- 1,by rw[J3 _ _ _ _ _ aj,if_pos rfl];rfl⟩))
  cases t with
  |lf=>rw[WL];exact key _ _ _ .lf .lf
  |nd l v r=>cases hw with|nd _ _ _ hl hr _=>exact key l v r hl hr
theorem WF.set{t:T α}(h:WF t)(i:Nat)(x:α):WF (t.set i x):=aib _ _ _ _ aj h
end T
variable{P:Program}{ro:Nat}{G:St}{ρ:Operand->IV}{o:Oper}{out:gv}
def JB(G:St):gv->Prop
 |.val _ au=>G.t.WF->au.t.WF
 |_=>True
def DV{v:IV}{au:St}(hle:G.t.WF->au.t.WF)(h:ret v au=aa out):JB G out:=by rw[aY h];exact hle
def W8{v:IV}(h:ret v G=aa out):JB G out:=DV (λh=>h) h
def abn{v:IV}{id:Nat}{ob:Ob}(h:ret v (G.put id ob)=aa out):JB G out:=DV (au:=G.put id ob) (λh=>h.set _ _) h
def aic{v:IV}{id bt:Nat}{ob fp:Ob}(h:ret v ((G.put id ob).put bt fp)=aa out):JB G out:=DV (au:=(G.put id ob).put bt fp) (λh=>(h.set _ _).set _ _) h
def abo{v:IV}{ob:Ob}(h:ret v (G.add ob)=aa out):JB G out:=DV (λh=>h.set _ _) h
def P3{kt:TypeId}{m k v:IV}{au:St}(h:pK P ro kt m k v G=aa au):G.t.WF->au.t.WF:=by
 unfold pK at h
 repeat' split at h
 all_goals first|(cases h;done)|(cases h;exactλh=>h.set _ _)
def abp{f:IV}{args:List IV}(h:gV P f args=aa out):JB G out:=by
 unfold gV at h
 repeat' split at h
 all_goals first|(cases h;done)|(cases h;exact trivial)
def abq{argTypes:Array TypeId}{s x:IV}(h:l6 P ro argTypes s x G=aa out):JB G out:=by
 have hn:∀{size bj n:Nat} {new:List IV} {s:IV},gb size bj n new s G=aa out->JB G out:=by
  intro size bj n new s h;unfold gb at h;split at h
  .split at h
   .exact abo h
   .cases h
  .cases h
 unfold l6 at h;split at h
 .split at h
  .split at h
   .split at h
    .cases h
    .split at h
     .split at h
      .unfold fj at h
       repeat' split at h
       all_goals first|exact W8 h|exact abn h|exact aic h|exact hn h|cases h
      .cases h
     .cases h
   .cases h
  .cases h
 .cases h
def Y3{b:Builtin}{argTypes:Array TypeId}{args:List IV}(h:fk P ro b argTypes args G=aa out):JB G out:=by
 unfold fk at h;split at h
 .split at h
  .exact abq h
  .cases h
 .split at h
  .rw[awj]at h;obtain⟨z,_,rfl⟩:=h;exactλh=>h
  .cases h
 .split at h
  .rw[awj]at h;obtain⟨z,_,rfl⟩:=h;exactλh=>h
  .cases h
 .rw[awj]at h;obtain⟨z,_,rfl⟩:=h;exactλh=>h
 .cases h
def aj7(h:aA P ro ρ o G=aa out):JB G out:=by
 unfold aA at h;cases ho:o.op<;>rw[ho]at h<;>(try dsimp only at h)
 case call c=>
  split at h
  .exact Y3 h
  .exact abp h
  .cases h
 case defer c=>
  split at h
  .split at h
   .cases h;exact trivial
   .cases h
  .cases h
 case mapUpdate=>
  split at h
  .split at h
   .rename_i au hs;exact DV (P3 hs) h
   .cases h
  .cases h
 case insert=>
  split at h
  .split at h
   .rename_i au hs;exact DV (P3 hs) h
   .cases h
  .cases h
 all_goals (repeat' split at h)
 all_goals first|exact W8 h|exact abn h|exact abo h|(cases h;done)|(cases h;exact trivial)
def Y4{v:IV}{au:St}(h:aA P ro ρ o G=aa (.val v au))(hw:G.t.WF):au.t.WF:=aj7 h hw
def BP{v:IV}{av:St}(hk:cN o=.pure)(h:aA P ro ρ o G=aa (.val v av)):av=G/\∀gl au,aA P gl ρ o au=aa (.val v au):=by
 unfold cN at hk;unfold aA at h⊢;cases ho:o.op<;>rw[ho]at h hk<;>(try dsimp only at h hk⊢)<;>(try (cases hk;done))
 case call c=>
  obtain⟨callee,argTypes,args⟩:=c;cases callee with
  |builtin b=>
   cases b<;>simp only at hk<;>(try (cases hk;done))
   all_goals
    simp only[fk]at h⊢
    first
    |(cases h;done)
    |(rw[awj]at h
      obtain⟨z,hz,he⟩:=h;cases he;exact⟨rfl,λ_ _=>by rw[hz];rfl⟩)
    |(split at h
      .rename_i hx;rw[awj]at h;obtain⟨z,hz,he⟩:=h;cases he;exact⟨rfl,λ_ _=>by rw[hz];rfl⟩
      .cases h)
  |value f=>cases hk
  |invoke r m=>cases hk
 all_goals (repeat' split at h)
 all_goals first
  |(cases h;done)
  |(cases h;exact⟨rfl,λ_ _=>by simp_all[ret]⟩)
def BQ{v:IV}{av:St}(hk:cN o=.load)(h:aA P ro ρ o G=aa (.val v av)):av=G/\∀gl,aA P gl ρ o G=aa (.val v G):=by
 unfold cN at hk;unfold aA at h⊢;cases ho:o.op<;>rw[ho]at h hk<;>(try dsimp only at h hk⊢)<;>(try (cases hk;done))
 case call c=>
  obtain⟨callee,argTypes,args⟩:=c;cases callee with
  |builtin b=>
   cases b<;>simp only at hk<;>(try (cases hk;done));simp only[fk]at h⊢;split at h
   .rename_i hx;rw[awj]at h;obtain⟨z,hz,he⟩:=h;cases he;exact⟨rfl,λ_=>by rw[hz];rfl⟩
   .cases h
  |value f=>cases hk
  |invoke r m=>cases hk
 all_goals (repeat' split at h)
 all_goals first
  |(cases h;done)
  |(cases h;exact⟨rfl,λ_=>by simp_all[ret]⟩)
def aj8(G:St)(ob:Ob):(St.add ⟨G.n,.lf⟩ ob)=⟨(G.add ob).n,T.lf.set G.n ob⟩:=rfl
def LQ{v:IV}{av:St}(hk:cN o=.alloc)(h:aA P ro ρ o G=aa (.val v av)):
 ∃t,(∀gl,aA P gl ρ o ⟨G.n,.lf⟩=aa (.val v ⟨av.n,t⟩))/\((av=G/\t=.lf)\/∃ob,av=G.add ob/\t=T.lf.set G.n ob):=by
 unfold cN at hk;unfold aA at h⊢;cases ho:o.op<;>rw[ho]at h hk<;>(try dsimp only at h hk⊢)<;>(try (cases hk;done))
 case call c=>
  obtain⟨callee,argTypes,args⟩:=c;cases callee with
  |builtin b=>cases b<;>cases hk
  |value f=>cases hk
  |invoke r m=>cases hk
 all_goals (repeat' split at h)
 all_goals first
  |(cases h;done)
  |(cases h;exact⟨_,λ_=>by simp_all[ret,aj8],.inr ⟨_,rfl,rfl⟩⟩)
  |(cases h;exact⟨_,λ_=>by simp_all[ret],.inl ⟨rfl,rfl⟩⟩)
def AJ{b:Builtin}{argTypes:Array TypeId}{args:List IV}{f:FuncId}{as:List IV}(h:fk P ro b argTypes args G=aa (.enter f as)):False:=by
 unfold fk at h;split at h
 .split at h
  .obtain⟨_,_,he⟩:=Jt h;cases he
  .cases h
 .split at h
  .rw[awj]at h;obtain⟨z,_,he⟩:=h;cases he
  .cases h
 .split at h
  .rw[awj]at h;obtain⟨z,_,he⟩:=h;cases he
  .cases h
 .rw[awj]at h;obtain⟨z,_,he⟩:=h;cases he
 .cases h
def ES{f:FuncId}{args:List IV}(h:aA P ro ρ o G=aa (.enter f args)):∀gl au,aA P gl ρ o au=aa (.enter f args):=by
 intro gl au;unfold aA at h⊢;cases ho:o.op<;>rw[ho]at h<;>(try dsimp only at h⊢)
 case call c=>
  split at h
  .exact(AJ h).elim
  .exact h
  .cases h
 case defer c=>
  split at h
  .split at h<;>cases h
  .cases h
 all_goals (repeat' split at h)
 all_goals cases h
open Classical in
@[reducible] noncomputable def aj9:Sm:=⟨λu v=>decide (u=v),λ_ _ h=>of_decide_eq_true h⟩
attribute [local instance] aj9
open Classical in
noncomputable def s7(R:Option Nat)(f:FuncId)(args:List IV)(G:St)(v:IV)(av:St):Self where
 code:=λ_ _ _ _ _ _ _=>ah
 call:=λgl f' a' au=>if(R=ah\/R=aa gl)/\f'=f/\a'=args/\au=G then aa (v,av)else ah
 cd:=λ_ _ _ _=>ah
 zd:=λ_ _ _ _ _=>ah
def mZ(P:Program)(U:Self):Prop:=iv P U 0/\eP P U/\bW U/\bK U
def p_:mZ P Self.none:=
 ⟨λ_ _ _ _ _ _ _ _ _ h=>(by cases h),(W7 (P:=P)).1,λ_ _ _ _ _ _ _ _ h=>(by cases h),(W7 (P:=P)).2⟩
def P4{R:Option Nat}{f:FuncId}{args:List IV}{G:St}{v:IV}{av:St}(h:∀ro,(R=ah\/R=aa ro)->ly P ro f args G v av){gl:Nat}{f':FuncId}{a':List IV}{au:St}{v':IV}{cK:St}
 (hc:(s7 R f args G v av).call gl f' a' au=aa (v',cK)):ly P gl f' a' au v' cK:=by
 simp only[s7]at hc;split at hc
 .rename_i hh;cases hc;obtain⟨h1,rfl,rfl,rfl⟩:=hh;exact h _ h1
 .cases hc
def vy{R:Option Nat}{f:FuncId}{args:List IV}{G:St}{v:IV}{av:St}(h:∀ro,(R=ah\/R=aa ro)->ly P ro f args G v av):mZ P (s7 R f args G v av):=
 ⟨λ_ _ _ _ _ _ _ _ _ h=>(by cases h),⟨λN _ _ _ _ _ _ hc hN=>(P4 h hc).2 N hN,λ_ _ _ _ _ _ _ h=>(by cases h),λ_ _ _ _ _ _ _ _ h=>(by cases h),λ_ _ _ _ _ _ _ h=>(by cases h)⟩,
  λ_ _ _ _ _ _ _ _ h=>(by cases h),⟨λ_ _ _ _ _ _ hc=>(P4 h hc).1,λ_ _ _ _ _ _ h=>(by cases h),λ_ _ _ _ _ _ _ h=>(by cases h)⟩⟩
def DW(o:Oper):Bool:=
 match o.op with
 |.call {callee:=.value _,.. }=>ab
 |_=>af
def zC(ops:Array Oper)(pl:eh):Bool:=
 ops.toList.zipIdx.all λ(o,j)=>
  (match pl.kinds.getD j .effect with
   |.call=>DW o&&cN o==.call
   |.effect=>ab
   |k=>cN o==k)&&
  (pl.kinds.getD j .effect==.pure||ops.toList.zipIdx.all λ(_,i)=> !aw6 i j||awC (pl.cg.getD j 0) i||
   (match pl.kinds.getD i .effect with
    |.alloc|.effect=>af
    |.load=> !(pl.kinds.getD j .effect==.effect)
    |_=>ab))
inductive gm(P:Program)(ro:Nat)(ops:Array Oper)(pl:eh)(fr:Bool):List (Oper×Nat)->Env->St->Env->St->Prop
 |nil (e:Env) (G:St):gm P ro ops pl fr [] e G e G
 |skip {o:Oper} {j:Nat} {l:List (Oper×Nat)} {e:Env} {G:St} {e':Env} {au:St} (hw:aX o ops e=af) (h:gm P ro ops pl fr l (e.put o.dst .undef) G e' au):gm P ro ops pl fr ((o,j)::l) e G e' au
 |val {o:Oper} {j:Nat} {l:List (Oper×Nat)} {e:Env} {G:St} {e':Env} {au:St} {v:IV} {av:St} (hw:aX o ops e=ab) (hv:aA P ro (aB e) o G=aa (.val v av)) (h:gm P ro ops pl fr l (e.put o.dst v) av e' au):gm P ro ops pl fr ((o,j)::l) e G e' au
 |Rr {o:Oper} {j:Nat} {l:List (Oper×Nat)} {e:Env} {G:St} {e':Env} {au:St} {f:FuncId} {args:List IV} {v:IV} (hw:aX o ops e=ab) (hv:aA P ro (aB e) o G=aa (.enter f args)) (hc:∀ro,ly P ro f args G v G)
   (h:gm P ro ops pl fr l (e.put o.dst v) G e' au):gm P ro ops pl fr ((o,j)::l) e G e' au
 |call {o:Oper} {j:Nat} {l:List (Oper×Nat)} {e:Env} {G:St} {e':Env} {au:St} {f:FuncId} {args:List IV} {v:IV} {av:St} (hk:bo pl j=.effect) (hw:aX o ops e=ab) (hv:aA P ro (aB e) o G=aa (.enter f args))
   (hc:ly P ro f args G v av) (k_:G.t.WF->av.t.WF) (h:gm P ro ops pl fr l (e.put o.dst v) av e' au):gm P ro ops pl fr ((o,j)::l) e G e' au
 |Y5 {o:Oper} {j:Nat} {l:List (Oper×Nat)} {e:Env} {G:St} {e':Env} {au:St} {f:FuncId} {args:List IV} {v:IV} {ob:Ob} (hq:fr=ab) (hw:aX o ops e=ab) (hv:aA P ro (aB e) o G=aa (.enter f args))
   (hc:∀ro,ly P ro f args G v (G.add ob)) (h:gm P ro ops pl fr l (e.put o.dst v) (G.add ob) e' au):gm P ro ops pl fr ((o,j)::l) e G e' au
def ET{ops:Array Oper}{pl:eh}(h:zC ops pl=ab){o:Oper}{j:Nat}(ho:(o,j)∈ops.toList.zipIdx):
 (bo pl j≠.call->bo pl j≠.effect->cN o=bo pl j)/\(bo pl j=.call->DW o=ab)/\
 (bo pl j≠.pure->∀p i,(p,i)∈ops.toList.zipIdx->i<j->(bo pl i=.alloc\/bo pl i=.effect\/(bo pl i=.load/\bo pl j=.effect))->awC (pl.cg.getD j 0) i=ab):=by
 unfold zC at h;have h1:=awt.1 h (o,j) ho;simp only[awb,awO]at h1;obtain⟨h1,h2⟩:=h1;refine⟨λhc he=>?_,λhc=>?_,λhp p i hi ak hk=>?_⟩
 .unfold bo at hc he⊢;cases hk:pl.kinds.getD j .effect<;>rw[hk]at h1 hc he<;>first|exact absurd rfl hc|exact absurd rfl he|simpa using h1
 .unfold bo at hc;rw[hc]at h1;simp only[awb]at h1;exact h1.1
 .rcases h2 with h2|h2
  .exact absurd (by simpa[bo]using h2) hp
  .have h3:=awt.1 h2 (p,i) hi;simp only[awO]at h3;rcases h3 with(h3|h3)|h3
   .rw[awX,<-Bool.not_eq_true,aAa]at h3;exact absurd ak h3
   .exact h3
   .unfold bo at hk;rcases hk with hk|hk|⟨hk,cH⟩
    .rw[hk]at h3;cases h3
    .rw[hk]at h3;cases h3
    .rw[hk,cH]at h3;simp at h3
def mc(b:T Ob)(p:Piece)(h:p.hi<=p.lo):dJ b p=b:=by
 unfold dJ;rw[show p.hi- p.lo=0 by omega];rfl
def zD{b:T Ob}(h:b.WF)(p:Piece):(dJ b p).WF:=by
 unfold dJ;generalize axN p.lo (p.hi- p.lo)=l;induction l generalizing b with
 |nil=>exact h
 |cons id l ih=>
  simp only[awW];refine ih ?_;split
  .exact h.set _ _
  .exact h
theorem me:∀(l:List Piece) {b:T Ob},b.WF->(l.foldl dJ b).WF
 |[],_,h=>h
 |p::l,_,h=>me l (zD h p)
theorem vz{f:Piece->Bool}:∀(l:List Piece) (b:T Ob),(∀p∈l,f p=ab\/p.hi<=p.lo)->(l.filter f).foldl dJ b=l.foldl dJ b
 |[],_,_=>rfl
 |p::l,b,h=>by
  have ht:=λq hq=>h q (awI _ hq);rw[aAT];by_cases hf:f p=ab
  .rw[if_pos hf];exact vz l _ ht
  .rw[if_neg hf,awW,mc b p ((h p (ayx ..)).resolve_left hf)];exact vz l b ht
theorem BR{f:Piece->Bool}:∀(l:List Piece) (b:T Ob),(∀p∈l,f p=ab->p.hi<=p.lo)->(l.filter f).foldl dJ b=b
 |[],_,_=>rfl
 |p::l,b,h=>by
  have ht:=λq hq=>h q (awI _ hq);rw[aAT];by_cases hf:f p=ab
  .rw[if_pos hf,awW,mc b p (h p (ayx ..) hf)];exact BR l b ht
  .rw[if_neg hf];exact BR l b ht
theorem BS{n:Nat}{ob:Ob}:∀(l:List Piece) (b1 b2:T Ob),(∀p∈l,p.hi<=n)->(∀id,b1.get id=(b2.set n ob).get id)->∀id,(l.foldl dJ b1).get id=((l.foldl dJ b2).set n ob).get id
 |[],b1,b2,_,h,id=>h id
 |p::l,b1,b2,hp,h,id=>by
  simp only[awW];refine BS l _ _ (λq hq=>hp q (awI _ hq)) (λid=>?_) id;have hpn:=hp p (ayx ..);rw[lT,T.gX,lT,h id,T.gX];by_cases hn:n=id
  .subst hn;simp only[if_true];rw[if_neg aj]
  .simp only[if_neg hn]
structure AK(pl:eh)(j:Nat)(d:DS)(e:Env)(G:St):Prop where
 e:d.e=e
 n:d.n=G.n
 bs:∃i b rest,d.bs=(i,b)::rest/\(rest=[]\/(i<j/\bo pl i=.effect))/\d.aS.foldl dJ b=G.t/\b.WF
 aS:∀p∈d.aS,(p.hi<=p.lo\/(p.j<j/\bo pl p.j=.alloc))/\p.hi<=d.n
def NJ{ops:Array Oper}{pl:eh}{d:DS}{e:Env}{G:St}{j:Nat}{b:T Ob}(hs:AK pl j d e G)(dL:d.aS.foldl dJ b=G.t)
 (jH:∀i,i<j->(bo pl i=.alloc\/bo pl i=.effect)->awC (pl.cg.getD j 0) i=ab):seen d.aS (pl.cg.getD j 0) b=G.t:=by
 unfold seen;rw[vz _ _ λp hp=>?_,dL];rcases(hs.aS p hp).1 with h|⟨h1,h2⟩
 .exact .inr h
 .exact .inl (jH _ h1 (.inl h2))
def Gu{v:IV}{av:St}(h:DW o=ab)(hv:aA P ro ρ o G=aa (.val v av)):False:=by
 unfold DW at h;split at h
 .rename_i f a b ew;unfold aA at hv;rw[ew]at hv;dsimp only at hv;unfold gV at hv
  repeat' split at hv
  all_goals cases hv
 .cases h
def r7{f:FuncId}{args:List IV}(h:aA P ro ρ o G=aa (.enter f args)):cN o=.call\/cN o=.effect:=by
 unfold aA at h;unfold cN;cases ho:o.op<;>rw[ho]at h<;>(try dsimp only at h⊢)
 case call c=>
  obtain⟨callee,argTypes,args⟩:=c;cases callee with
  |builtin b=>exact(AJ h).elim
  |value f=>exact .inl rfl
  |invoke r m=>exact .inr rfl
 case defer c=>
  split at h
  .split at h<;>cases h
  .cases h
 all_goals (repeat' split at h)
 all_goals cases h
def Kh{U:Self}{ops:Array Oper}{pl:eh}{o:Oper}{j:Nat}{d:DS}{e:Env}{G av:St}{v:IV}(hs:AK pl j d e G)(hk:bo pl j=.effect)(hw:aX o ops e=ab)
 (iD:∀p i,(p,i)∈ops.toList.zipIdx.take j->(p,i)∈ops.toList.zipIdx/\i<j)
 (jH:∀i,i<j->(bo pl i=.alloc\/bo pl i=.effect\/(bo pl i=.load/\bo pl j=.effect))->awC (pl.cg.getD j 0) i=ab)
 (hx:kH P U ro e o G=aa (v,av))(k_:av.t.WF)(hn:G.n<=av.n):∃d1,bV P U pl ro ops o j d=aa d1/\AK pl (j+1) d1 (e.put o.dst v) av:=by
 obtain⟨i,b,rest,cB,dv,dL,kK⟩:=hs.bs;have om:=NJ (ops:=ops) hs dL λi hi h=>jH i hi (h.imp id .inl);have cy:(⟨d.n,seen d.aS (pl.cg.getD j 0) b⟩:St)=G:=by rw[om,hs.n]
 refine⟨⟨e.put o.dst v,av.n,(j,av.t)::d.bs,d.aS.filter λp=> !awC (pl.cg.getD j 0) p.j⟩,?_,⟨rfl,rfl,⟨j,av.t,d.bs,rfl,.inr ⟨by omega,hk⟩,?_,k_⟩,λp hp=>?_⟩⟩
 .unfold bV;rw[cB];simp only;rw[hs.e,hw,if_pos rfl];have cH:pl.kinds.getD j .effect=.effect:=hk;rw[cH];simp only;rw[cy,hx];simp only;rw[if_pos];unfold recheck;rw[awt];rintro⟨p,q⟩ AL;obtain⟨h5,h6⟩:=iD p q AL;simp only;split
  .rename_i u5;rw[jH q h6 (.inr (.inr ⟨u5,hk⟩))];rfl
  .rfl
 .refine BR _ _ λp hp hf=>?_;rcases(hs.aS p hp).1 with h|⟨h1,h2⟩
  .exact h
  .rw[jH _ h1 (.inl h2)]at hf;cases hf
 .have vl:=(aw7.1 hp).1;obtain⟨h1,h2⟩:=hs.aS p vl;exact⟨h1.imp id (λh=>⟨by omega,h.2⟩),by rw[hs.n]at h2;exact awy h2 hn⟩
theorem Gv{SF q8:Nat->Self}{pl:eh}{ops:Array Oper}:∀{l:List (Oper×Nat)} {d:DS},(∀o i,(o,i)∈l->SF i=q8 i)->jF P SF pl ro ops l d=jF P q8 pl ro ops l d
 |[],_,_=>rfl
 |(o,j)::l,d,h=>by
  unfold jF;rw[h o j (ayx ..)];split
  .exact Gv λo' i hi=>h o' i (awI _ hi)
  .rfl
def m4{U:Self}{pl:eh}{ops:Array Oper}{o:Oper}{j:Nat}{l:List (Oper×Nat)}{d d1 d':DS}{SF:Nat->Self}(hU:mZ P U)(hS:∀i,mZ P (SF i))(h1:bV P U pl ro ops o j d=aa d1)
 (h3:jF P SF pl ro ops l d1=aa d')(hl:∀o' i,(o',i)∈l->i≠j):∃q8,(∀i,mZ P (q8 i))/\jF P q8 pl ro ops ((o,j)::l) d=aa d':=by
 refine⟨λi=>if i=j then U else SF i,λi=>?_,?_⟩
 .by_cases hi:i=j
  .simp only[if_pos hi];exact hU
  .simp only[if_neg hi];exact hS i
 .unfold jF;simp only[if_true];rw[h1];simp only;rw[<-h3];exact Gv λo' i hi=>by simp only[if_neg (hl o' i hi)]
def P5{ops:Array Oper}{pl:eh}(a_:zC ops pl=ab){l:List (Oper×Nat)}{e e':Env}{G au:St}(h:gm P ro ops pl af l e G e' au):
 ∀(k:Nat) (d:DS),ops.toList.zipIdx.drop k=l->AK pl k d e G->∃SF:Nat->Self,(∀i,mZ P (SF i))/\∃d',jF P SF pl ro ops l d=aa d'/\d'.e=e'/\d'.n=au.n/\∃i b rest,d'.bs=(i,b)::rest/\d'.aS.foldl dJ b=au.t:=by
 have dD:∀{o:Oper} {j:Nat} {l:List (Oper×Nat)} {k:Nat},ops.toList.zipIdx.drop k=(o,j)::l->(o,j)∈ops.toList.zipIdx/\j=k/\ops.toList.zipIdx.drop (k+1)=l/\
  (∀p i,(p,i)∈ops.toList.zipIdx.take j->(p,i)∈ops.toList.zipIdx/\i<j)/\(∀i,i<j->∃p,(p,i)∈ops.toList.zipIdx)/\∀o' i,(o',i)∈l->i≠j:=by
  intro o j l k h;have h1:(ops.toList.zipIdx.drop k)[0]?=aa (o,j):=by rw[h];rfl
  rw[List.getElem?_drop,Nat.add_zero]at h1;have h2:=awq h1;have ak:=(awa.1 h1).1;rw[aza]at h1
  have hj:j=k:=by
   cases hk:ops.toList[k]? with
   |none=>rw[hk]at h1;cases h1
   |some o'=>rw[hk]at h1;simp at h1;omega
  have AF:ops.toList.zipIdx.drop (k+1)=l:=by rw[<-ayj (i:=1) (j:=k),h];rfl
  refine⟨h2,hj,AF,λp i hp=>⟨List.mem_of_mem_take hp,?_⟩,λi hi=>?_,λo' i hi=>?_⟩
  .obtain⟨m,hm,he⟩:=azq hp;rw[List.length_take]at hm;rw[List.getElem_take,azr]at he;cases he;omega
  .rw[List.length_zipIdx]at ak;refine⟨ops.toList[i],awq (i:=i) ?_⟩;rw[aza,av_ aj];simp
  .rw[<-AF]at hi;obtain⟨m,hm,he⟩:=azq hi;rw[List.getElem_drop,azr]at he;cases he;omega
 induction h with
 |nil e G=>
  intro k d _ hs;obtain⟨i,b,rest,h1,_,h3,_⟩:=hs.bs;exact⟨λ_=>Self.none,λ_=>p_,d,rfl,hs.e,hs.n,i,b,rest,h1,h3⟩
 | @skip o j l e G e' au hw h ih=>
   intro k d hl hs;obtain⟨hm,rfl,hd,iD,bS,ak⟩:=dD hl;obtain⟨gG,g_,jH⟩:=ET a_ hm;obtain⟨i,b,rest,cB,dv,dL,kK⟩:=hs.bs;have jI:∀p∈d.aS,(p.hi<=p.lo\/(p.j<j+1/\bo pl p.j=.alloc))/\p.hi<=d.n:=λp hp=>⟨(hs.aS p hp).1.imp id (λh=>⟨by omega,h.2⟩),(hs.aS p hp).2⟩
   have key:∃U,mZ P U/\∃d1,bV P U pl ro ops o j d=aa d1/\AK pl (j+1) d1 (e.put o.dst .undef) G:=by
    refine⟨Self.none,p_,?_⟩;by_cases hk:bo pl j=.effect
    .refine⟨⟨d.e.put o.dst .undef,d.n,(j,b)::d.bs,d.aS⟩,?_,⟨by rw[hs.e],hs.n,⟨j,b,d.bs,rfl,.inr ⟨by omega,hk⟩,dL,kK⟩,jI⟩⟩;unfold bV;rw[cB];simp only;rw[hs.e,hw,if_neg ay];have cH:pl.kinds.getD j .effect=.effect:=hk;rw[cH];simp only;rw[if_pos];unfold recheck;rw[awt];rintro⟨p,q⟩ AL;obtain⟨h5,h6⟩:=iD p q AL;simp only;split
     .rename_i u5;rw[jH (by rw[hk];simp) p q h5 h6 (.inr (.inr ⟨u5,hk⟩))];rfl
     .rfl
    .refine⟨{d with e:=d.e.put o.dst .undef},?_,⟨by rw[hs.e],hs.n,⟨i,b,rest,cB,dv.imp id (λh=>⟨by omega,h.2⟩),dL,kK⟩,jI⟩⟩;unfold bV;rw[cB];simp only;rw[hs.e,hw,if_neg ay];have cH:pl.kinds.getD j .effect≠.effect:=hk;cases hq:pl.kinds.getD j .effect<;>first|exact absurd hq cH|simp only
   obtain⟨U,hU,d1,h1,h2⟩:=key;obtain⟨SF,iz,d',h3,h4⟩:=ih (j+1) d1 hd h2;obtain⟨q8,h5,h6⟩:=m4 hU iz h1 h3 ak;exact⟨q8,h5,d',h6,h4⟩
 | @val o j l e G e' au v av hw hv h ih=>
   intro k d hl hs;obtain⟨hm,rfl,hd,iD,bS,ak⟩:=dD hl;obtain⟨gG,g_,jH⟩:=ET a_ hm;obtain⟨i,b,rest,cB,dv,dL,kK⟩:=hs.bs;have q9:G.t.WF:=dL▸me _ kK;have jI:∀p∈d.aS,(p.hi<=p.lo\/(p.j<j+1/\bo pl p.j=.alloc))/\p.hi<=d.n:=λp hp=>⟨(hs.aS p hp).1.imp id (λh=>⟨by omega,h.2⟩),(hs.aS p hp).2⟩
   have BU:bo pl j≠.pure->∀i,i<j->(bo pl i=.alloc\/bo pl i=.effect\/(bo pl i=.load/\bo pl j=.effect))->awC (pl.cg.getD j 0) i=ab:=by
    intro hp i hi hk;obtain⟨p,DX⟩:=bS i hi;exact jH hp p i DX hi hk
   have key:∃U,mZ P U/\∃d1,bV P U pl ro ops o j d=aa d1/\AK pl (j+1) d1 (e.put o.dst v) av:=by
    refine⟨Self.none,p_,?_⟩;cases hk:bo pl j with
    |pure=>
     have kj:cN o=.pure:=by rw[gG (by rw[hk];simp) (by rw[hk];simp),hk]
     obtain⟨rfl,lz⟩:=BP kj hv;refine⟨{d with e:=d.e.put o.dst v},?_,⟨by rw[hs.e],hs.n,⟨i,b,rest,cB,dv.imp id (λh=>⟨by omega,h.2⟩),dL,kK⟩,jI⟩⟩;unfold bV;rw[cB];simp only;rw[hs.e,hw,if_pos rfl];have cH:pl.kinds.getD j .effect=.pure:=hk;rw[cH];simp only;rw[lz 0 ⟨0,.lf⟩];simp[hs.e,cB]
    |alloc=>
     have kj:cN o=.alloc:=by rw[gG (by rw[hk];simp) (by rw[hk];simp),hk]
     obtain⟨t,lz,vo⟩:=LQ kj hv;refine⟨⟨d.e.put o.dst v,av.n,d.bs,⟨j,d.n,av.n,t⟩::d.aS⟩,?_,⟨by rw[hs.e],rfl,⟨i,b,rest,cB,dv.imp id (λh=>⟨by omega,h.2⟩),?_,kK⟩,λp hp=>?_⟩⟩
     .unfold bV;rw[cB];simp only;rw[hs.e,hw,if_pos rfl];have cH:pl.kinds.getD j .effect=.alloc:=hk;rw[cH];simp only;rw[hs.n,lz 0]
     .simp only[awW];rcases vo with⟨rfl,rfl⟩|⟨ob,rfl,rfl⟩
      .rw[mc _ _ (by simp[hs.n]),dL]
      .refine T.WF.ext (me _ (zD kK _)) (q9.set _ _) λid=>?_
       have:=BS (n:=G.n) (ob:=ob) d.aS (dJ b ⟨j,d.n,(G.add ob).n,T.lf.set G.n ob⟩) b (λp hp=>by rw[<-hs.n];exact(hs.aS p hp).2) (λid=>by
        rw[lT,T.gX,T.gX];simp only[hs.n,St.o5];by_cases hid:G.n=id
        .subst hid;simp
        .rw[if_neg aj,if_neg hid]) id
       rw[this,dL];rfl
     .rcases aws.1 hp with rfl|hp
      .exact⟨.inr ⟨by simp,hk⟩,awe _⟩
      .obtain⟨h1,h2⟩:=jI p hp;exact⟨h1,by have:=mb hv;rw[hs.n]at h2;exact awy h2 this⟩
    |load=>
     have kj:cN o=.load:=by rw[gG (by rw[hk];simp) (by rw[hk];simp),hk]
     obtain⟨rfl,lz⟩:=BQ kj hv;have om:=NJ (ops:=ops) hs dL λi hi h=>BU (by rw[hk];simp) i hi (h.imp id .inl);have cy:(⟨d.n,seen d.aS (pl.cg.getD j 0) b⟩:St)=av:=by rw[om,hs.n]
     refine⟨{d with e:=d.e.put o.dst v},?_,⟨by rw[hs.e],hs.n,⟨i,b,rest,cB,dv.imp id (λh=>⟨by omega,h.2⟩),dL,kK⟩,jI⟩⟩;unfold bV;rw[cB];simp only;rw[hs.e,hw,if_pos rfl];have cH:pl.kinds.getD j .effect=.load:=hk;rw[cH];simp only;rw[cy,lz d.n];simp only;rw[if_pos];refine⟨hs.n.symm,?_⟩;rcases dv with rfl|⟨h1,h2⟩
     .simp[nG]
     .rw[BU (by rw[hk];simp) i h1 (.inr (.inl h2))];rfl
    |call=>exact(Gu (g_ hk) hv).elim
    |effect=>
     refine Kh hs hk hw iD (λi hi h=>BU (by rw[hk];simp) i hi h) ?_ (Y4 hv q9) (mb hv);unfold kH;rw[hv]
   obtain⟨U,hU,d1,h1,h2⟩:=key;obtain⟨SF,iz,d',h3,h4⟩:=ih (j+1) d1 hd h2;obtain⟨q8,h5,h6⟩:=m4 hU iz h1 h3 ak;exact⟨q8,h5,d',h6,h4⟩
 | @Rr o j l e G e' au f args v hw hv hc h ih=>
   intro k d hl hs;obtain⟨hm,rfl,hd,iD,bS,ak⟩:=dD hl;obtain⟨gG,g_,jH⟩:=ET a_ hm;obtain⟨i,b,rest,cB,dv,dL,kK⟩:=hs.bs;have q9:G.t.WF:=dL▸me _ kK;have jI:∀p∈d.aS,(p.hi<=p.lo\/(p.j<j+1/\bo pl p.j=.alloc))/\p.hi<=d.n:=λp hp=>⟨(hs.aS p hp).1.imp id (λh=>⟨by omega,h.2⟩),(hs.aS p hp).2⟩
   have BU:bo pl j≠.pure->∀i,i<j->(bo pl i=.alloc\/bo pl i=.effect\/(bo pl i=.load/\bo pl j=.effect))->awC (pl.cg.getD j 0) i=ab:=by
    intro hp i hi hk;obtain⟨p,DX⟩:=bS i hi;exact jH hp p i DX hi hk
   have yn:∀gl,kH P (s7 ah f args G v G) gl e o G=aa (v,G):=by
    intro gl;unfold kH;rw[ES hv gl G];simp[s7]
   have om:=NJ (ops:=ops) hs dL
   have key:∃U,mZ P U/\∃d1,bV P U pl ro ops o j d=aa d1/\AK pl (j+1) d1 (e.put o.dst v) G:=by
    refine⟨s7 ah f args G v G,vy λgl _=>hc gl,?_⟩
    have yd:bo pl j=.call\/bo pl j=.effect:=by
     by_cases jy:bo pl j=.call
     .exact .inl jy
     .by_cases he:bo pl j=.effect
      .exact .inr he
      .have:=gG jy he;rcases r7 hv with h|h
       .rw[h]at this;exact absurd this.symm jy
       .rw[h]at this;exact absurd this.symm he
    rcases yd with hk|hk
    .refine⟨⟨d.e.put o.dst v,d.n,d.bs,⟨j,d.n,d.n,seen d.aS (pl.cg.getD j 0) b⟩::d.aS⟩,?_,⟨by rw[hs.e],hs.n,⟨i,b,rest,cB,dv.imp id (λh=>⟨by omega,h.2⟩),?_,kK⟩,λp hp=>?_⟩⟩
     .unfold bV;rw[cB];simp only;rw[hs.e,hw,if_pos rfl];have cH:pl.kinds.getD j .effect=.call:=hk;rw[cH];simp only;have ym:=om λi hi h=>BU (by rw[hk];simp) i hi (h.imp id .inl);have cy:(⟨d.n,seen d.aS (pl.cg.getD j 0) b⟩:St)=G:=by rw[ym,hs.n]
      rw[cy,yn,ym];simp only[hs.n,cB]
     .simp only[awW];rw[mc _ _ ay,dL]
     .rcases aws.1 hp with rfl|hp
      .exact⟨.inl (awe _),awe _⟩
      .exact jI p hp
    .exact Kh hs hk hw iD (λi hi h=>BU (by rw[hk];simp) i hi h) (yn ro) q9 (awe _)
   obtain⟨U,hU,d1,h1,h2⟩:=key;obtain⟨SF,iz,d',h3,h4⟩:=ih (j+1) d1 hd h2;obtain⟨q8,h5,h6⟩:=m4 hU iz h1 h3 ak;exact⟨q8,h5,d',h6,h4⟩
 | @call o j l e G e' au f args v av hk hw hv hc k_ h ih=>
   intro k d hl hs;obtain⟨hm,rfl,hd,iD,bS,ak⟩:=dD hl;obtain⟨gG,g_,jH⟩:=ET a_ hm;obtain⟨i,b,rest,cB,dv,dL,kK⟩:=hs.bs;have q9:G.t.WF:=dL▸me _ kK
   have BU:bo pl j≠.pure->∀i,i<j->(bo pl i=.alloc\/bo pl i=.effect\/(bo pl i=.load/\bo pl j=.effect))->awC (pl.cg.getD j 0) i=ab:=by
    intro hp i hi hk;obtain⟨p,DX⟩:=bS i hi;exact jH hp p i DX hi hk
   obtain⟨d1,h1,h2⟩:=Kh (U:=s7 (aa ro) f args G v av) (v:=v) (av:=av) hs hk hw iD (λi hi h=>BU (by rw[hk];simp) i hi h) (by unfold kH;rw[hv];simp[s7]) (k_ q9) hc.1;obtain⟨SF,iz,d',h3,h4⟩:=ih (j+1) d1 hd h2;obtain⟨q8,h5,h6⟩:=m4 (vy (R:=aa ro) λgl hR=>by rcases hR with hR|hR<;>cases hR;exact hc) iz h1 h3 ak;exact⟨q8,h5,d',h6,h4⟩
 | @Y5 o j l e G e' au f args v ob hq hw hv hc h ih=>cases hq
variable{rd:Option Nat}{fn:FuncId}{df:List Df}{e e':Env}{au:St}{ops:Array Oper}
def gx.draw{id:Nat}(fF:P.follows .mixedOrders=ab)(dZ:(bP ops).ok=ab)(a_:zC ops (bP ops)=ab)(k_:G.t.WF)
 (h:gm P ro ops (bP ops) af ops.toList.zipIdx e G e' au):gx P ro rd fn (.region id ops ab) e df G ⟨.normal,e',df,au⟩:=by
 obtain⟨SF,iz,d',h1,h2,h3,i,b,rest,h4,h5⟩:=P5 a_ h 0 ⟨e,G.n,[(0,G.t)],[]⟩ ay ⟨rfl,rfl,⟨0,G.t,[],rfl,.inl rfl,rfl,k_⟩,λp hp=>by cases hp⟩
 have fv:kI P SF ro ops e df G=aa ⟨.normal,e',df,au⟩:=by
  unfold kI;simp only;rw[if_pos dZ,h1];obtain⟨de,dn,dbs,aea⟩:=d';simp only at h2 h3 h4 h5;subst h2 h4;simp only[h3,h5]
 refine .mk (EM (λi=>(iz i).2.2.1) (λi=>(iz i).2.2.2) fv) ay λN hN F Z a w Q hF hi he hd hQ=>?_;exact Ke fF (λi=>(iz i).1) (λi=>(iz i).2.1) (λi=>(iz i).2.2.1) (λi=>(iz i).2.2.2) N ro rd ops e df G _ fv hN F Z a w Q id hF hi he hd hQ
end Go.Ev
