/- Lemmas over the model, without conditions of their own: the ideal machine, and code run on expressions. -/
import Derived.Test.YtabefplkfkfdfaaGreatPAa
open Option renaming map_eq_some_iff->ayG,getD_some->azh,map_some->ay_,isSome_iff_exists->aAJ
open Bool renaming and_eq_true->ayz,false_eq_true->ayW,not_eq_true'->azn,or_eq_true->azf,not_true->az4,false_or->aAN
open Go.Deferred renaming ofValue->aBG
open Array renaming eq_empty_of_size_eq_zero->aBV,ext'->aA5,toList_map->aB0,getD_eq_getD_getElem?->azm,getElem?_setIfInBounds->aB7,getElem?_eq_getElem->ay2,getElem?_eq_none->aAw,toList_setIfInBounds->aCf,replicate->azy,getElem?_replicate->aCi,getElem?_eq_some_iff->azj,all_eq_true'->aCK,getElem?_toList->aAz
open Go.Sem renaming run_bind->ayL,run_pure->ayT
open Go.Result renaming andThen_ok->ayD
open Go.Instr renaming typeAssert->aBf,getLoop->aDx,endRound->aDm,yield->aCG,enterLoop->aB8
open Nat renaming le_refl->ayA,le_of_eq->aDW,blt->azp,blt_eq->aCq,le_trans->ayU,lt_of_not_le->aAM,lt_of_lt_of_le->az9,testBit->ayY,lor->aCm,testBit_or->aDJ,shiftLeft->aBH,lt_or_eq_of_le->aA9,lt_trichotomy->aBd,strongRecOn->aDy,zero_le->azi
open Go renaming undef->azk
open Go.Region renaming wanted->aBy,binds->azY,ready->azz
open Go.stepG renaming exec->aDX
open Go.Frame renaming atR->aD2
open Go.Fence renaming wide->ay8,inRound->aDw
open Go.Code renaming roundsIn->aDI,region->aDY
open List renaming foldl_cons->aze,range'->az3,drop_drop->aAG,length_cons->ay6,range'_succ->aAX,range_eq_range'->aBs,mapM_nil->aCr,mapM_cons->aAH,zipIdx_cons->aB2,map_congr_left->aAK,getD_eq_getElem?_getD->azo,mk_mem_zipIdx_iff_getElem?->az6,all_eq_true->ayP,mem_filter->azC,mem_cons->ayN,mem_append->ayS,nil_append->azl,cons_append->azv,mem_iff_getElem?->aCz,getElem?_zipIdx->aBt,mem_range->aAv,getElem?_eq_getElem->ayv,mem_of_getElem?->ayM,getElem?_eq_some_iff->ayw,mem_cons_of_mem->azA,filter_cons->aDf,mem_cons_self->aAR,getElem_of_mem->aBI,getElem_zipIdx->aBJ
open Go.LoopState renaming busy->aD_
open Decidable renaming byContradiction->aAB
open Go.Oper renaming semAt_eq->aAn,uponIn_value->aCZ,uponIn_skip->aDe,uponIn_enter->aB1,uponIn_defer->aC0
open Go.Exit renaming inBlock->aDQ
open Go.Call renaming operands->aBC
open Option.some renaming injEq->ayB,inj->aBe
open List.cons renaming inj->aAp,injEq->aAa
open Classical renaming byContradiction->azr
open Option renaming some->aa,none->ah
open Bool renaming true->ab,false->af
set_option linter.all false
namespace Go.Ev
section
variable{P:Program}{N ro:Nat}{Z:Io}{w:World}{Y:St}{ρ:Operand->IV}{r:Operand->Value}{o:Oper}{out:gq}
theorem aj_{argTypes:Array TypeId}{ty:TypeId}{args:List IV}{us:List Value}{v:IV}(hr:aG Z args us)(h:Na P args=aa v):∃z,(Builtin.max_ argTypes ty us.toArray).run P w=.ok z w/\Rv Z v z:=by
 unfold Na at h;split at h
 .rename_i vs hv;rw[<-CZ hv hr]at h;rw[ayG]at h;obtain⟨z,hz,rfl⟩:=h;exact⟨z,gk w _ hz,Rv.lift z⟩
 .cases h
theorem Jo{argTypes:Array TypeId}{s x:IV}(h:mh P ro argTypes s x Y=aa out):∃v al,out=.val v al:=by
 have hn:∀{size bn n:Nat} {new:List IV} {s:IV},f_ size bn n new s Y=aa out->∃v al,out=.val v al:=by
  intro size bn n new s h;unfold f_ at h;split at h
  .split at h
   .exact⟨_,_,aX h⟩
   .cases h
  .cases h
 unfold mh at h;split at h
 .split at h
  .split at h
   .split at h
    .cases h
    .split at h
     .split at h
      .unfold fw at h
       repeat' split at h
       all_goals first|exact⟨_,_,aX h⟩|exact hn h|cases h
      .cases h
     .cases h
   .cases h
  .cases h
 .cases h
theorem bH.ofB{c:Call}{b:Builtin}{us:List Value}(ho:o.op=.call c)(hb:c.callee=.builtin b)(yW:c.args.map r=us.toArray)(h:G3 P ro N Z w Y (builtin b c.argTypes o.type (c.args.map λ|.const _=>ab|_=>af) us.toArray) out):
 bH P ro N Z w Y r o out:=by
 obtain⟨v,al,rfl,h⟩:=h;intro hN;rw[Sj ho hb,yW];exact h hN
theorem Zq{b:Builtin}{argTypes:Array TypeId}{ty:TypeId}{cs:Array Bool}{args:List IV}{us:List Value}(hi:Inv N Z Y w)(hr:aG Z args us)(h:fx P ro b argTypes args Y=aa out):
 G3 P ro N Z w Y (builtin b argTypes ty cs us.toArray) out:=by
 unfold fx at h;split at h
 .split at h
  .obtain⟨v,u,rfl,h1,h2⟩:=aie hr;obtain⟨v',al,rfl⟩:=Jo h;exact G3.ofV λhN=>abF hi h1 h2 h hN
  .cases h
 .split at h
  .obtain⟨v,rfl,h1⟩:=wM hr;rw[ayG]at h;obtain⟨z,hz,rfl⟩:=h;obtain⟨u,hu,kZ⟩:=aif (ty:=ty) hi h1 hz;exact G3.same hi hu kZ
  .cases h
 .split at h
  .obtain⟨v,rfl,h1⟩:=wM hr;rw[ayG]at h;obtain⟨z,hz,rfl⟩:=h;obtain⟨u,hu,kZ⟩:=aih (ty:=ty) (w:=w) h1 hz;exact G3.same hi hu kZ
  .cases h
 .rw[ayG]at h;obtain⟨z,hz,rfl⟩:=h;obtain⟨u,hu,kZ⟩:=aj_ (argTypes:=argTypes) (ty:=ty) (w:=w) hr hz;exact G3.same hi hu kZ
 .cases h
theorem Iw{l:Array Operand}(h:∀x,Rv Z (ρ x) (r x)):aG Z (l.toList.map ρ) (l.toList.map r):=aG.of_map λx _=>h x
theorem C6{f:FuncId}{fn:Func}{us:Array Value}(h:P.funcs[f]?=aa fn)(hb:(fn.body.isSome&&fn.name != "runtime.NumGoroutine")=ab):(callFunc f us).run P w=.ok (.enter f us) w:=by
 simp only[ayz,bne_iff_ne,ne_eq]at hb;have h2:fn.body≠ah:=by cases hh:fn.body<;>simp_all
 simp[callFunc,h,h2,hb.2]
theorem Bo{x:IV}{v:Value}{args:List IV}{us:List Value}(hx:Rv Z x v)(hr:aG Z args us)(h:gT P x args=aa out):
 ∃d,(aBG v us.toArray).run P w=.ok d w/\((∃f as vs,out=.enter f as/\(invoke d.target d.args).run P w=.ok (.enter f vs.toArray) w/\aG Z as vs/\EL Z (.call f as) d)\/
  (∃id l,out=.round id args/\Z id 0=aa l/\d.target=.fn (.yield l.b) #[]/\d.args=us.toArray)):=by
 unfold gT at h;split at h
 .rename_i f first cap
  cases hx with
  |fn _ _ _ cs ds hl h1 fC h2=>
   split at h
   .rename_i fn cL;split at h
    .rename_i hb;cases h;have db:aG Z (first++args++cap) (cs++us++ds):=(aG.append ⟨hl,h1⟩ hr).append ⟨fC,h2⟩;refine⟨{target:=.fn (.func f) ds.toArray,args:=cs.toArray++us.toArray},rfl,.inl ⟨f,_,_,rfl,?_,db,ds,cs++us,_,by simp,db,rfl⟩⟩;simp only[invoke];rw[C6 cL hb];simp
    .cases h
   .cases h
 .rename_i f a b;cases hx;split at h
  .rename_i he;obtain⟨rfl,rfl⟩:a= #[]/\b= #[]:=⟨aBV he.1,aBV he.2⟩;split at h
   .rename_i fn cL;split at h
    .rename_i hb;cases h;refine⟨{target:=.fn (.func f) #[],args:=us.toArray},by simp[aBG],.inl ⟨f,_,us,rfl,?_,hr,[],us,us,by simp,hr,by simp⟩⟩;simp only[invoke];rw[C6 cL hb];simp
    .cases h
   .cases h
  .cases h
 .rename_i id;cases hx with
  |r8 _ l hl=>
   cases h;exact⟨{target:=.fn (.yield l.b) #[],args:=us.toArray},by simp[aBG],.inr ⟨id,l,rfl,hl,rfl,rfl⟩⟩
 .cases h
theorem aij{c:Call}(hi:Inv N Z Y w)(hr:∀x,Rv Z (ρ x) (r x))(ho:o.op=.call c)(h:aA P ro ρ o Y=aa out):bH P ro N Z w Y r o out:=by
 unfold aA at h;rw[ho]at h;(try dsimp only at h);have yW:c.args.map r=(c.args.toList.map r).toArray:=by apply aA5;rw[aB0]
 split at h
 .rename_i b hb;exact bH.ofB ho hb yW (Zq hi (Iw hr) h)
 .rename_i f hf;obtain⟨d,hd,h⟩:=Bo (w:=w) (hr f) (Iw hr) h
  have e:(execOp r o).run P w=(invoke d.target d.args).run P w:=by
   simp only[execOp,ho,resolve,hf,yW,ayL,hd,ayD]
  rcases h with⟨f',as,vs,rfl,h1,h2,_⟩|⟨id,l,rfl,h1,h2,h3⟩
  .exact⟨vs,by rw[e,h1],h2⟩
  .exact⟨l,_,h1,by rw[e,h2,h3];rfl,Iw hr⟩
 .cases h
theorem aee{c:Call}(hr:∀x,Rv Z (ρ x) (r x))(ho:o.op=.defer c)(h:aA P ro ρ o Y=aa out):bH P ro N Z w Y r o out:=by
 unfold aA at h;rw[ho]at h;(try dsimp only at h);have yW:c.args.map r=(c.args.toList.map r).toArray:=by apply aA5;rw[aB0]
 split at h
 .rename_i f hf;split at h
  .rename_i f' args hc;cases h;obtain⟨d,hd,h⟩:=Bo (w:=w) (hr f) (Iw hr) hc;rcases h with⟨f',as,vs,he,_,_,h3⟩|⟨id,l,he,_⟩
   .cases he;exact⟨d,by simp only[execOp,ho,resolve,hf,yW,ayL,hd,ayD,ayT],h3,c,ho⟩
   .cases he
  .cases h
 .cases h
theorem aef{x:Operand}(hr:Rv Z (ρ x) (r x))(ho:o.op=.panic x)(h:aA P ro ρ o Y=aa out):bH P ro N Z w Y r o out:=by
 unfold aA at h;rw[ho]at h;simp only at h;split at h
 .rename_i t v hx;cases h;rw[hx]at hr;generalize hq:r x=q at hr;have uC:=hr;cases hr with
  |dR _ _ u hu=>
   refine⟨_,?_,uC⟩;simp only[execOp,ho,Instr.panic,hq,goPanic,ayL];rfl
 .cases h
theorem Q3{x:Operand}{xt asserted:TypeId}{ok:Bool}(hi:Inv N Z Y w)(hr:Rv Z (ρ x) (r x))(ho:o.op=.typeAssert x xt asserted ok)(h:aA P ro ρ o Y=aa out):bH P ro N Z w Y r o out:=by
 unfold aA at h;rw[ho]at h;simp only at h;split at h
 .cases h
 .rename_i d z hni hu hz
  have hd:∀{O:Type} (k1:Array (String×TypeId)->O) (k2:O),(match d with|.interface want=>k1 want|_=>k2)=k2:=by
   intro O k1 k2;cases d<;>first|rfl|exact absurd rfl (hni _)
  split at h
  .rename_i t v hx;rw[hx]at hr;generalize hq:r x=q at hr;cases hr with
   |dR _ _ u kZ=>
    split at h
    .rename_i WR;have Zr:t=asserted:=by simpa using WR
     obtain rfl:=aX h;cases ok with
     |true=>
      refine bH.same hi (u:=.tuple #[u,.bool ab]) ?_ ?_
      .cases d<;>first
        |exact absurd rfl (hni _)
        |simp[execOp,ho,aBf,hq,bK hu,Zr]
      .have:=aG.cons kZ (aG.cons (Rv.raw (Z:=Z) (.bool ab)) aG.nil);exact vf this
     |false=>
      refine bH.same hi (u:=u) ?_ kZ
      cases d<;>first
       |exact absurd rfl (hni _)
       |simp[execOp,ho,aBf,hq,bK hu,Zr]
    .rename_i WR;have Zr:¬t=asserted:=by simpa using WR
     split at h
     .rename_i bu;subst bu;obtain rfl:=aX h;refine bH.same hi (u:=.tuple #[z,.bool af]) ?_ ?_
      .cases d<;>first
        |exact absurd rfl (hni _)
        |simp[execOp,ho,aBf,hq,bK hu,Zr,ml hz]
      .have:=aG.cons (Rv.lift (Z:=Z) z) (aG.cons (Rv.raw (Z:=Z) (.bool af)) aG.nil);exact vf this
     .cases h
  .rename_i hx;have e:=gb hx hr;split at h
   .rename_i bu;subst bu;obtain rfl:=aX h;refine bH.same hi (u:=.tuple #[z,.bool af]) ?_ ?_
    .cases d<;>first
      |exact absurd rfl (hni _)
      |simp[execOp,ho,aBf,e,bK hu,ml hz]
    .have:=aG.cons (Rv.lift (Z:=Z) z) (aG.cons (Rv.raw (Z:=Z) (.bool af)) aG.nil);exact vf this
   .cases h
  .cases h
 .cases h
theorem qv(hi:Inv N Z Y w)(hr:∀x,Rv Z (ρ x) (r x))(h:aA P ro ρ o Y=aa out):bH P ro N Z w Y r o out:=by
 cases ho:o.op with
 |move x=>unfold aA at h;rw[ho]at h;simp only at h;obtain rfl:=aX h;exact WM hi (hr _) (.inl ho)
 |assign x=>unfold aA at h;rw[ho]at h;simp only at h;obtain rfl:=aX h;exact WM hi (hr _) (.inr ho)
 |pick c a b=>exact aia hi (hr _) (hr _) (hr _) ho h
 |alloc t=>exact ad3 hi ho h
 |box t x=>exact aj0 hi (hr _) ho h
 |build t parts=>exact ad8 hi (λx _=>hr x) ho h
 |buildSlice t len parts=>exact Q2 hi (λx _=>hr x) ho h
 |load t a=>exact aib hi (hr _) ho h
 |store t a x=>exact ad4 hi (hr _) (hr _) ho h
 |nilCheck x=>exact Wi hi (hr _) ho h
 |binOp op t x y yT=>exact aj1 hi (hr _) (hr _) ho h
 |unOp op t x=>exact aoB hi (hr _) ho h
 |convert s t x=>exact Zj hi (hr _) ho h
 |makeInterface t x=>exact J8 hi (hr _) ho h
 |makeFunc f a b=>exact Wj hi (λx _=>hr x) ho h
 |makeMap t x=>exact Zl hi (λx _=>hr x) ho h
 |makeSlice t l c=>exact Sa hi (hr _) (hr _) ho h
 |slice t x lo cX mx=>exact ad9 hi (hr _) (λx _=>hr x) (λx _=>hr x) (λx _=>hr x) ho h
 |fieldAddr s x f=>exact R0 hi (hr _) ho h
 |field t x f=>exact ad6 hi (hr _) ho h
 |indexAddr t x ix=>exact R4 hi (hr _) (hr _) ho h
 |index t x ix=>exact ad7 hi (hr _) (hr _) ho h
 |lookup t x ix ok=>exact abG hi (hr _) (hr _) ho h
 |mapUpdate t m k x=>exact G7 hi (hr _) (hr _) (hr _) (.inl ho) h
 |insert t m k x=>exact G7 hi (hr _) (hr _) (hr _) (.inr ho) h
 |mapEntry=>unfold aA at h;rw[ho]at h;cases h
 |entryStore=>unfold aA at h;rw[ho]at h;cases h
 |range t x=>exact ad_ hi (hr _) ho h
 |next it s=>exact aii hi (hr _) ho h
 |entry it=>exact aed hi (hr _) ho h
 |extract t i=>exact Zk hi (hr _) ho h
 |call c=>exact aij hi hr ho h
 |defer c=>exact aee hr ho h
 |panic x=>exact aef (hr _) ho h
 |typeAssert x xt t ok=>exact Q3 hi (hr _) ho h
 |_=>unfold aA at h;rw[ho]at h;cases h
end
section
variable{P:Program}{ro:Nat}{Y:St}{ρ:Operand->IV}{o:Oper}{out:gq}
def Grown(Y:St):gq->Prop
 |.val _ al=>Y.n<=al.n
 |_=>True
theorem uD{v:IV}{al:St}(hle:Y.n<=al.n)(h:ret v al=aa out):Grown Y out:=by rw[aX h];exact hle
theorem LB{v:IV}(h:ret v Y=aa out):Grown Y out:=uD (ayA Y.n) h
theorem Pw{v:IV}{id:Nat}{ob:Ob}(h:ret v (Y.put id ob)=aa out):Grown Y out:=uD (al:=Y.put id ob) (ayA Y.n) h
theorem Px{v:IV}{ob:Ob}(h:ret v (Y.add ob)=aa out):Grown Y out:=uD (Nat.le_succ _) h
theorem So{kt:TypeId}{m k v:IV}{al:St}(h:qI P ro kt m k v Y=aa al):al.n=Y.n:=by
 unfold qI at h
 repeat' split at h
 all_goals first|(cases h;done)|(cases h;rfl)
theorem Sp{f:IV}{args:List IV}(h:gT P f args=aa out):Grown Y out:=by
 unfold gT at h
 repeat' split at h
 all_goals first|(cases h;done)|(cases h;exact trivial)
theorem Sq{argTypes:Array TypeId}{s x:IV}(h:mh P ro argTypes s x Y=aa out):Grown Y out:=by
 have hn:∀{size bn n:Nat} {new:List IV} {s:IV},f_ size bn n new s Y=aa out->Grown Y out:=by
  intro size bn n new s h;unfold f_ at h;split at h
  .split at h
   .exact Px h
   .cases h
  .cases h
 unfold mh at h;split at h
 .split at h
  .split at h
   .split at h
    .cases h
    .split at h
     .split at h
      .unfold fw at h
       repeat' split at h
       all_goals first|exact LB h|exact Pw h|exact uD (by exact ayA Y.n) h|exact hn h|cases h
      .cases h
     .cases h
   .cases h
  .cases h
 .cases h
theorem Q4{b:Builtin}{argTypes:Array TypeId}{args:List IV}(h:fx P ro b argTypes args Y=aa out):Grown Y out:=by
 unfold fx at h;split at h
 .split at h
  .exact Sq h
  .cases h
 .split at h
  .rw[ayG]at h;obtain⟨z,hz,rfl⟩:=h;exact ayA _
  .cases h
 .split at h
  .rw[ayG]at h;obtain⟨z,hz,rfl⟩:=h;exact ayA _
  .cases h
 .rw[ayG]at h;obtain⟨z,hz,rfl⟩:=h;exact ayA _
 .cases h
theorem nS(h:aA P ro ρ o Y=aa out):Grown Y out:=by
 unfold aA at h;cases ho:o.op<;>rw[ho]at h<;>(try dsimp only at h)
 case call c=>
  split at h
  .exact Q4 h
  .exact Sp h
  .cases h
 case defer c=>
  split at h
  .split at h
   .cases h;exact trivial
   .cases h
  .cases h
 case mapUpdate=>
  split at h
  .split at h
   .rename_i al hs;exact uD (aDW (So hs).symm) h
   .cases h
  .cases h
 case insert=>
  split at h
  .split at h
   .rename_i al hs;exact uD (aDW (So hs).symm) h
   .cases h
  .cases h
 all_goals (repeat' split at h)
 all_goals first|exact LB h|exact Pw h|exact Px h|(cases h;done)|(cases h;exact trivial)
end
section
variable{P:Program}{N ro:Nat}{Z:Io}{w:World}{Y:St}{e:Env}{a:Act}
def dc(Z:Io)(e:Env)(ts:Array Value):Prop:=e.n=ts.size/\∀t,Rv Z (e.at t) (ts.getD t azk)
def lD(Z:Io):List Df->List Deferred->Prop
 |[],[]=>True
 |d::ds,x::xs=>EL Z d x/\lD Z ds xs
 |_,_=>False
theorem dc.mono{aJ:Io}(iV:Ext Z aJ){ts:Array Value}(h:dc Z e ts):dc aJ e ts:=⟨h.1,λt=>(h.2 t).mono iV⟩
theorem EL.mono{aJ:Io}(iV:Ext Z aJ){d:Df}{x:Deferred}(h:EL Z d x):EL aJ d x:=by
 cases d with
 |wI id=>obtain⟨l,h1,h2⟩:=h;exact⟨l,iV _ _ _ h1,h2⟩
 |call f as=>obtain⟨cap,us,vs,h1,h2,h3⟩:=h;exact⟨cap,us,vs,h1,h2.mono iV,h3⟩
theorem lD.mono{aJ:Io}(iV:Ext Z aJ):∀{ds:List Df} {xs:List Deferred},lD Z ds xs->lD aJ ds xs
 |[],[],_=>trivial
 |_::_,_::_,h=>⟨EL.mono iV h.1,lD.mono iV h.2⟩
 |[],_::_,h=>h.elim
 |_::_,[],h=>h.elim
theorem lD.nil{xs:List Deferred}(h:lD Z [] xs):xs=[]:=by cases xs with|nil=>rfl|cons=>exact h.elim
theorem tY:Rv Z .undef azk:=.raw _
theorem Env.dv(e:Env)(d:Nat)(v:IV)(t:Nat):(e.put (aa d) v).at t=if d<e.n/\d=t then v else e.at t:=by
 unfold Env.put;simp only;by_cases h:d<e.n
 .have hb:azp d e.n=ab:=by simpa[aCq]using h
  rw[hb];simp only[if_true,Env.at,T.gV];by_cases hd:d=t
  .simp[hd];intro h2;omega
  .simp[hd]
 .have hb:azp d e.n=af:=by
   cases hc:azp d e.n with
   |false=>rfl
   |true=>exact absurd (by simpa using hc) h
  rw[hb];simp[h]
theorem Env.ng(e:Env)(d:Option Nat)(v:IV):(e.put d v).n=e.n:=by
 cases d with
 |none=>rfl
 |some d=>simp only[Env.put];split<;>rfl
theorem dc.set{ts:Array Value}{v:IV}{u:Value}(h:dc Z e ts)(hv:Rv Z v u)(d:Nat):dc Z (e.put (aa d) v) (ts.setIfInBounds d u):=by
 refine⟨by rw[Env.ng,h.1];simp,λt=>?_⟩;rw[Env.dv]
 have hs:(ts.setIfInBounds d u).getD t azk=if d<ts.size/\d=t then u else ts.getD t azk:=by
  simp only[azm,aB7];by_cases hd:d=t
  .subst hd;by_cases hl:d<ts.size
   .simp[hl]
   .simp[hl]
  .simp[hd]
 rw[hs,<-h.1];split
 .exact hv
 .exact h.2 t
theorem dc.put{v:IV}{u:Value}(h:dc Z e a.tmps)(hv:Rv Z v u)(dst:Option Tmp):dc Z (e.put dst v) (a.put dst u).tmps:=by
 cases dst with
 |none=>exact h
 |some d=>exact h.set hv d
theorem dc.eval(h:dc Z e a.tmps)(x:Operand):Rv Z (aC e x) (a.eval x):=by
 cases x with
 |tmp t=>exact h.2 t
 |const v=>exact Rv.lift v
 |global g=>exact .raw _
 |func f=>exact .raw _
theorem aik{x:IV}{b:Bool}(h:Rv Z x (.bool b)):x=.raw (.bool b):=by
 generalize hu:Value.bool b=u at h;cases h<;>first|(cases hu;done)|(cases hu;rfl)
theorem uE{o:Oper}{ops:Array Oper}(h:dc Z e a.tmps):aBy o (yielded ops a.tmps)=aT o ops e:=by
 unfold aBy aT;cases hg:o.guard with
 |none=>rfl
 |some g=>
  obtain⟨j,want⟩:=g;simp only[yielded];cases hd:(ops[j]?).bind (·.dst)with
  |none=>rfl
  |some d=>
   simp only[Option.bind_some];by_cases hl:d<e.n
   .have hb:azp d e.n=ab:=by simpa[aCq]using hl
    rw[hb];have cH:d<a.tmps.size:=by rw[<-h.1];exact hl
    have hr:=h.2 d;rw[azm,ay2 cH,azh]at hr;rw[ay2 cH];simp only[if_true];generalize a.tmps[d]=u at hr;cases u with
    |bool b=>rw[aik hr];simp
    |_=>
     generalize e.at d=x at hr;cases hr<;>rfl
   .have hb:azp d e.n=af:=by
     cases hc:azp d e.n with
     |false=>rfl
     |true=>exact absurd (by simpa using hc) hl
    rw[hb];have cH:¬d<a.tmps.size:=by rw[<-h.1];exact hl
    rw[aAw (Nat.le_of_not_lt cH)];rfl
def noGoto(Q:Exit->Act->World->Prop):Exit->Act->World->Prop
 |.goto _,_,_=>False
 |e,a,w=>Q e a w
section scope
variable{F:Fence}{n:Nat}{b:Frame}{k:List Item}{cs:List Frame}{Q:Exit->Act->World->Prop}
theorem qc{c:Code}:step P (lone (b.atR a (.code (.scope c)::k)) cs w)=.next (lone (b.atR a (.code c::.inScope c::k)) cs w):=
 step_lone_go (by simp[stepG,aDX,aD2])
theorem Q5{c:Code}:step P (lone (b.atR a (.inScope c::k)) cs w)=.next (lone (b.atR a k) cs w):=
 step_lone_go (by simp[stepG,aDX,aD2])
theorem LC{c:Code}(h:c.wpIn F n P (noGoto Q) a w):(Code.scope c).wpIn F n P Q a w:=by
 intro b k cs eK hb hr;have h0:(lone (b.atR a (.code (.scope c)::k)) cs w).fenced P F:=fenced_calm hb hr rfl;obtain⟨e,a₁,w₁,hq,Ni⟩:=h b (.inScope c::k) cs eK hb hr;cases e with
 |normal=>exact⟨.normal,a₁,w₁,hq,.head h0 qc (StepsIn.trans Ni (.one (fenced_calm hb hr rfl) Q5))⟩
 |exit id=>
  have hx:exitTo id (.inScope c::k)=exitTo id k:=by simp[exitTo]
  exact⟨.exit id,a₁,w₁,hq,λk' hk=>.head h0 qc (Ni.1 k' (by rw[hx];exact hk)),
   λuC hk=>let⟨k₁,h1,h2⟩:=Ni.2 uC (by rw[hx];exact hk);⟨k₁,h1,.head h0 qc h2⟩⟩
 |goto l=>exact hq.elim
 |ret=>exact⟨_,a₁,w₁,hq,.of_steps (.one h0 qc) Ni⟩
 |panic ch=>exact⟨_,a₁,w₁,hq,.of_steps (.one h0 qc) Ni⟩
 |outgrown=>exact⟨_,a₁,w₁,hq,.of_steps (.one h0 qc) Ni⟩
end scope
def cu(S:Self):Prop:=∀ro rd fn c e df Y cr,S.code ro rd fn c e df Y=aa cr->Y.n<=cr.Y.n
structure bS(S:Self):Prop where
 call:∀ro f args Y v al,S.call ro f args Y=aa (v,al)->Y.n<=al.n
 cw:∀ro f args Y v al,S.cw ro f args Y=aa (v,al)->Y.n<=al.n
 yS:∀ro f args m Y m' al,S.yS ro f args m Y=aa (m',al)->Y.n<=al.n
variable{S:Self}
theorem Zs(hc:cu S){l:Nat}{args:List IV}{v:IV}{al:St}(h:DC S ro l args Y=aa (v,al)):Y.n<=al.n:=by
 unfold DC at h;split at h
 .split at h
  .cases h
  .simp only at h;split at h
   .rename_i e1 au h1;split at h
    .split at h
     .rename_i ex e2 cU h2;split at h
      .cases h
      split at h
      .cases h;have:=hc _ _ _ _ _ _ _ _ h1;have:=hc _ _ _ _ _ _ _ _ h2;simp only[St.ng]at*
       omega
      .cases h
     .cases h
    .cases h
   .cases h
 .cases h
theorem J_(hc:cu S)(hk:bS S){o:Oper}{v:IV}{al:St}(h:kY P S ro e o Y=aa (v,al)):Y.n<=al.n:=by
 unfold kY at h;split at h
 .rename_i v1 au h1;cases h;exact nS h1
 .exact hk.call _ _ _ _ _ _ h
 .exact Zs hc h
 .cases h
theorem Ao(hc:cu S)(hk:bS S){rd:Option Nat}{ops:Array Oper}:∀{l:List Oper} {e:Env} {df:List Df} {Y:St} {cr:CR},Bc P S ro rd ops l e df Y=aa cr->Y.n<=cr.Y.n
 |[],e,df,Y,cr,h=>by cases h;exact ayA _
 |o::rest,e,df,Y,cr,h=>by
  unfold Bc at h;split at h
  .split at h
   .rename_i v au h1;exact ayU (J_ hc hk h1) (Ao hc hk h)
   .split at h
    .split at h
     .exact Ao hc hk h
     .cases h
    .split at h
     .rename_i h2;cases h;exact hk.cw _ _ _ _ _ _ h2
     .cases h
    .cases h;exact ayA _
    .cases h
  .exact Ao hc hk h
section draw
variable[Sm]
theorem GH(hc:cu S)(hk:bS S){pl:eJ}{ops:Array Oper}{o:Oper}{j:Nat}{d d':DS}(h:ct P S pl ro ops o j d=aa d'):d.n<=d'.n:=by
 unfold ct at h;simp only at h;split at h
 .cases h
 .split at h
  .split at h
   .split at h
    .split at h
     .cases h;exact ayA _
     .cases h
    .cases h
   .split at h
    .rename_i h1;cases h;exact nS h1
    .cases h
   .split at h
    .split at h
     .cases h;exact ayA _
     .cases h
    .cases h
   .split at h
    .rename_i h1;cases h;exact J_ (P:=P) hc hk h1
    .cases h
   .split at h
    .rename_i h1;split at h
     .cases h;exact J_ (P:=P) hc hk h1
     .cases h
    .cases h
  .split at h
   .split at h
    .cases h;exact ayA _
    .cases h
   .cases h;exact ayA _
theorem G8{SF:Nat->Self}(hc:∀j,cu (SF j))(hk:∀j,bS (SF j)){pl:eJ}{ops:Array Oper}:∀{l:List (Oper×Nat)} {d d':DS},j_ P SF pl ro ops l d=aa d'->d.n<=d'.n
 |[],d,d',h=>by cases h;exact ayA _
 |(o,j)::rest,d,d',h=>by
  unfold j_ at h;split at h
  .rename_i d1 h1;exact ayU (GH (hc j) (hk j) h1) (G8 hc hk h)
  .cases h
theorem ES{SF:Nat->Self}(hc:∀j,cu (SF j))(hk:∀j,bS (SF j)){ops:Array Oper}{df:List Df}{cr:CR}(h:m_ P SF ro ops e df Y=aa cr):Y.n<=cr.Y.n:=by
 unfold m_ at h;simp only at h;split at h
 .split at h
  .rename_i h1;cases h;exact G8 hc hk h1
  .cases h
 .cases h
end draw
theorem abJ(hc:cu S)(hk:bS S){ops:Array Oper}{df:List Df}{cr:CR}(h:RT P S ro ops e df Y=aa cr):Y.n<=cr.Y.n:= @ES _ _ _ _ xX _ (λ_=>hc) (λ_=>hk) _ _ _ h
theorem Py(hc:cu S)(hk:bS S):cu (nf P S):=by
 intro ro rd fn c e df Y cr h;change xY P S ro rd fn c e df Y=aa cr at h;cases c<;>unfold xY at h<;>dsimp only at h
 case skip=>cases h;exact ayA _
 case label=>cases h;exact ayA _
 case exit=>cases h;exact ayA _
 case goto=>cases h;exact ayA _
 case ret=>cases h;exact ayA _
 case refuse=>cases h
 case region=>
  split at h
  .exact abJ hc hk h
  .exact Ao hc hk h
 case seq=>
  split at h
  .rename_i h1;exact ayU (hc _ _ _ _ _ _ _ _ h1) (hc _ _ _ _ _ _ _ _ h)
  .exact hc _ _ _ _ _ _ _ _ h
 case cond=>
  split at h
  .exact hc _ _ _ _ _ _ _ _ h
  .cases h
 case block=>
  split at h
  .rename_i h1;split at h
   .cases h;have:=hc _ _ _ _ _ _ _ _ h1;exact this
   .cases h;have:=hc _ _ _ _ _ _ _ _ h1;exact this
  .exact hc _ _ _ _ _ _ _ _ h
 case loop=>
  split at h
  .rename_i h1;exact ayU (hc _ _ _ _ _ _ _ _ h1) (hc _ _ _ _ _ _ _ _ h)
  .exact hc _ _ _ _ _ _ _ _ h
 case scope=>
  split at h
  .cases h
  .exact hc _ _ _ _ _ _ _ _ h
 case rangeFunc=>
  split at h
  .rename_i fV au mark DQ
   have h1:Y.n<=au.n:=by
    split at DQ
    .cases DQ;simp
    .split at DQ
     .cases DQ;exact ayA _
     .cases DQ
   split at h
   .split at h
    .rename_i h2;have h3:=hk.call _ _ _ _ _ _ h2;simp only[St.kB]at h3;split at h
     .split at h
      .cases h
      .split at h
       .cases h;simp only[St.ng];omega
       .have h4:=hc _ _ _ _ _ _ _ _ h;simp only[St.ng]at h4;omega
     .cases h
    .cases h
   .cases h
  .cases h
theorem lO(hk:bS S):∀{df:List Df} {m m':Option IV} {Y al:St},gU S ro df m Y=aa (m',al)->Y.n<=al.n
 |[],m,m',Y,al,h=>by cases h;exact ayA _
 |.wI id::ds,m,m',Y,al,h=>by
  unfold gU at h;split at h
  .split at h
   .exact lO hk (Y:=Y.put id (.Gy ab)) h
   .cases h
  .cases h
 |.call f args::ds,m,m',Y,al,h=>by
  unfold gU at h;split at h
  .rename_i h1;exact ayU (hk.yS _ _ _ _ _ _ _ h1) (lO hk h)
  .cases h
theorem Pz(hc:cu S)(hk:bS S){f:FuncId}{args:List IV}{r:Func×Env×Option IV×St}(h:DE P S ro f args Y=aa r):Y.n<=r.2.2.2.n:=by
 unfold DE at h;split at h
 .split at h
  .split at h
   .cases h
   .simp only at h;split at h
    .rename_i h1;split at h
     .rename_i h2;cases h;exact ayU (hc _ _ _ _ _ _ _ _ h1) (lO hk h2)
     .cases h
    .rename_i h1;split at h
     .rename_i h2;cases h;exact ayU (hc _ _ _ _ _ _ _ _ h1) (lO hk h2)
     .cases h
    .rename_i h1;split at h
     .rename_i h2;cases h;exact ayU (hc _ _ _ _ _ _ _ _ h1) (lO hk h2)
     .cases h
    .cases h
  .cases h
 .cases h
theorem uF{ops:Array Oper}:∀{l:List Oper} {e:Env} {m:Option IV} {Y:St} {r:Env×Option IV×St},pT P ro ops l e m Y=aa r->Y.n<=r.2.2.n
 |[],e,m,Y,r,h=>by cases h;exact ayA _
 |o::rest,e,m,Y,r,h=>by
  unfold pT at h;split at h
  .split at h
   .split at h
    .exact uF h
    .exact uF h
   .split at h
    .rename_i h1;exact ayU (nS h1) (uF h)
    .cases h
  .exact uF h
theorem Ka(hc:cu S){fn:FuncId}:∀{c:Code} {e:Env} {m:Option IV} {Y:St} {r:CR×Option IV},Be P S ro fn c e m Y=aa r->Y.n<=r.1.Y.n:=by
 intro c
 have other:∀{c:Code} {e:Env} {m:Option IV} {Y:St} {r:CR×Option IV},(match S.code ro ah fn c e [] Y with|some r=>aa (r,m)|none=>ah)=aa r->Y.n<=r.1.Y.n:=by
  intro c e m Y r h;split at h
  .rename_i h1;cases h;exact hc _ _ _ _ _ _ _ _ h1
  .cases h
 induction c with
 |seq a b WS ihb=>
  intro e m Y r h;unfold Be at h;split at h
  .rename_i h1;exact ayU (WS h1) (ihb h)
  .cases h
  .exact WS h
 |region id ops draw=>
  intro e m Y r h;unfold Be at h;split at h
  .split at h
   .rename_i h1;cases h;exact uF h1
   .cases h
  .exact other h
 |_=>intro e m Y r h;unfold Be at h;exact other h
theorem G9(hc:cu S)(hk:bS S):bS (nf P S) where
 call:=by
  intro ro f args Y v al h;simp only[nf,RU]at h;split at h
  .rename_i h1;split at h
   .cases h;exact Pz hc hk h1
   .cases h
  .cases h
 cw:=by
  intro ro f args Y v al h;simp only[nf,Zd]at h;split at h
  .rename_i h1;cases h;exact Pz hc hk h1
  .cases h
 yS:=by
  intro ro f args m Y m' al h;simp only[nf,EG]at h;split at h
  .split at h
   .cases h
   .split at h
    .split at h
     .cases h
     .split at h
      .rename_i h1;split at h
       .cases h;exact Ka hc h1
       .cases h
      .rename_i h1;split at h
       .cases h;exact Ka hc h1
       .cases h
      .cases h
    .cases h
  .cases h
end
section
variable{P:Program}{N ro m:Nat}{Z:Io}{w:World}{Y:St}{e:Env}{a:Act}{S:Self}{F:Fence}{rd:Option Nat}{Q:Exit->Act->World->Prop}
def G_(ch:List PanicEntry):Ex->Exit
 |.normal=>.normal
 |.exit id=>.exit id
 |.goto l=>.goto l
 |.ret=>.ret
 |.cw _=>.panic ch
def Sr(Z:Io)(ch:List PanicEntry):Ex->Prop
 |.cw v=>∃u,ch=[{v:=u,recovered:=af}]/\Rv Z v u
 |_=>True
def pj(Z:Io):Option IV->FrameMode->Prop
 |none,u=>u=.returning
 |some v,u=>∃x,u=.panicking [{v:=x,recovered:=af}]/\Rv Z v x
def kN(F:Fence)(rd:Option Nat)(Z:Io):Prop:=(rd=ah/\F=ay8)\/∃l loc,rd=aa l/\Z l 0=aa loc/\F=ay8.inRound loc.b
theorem kN.mono{aJ:Io}(iV:Ext Z aJ)(h:kN F rd Z):kN F rd aJ:=by
 rcases h with h|⟨l,loc,h1,h2,h3⟩
 .exact .inl h
 .exact .inr ⟨l,loc,h1,iV _ _ _ h2,h3⟩
theorem kN.fn(h:kN F rd Z)(f:FuncId):F.fn f:=by rcases h with⟨_,rfl⟩|⟨_,_,_,_,rfl⟩<;>trivial
theorem kN.depth(h:kN F rd Z){n:Nat}:F.depth.isSome=ab->1<=n:=by rcases h with⟨_,rfl⟩|⟨_,_,_,_,rfl⟩<;>(intro h;simp[ay8,aDw]at h)
theorem kN.calls(h:kN F rd Z){f:FuncId}{us:Array Value}{R:Ending->World->Prop}(hc:CallsIn ay8 0 P f us w R):CallsIn F (0- 1) P f us w R:=by
 rcases h with⟨_,rfl⟩|⟨_,_,_,_,rfl⟩<;>exact hc
theorem kN.inRound(h:kN F rd Z)(l:Nat):F.inRound l=ay8.inRound l:=by rcases h with⟨_,rfl⟩|⟨_,_,_,_,rfl⟩<;>rfl
def tZ(N ro:Nat)(Z:Io)(w:World)(Y:St)(cr:CR)(Q:Exit->Act->World->Prop):Prop:=
 ∀a' w' aJ ch,Inv N aJ cr.Y w'->Le ro Z w Y aJ w' cr.Y->dc aJ cr.e a'.tmps->lD aJ cr.df a'.defers->Sr aJ ch cr.ex->Q (G_ ch cr.ex) a' w'
def Zt(F:Fence)(P:Program)(m:Nat)(c:Code)(Q:Exit->Act->World->Prop)(a:Act)(w:World):Prop:=
 match c with
 |.loop b=>aDI F 0 P b Q m a w
 |c=>c.wpIn F 0 P Q a w
theorem Zt.wp{c:Code}(h:Zt F P m c Q a w):c.wpIn F 0 P Q a w:=by
 cases c<;>first|exact h|exact wpIn_loop_rounds _ h
def zh(N ro:Nat)(Z:Io)(w:World)(Y:St)(v:IV)(al:St):Ending->World->Prop
 |.returned u,w'=>∃aJ,Rv aJ v u/\Inv N aJ al w'/\Le ro Z w Y aJ w' al
 |_,_=>False
def iv(P:Program)(S:Self)(m:Nat):Prop:=∀N ro rd fn c e df Y cr,S.code ro rd fn c e df Y=aa cr->cr.Y.n<=N->∀F Z a w Q,kN F rd Z->Inv N Z Y w->dc Z e a.tmps->lD Z df a.defers->
 tZ N ro Z w Y cr Q->Zt F P m c Q a w
def Q9(N ro:Nat)(Z:Io)(w:World)(Y:St)(v:IV)(al:St):Ending->World->Prop
 |.panicked ch,w'=>∃aJ,Sr aJ ch (.cw v)/\Inv N aJ al w'/\Le ro Z w Y aJ w' al
 |_,_=>False
def LD(N ro:Nat)(Z:Io)(w:World)(Y:St)(m:Option IV)(al:St):Ending->FrameMode->World->Prop
 |.returned _,u,w'=>∃aJ,pj aJ m (settle u)/\Inv N aJ al w'/\Le ro Z w Y aJ w' al
 |_,_,_=>False
structure ff(P:Program)(S:Self):Prop where
 call:∀N ro f args Y v al,S.call ro f args Y=aa (v,al)->al.n<=N->∀Z us w,Inv N Z Y w->aG Z args us->CallsIn ay8 0 P f us.toArray w (zh N ro Z w Y v al)
 cw:∀N ro f args Y v al,S.cw ro f args Y=aa (v,al)->al.n<=N->∀Z us w,Inv N Z Y w->aG Z args us->CallsIn ay8 0 P f us.toArray w (Q9 N ro Z w Y v al)
 yS:∀N ro f args m Y m' al,S.yS ro f args m Y=aa (m',al)->al.n<=N->∀Z us u w,pj Z m u->Inv N Z Y w->aG Z args us->CallsDIn ay8 0 P f us.toArray u w (LD N ro Z w Y m' al)
 DT:∀ro f args m Y m' al,S.yS ro f args m Y=aa (m',al)->∃fn,P.funcs[f]?=aa fn/\(fn.body.isSome&&fn.name != "runtime.NumGoroutine")=ab
theorem tZ.from{cr:CR}{bX:Io}{w1:World}{au:St}(h:tZ N ro Z w Y cr Q)(hi:Inv N Z Y w)(hl:Le ro Z w Y bX w1 au)(hn:au.n<=N):tZ N ro bX w1 au cr Q:=
 λa' w' aJ ch h1 h2 h3 h4 h5=>h a' w' aJ ch h1 (Le.trans (λid h1 h2=>hi.fresh id h1 ai) hl h2) h3 h4 h5
theorem Le.then(hi:Inv N Z Y w){bX r9:Io}{w1 w2:World}{au cU:St}(hn:au.n<=N)(h:Le ro Z w Y bX w1 au)(k:Le ro bX w1 au r9 w2 cU):Le ro Z w Y r9 w2 cU:=
 Le.trans (λid h1 h2=>hi.fresh id h1 ai) h k
theorem pn{l:Nat}{r:Loop}(h:w.heap[l]?=aa (.loop r)):(aDx l).run P w=.ok r w:=by
 simp only[aDx,ayL,dW (P:=P) h ax,ayD,ayT]
theorem heap_set{b:Nat}{o:Go.Obj}(h:b<w.heap.size):(w.heap.setIfInBounds b o)[b]?=aa o:=by simp[h]
theorem Ha:∀{ps:List Tmp} {args:List IV} {us:List Value} {e:Env} {ts:Array Value},dc Z e ts->aG Z args us->
 dc Z ((ps.zip args).foldl (λe (p,v)=>e.put (aa p) v) e) ((ps.zip us).foldl (λtmps (t,a)=>tmps.setIfInBounds t a) ts)
 |[],_,_,_,_,h,_=>h
 |p::ps,[],us,_,_,h,hr=>by rw[hr.of_nil];exact h
 |p::ps,v::args,us,e,ts,h,hr=>by
  obtain⟨u,r_,rfl,h1,h2⟩:=hr.x_;simp only[List.zip_cons_cons,aze];exact Ha (h.set h1 p) h2
theorem kC{l:Nat}{loc:Loc}{st:LoopState}{C3:Option Code}{f:FuncId}{tm:T IV}{l5:Nat}{ps:List Tmp}{gy bd:Code}{fV:Nat}(hi:Inv N Z Y w)(aK:Y.at l=aa (.loop st C3 f tm l5 ps gy bd fV))(hl:Z l 0=aa loc):
 ∃ld ts f',Z fV 0=aa ld/\w.heap[loc.b]?=aa (.loop {state:=st,pending:=C3,fn:=f',tmps:=ts,params:=ps.toArray,assign:=gy,body:=bd,defers:=ld.b})/\dc Z ⟨l5,tm⟩ ts/\loc.b<w.heap.size:=by
 obtain⟨l',ld,ts,f',cH,hd,hh,hs,ht⟩:=hi.obj l _ aK;rw[hl]at cH;cases cH;exact⟨ld,ts,f',hd,hh,⟨hs.symm,ht⟩,hi.jy l _ ⟨0,loc,hl,rfl⟩⟩
theorem PA(s:LoopState)(h:s≠.busy):(s==aD_)=af:=by cases s<;>first|rfl|exact absurd rfl h
theorem zU{l:Nat}{loc:Loc}{st dE:LoopState}{C3 zi:Option Code}{f f':FuncId}{tm:T IV}{l5:Nat}{ps:List Tmp}{gy bd:Code}{fV:Nat}{ld:Loc}{ts:Array Value}(hi:Inv N Z Y w)(eK:ro<=l)
 (aK:Y.at l=aa (.loop st C3 f tm l5 ps gy bd fV))(hl:Z l 0=aa loc)(hd:Z fV 0=aa ld)(he:dc Z ⟨l5,tm⟩ ts):
 let go:Go.Obj:=.loop {state:=dE,pending:=zi,fn:=f',tmps:=ts,params:=ps.toArray,assign:=gy,body:=bd,defers:=ld.b}
 Inv N Z (Y.put l (.loop dE zi f tm l5 ps gy bd fV)) {w with heap:=w.heap.setIfInBounds loc.b go}/\Le ro Z w Y Z {w with heap:=w.heap.setIfInBounds loc.b go} (Y.put l (.loop dE zi f tm l5 ps gy bd fV)):=by
 intro go;have aj:=hi.jy l _ ⟨0,loc,hl,rfl⟩;exact hi.zT aK eK hl ⟨loc,ld,ts,f',hl,hd,heap_set aj,he.1.symm,he.2⟩
theorem Hb{l:Nat}{R:Ending->World->Prop}{ex:Ex}{ch:List PanicEntry}(hx:¬ex.EE=ab){a:Act}{w:World}(h:∃v w',(aDm l (fR ex)).run P w=.ok v w'/\R (.returned v) w'):roundPost P l R (G_ ch ex) a w:=by
 cases ex<;>first|exact h|exact absurd rfl hx
theorem aeg(hS:iv P S m)(hm:cu S){l:Nat}{loc:Loc}{args:List IV}{us:List Value}{v:IV}{al:St}(h:DC S ro l args Y=aa (v,al))(hN:al.n<=N)(hF:kN F rd Z)(hi:Inv N Z Y w)
 (hl:Z l 0=aa loc)(hr:aG Z args us):
 ∃f' ts gy bd,(aCG loc.b us.toArray).run P w=.ok (.round loc.b f' ts gy bd) w/\RoundIn F 0 P loc.b f' ts gy bd w (zh N ro Z w Y v al):=by
 unfold DC at h;split at h
 .rename_i state pending f tm l5 params assign body fV aK;split at h
  .cases h
  .rename_i hc;have cd:args.length=params.length:=aAB λhx=>hc (.inl hx);have lE:ro<=l:=aAB λhx=>hc (.inr (.inl hx));have hc3:state=.ready:=aAB λhx=>hc (.inr (.inr hx));simp only at h;split at h
   .rename_i e1 au h1;split at h
    .rename_i aeh f1 Ai EF params1 WG agj sy po;split at h
     .rename_i ex e2 cU h2;split at h
      .cases h
      rename_i hnp;split at h
      .rename_i st3 axI f3 Jp C7 params3 axm axJ nU Aq;cases h;obtain⟨ld,ts,f',hd,hh,he,aj⟩:=kC hi aK hl;have yb:cU.n<=N:=hN
       have eC:au.n<=N:=by
        have:=hm _ _ _ _ _ _ _ _ h2;simp only[St.ng]at this;omega
       have bf:us.toArray.size=params.toArray.size:=by simp[<-hr.1,cd]
       refine⟨f',(params.zip us).foldl (λtmps (t,a)=>tmps.setIfInBounds t a) ts,assign,body,?_,?_⟩
       .have hz:((params.toArray.zip us.toArray).foldl (λtmps (t,a)=>tmps.setIfInBounds t a) ts)=(params.zip us).foldl (λtmps (t,a)=>tmps.setIfInBounds t a) ts:=by simp[List.zip_toArray]
        simp only[aCG,ayL,pn hh,ayD,bf,ne_eq,not_true_eq_false,if_false,ayT,hz]
       .refine roundIn_of_wpIn (hF.fn f') ?_;rw[hF.inRound];refine(hS N ro (aa l) f assign _ [] Y _ h1 eC (ay8.inRound loc.b) Z {tmps:=_,defers:=[]} w _ (.inr ⟨l,loc,rfl,hl,rfl⟩) hi (Ha he hr) trivial ?_).wp;intro a1 w1 bX fB i1 l1 dB d1 p1;have oL:=l1.ext _ _ _ hl;obtain⟨ld1,ts1,f1',Ar,wu,lF,oN⟩:=kC i1 po oL;obtain⟨i2,l2⟩:=zU (ro:=ro) (dE:=.busy) (zi:=aeh) (f':=f1') i1 lE po oL Ar lF;refine⟨_,by simp only[Instr.beginRound,ayL,pn wu,ayD,ic (P:=P) wu ax,ayT];rfl,?_⟩;refine(hS N ro (aa l) f body _ [] _ _ h2 yb (ay8.inRound loc.b) bX a1 _ _ (.inr ⟨l,loc,rfl,oL,rfl⟩) i2 dB d1 ?_).wp;intro a2 w2 r9 ch2 i3 l3 e2' d2 p2;refine Hb hnp ?_;have fC:=l3.ext _ _ _ oL;obtain⟨ld2,ts2,f2',Jq,uG,Bp,bJ⟩:=kC i3 Aq fC;obtain⟨i4,l4⟩:=zU (ro:=ro) (dE:=if(fR ex).isNone then .ready else .done) (zi:=fR ex) (f':=f2') i3 lE Aq fC Jq Bp;refine⟨.bool (fR ex).isNone,_,by simp only[aDm,ayL,pn uG,ayD,ic (P:=P) uG ax,ayT];rfl,r9,?_,?_,?_⟩
        .exact .raw _
        .exact i4
        .have sO:=Le.then i2 yb l3 l4;have Bq:=Le.then i1 (by simp only[St.ng];exact eC) l2 sO;exact Le.then hi eC l1 Bq
      .cases h
     .cases h
    .cases h
   .cases h
 .cases h
end
section
variable{P:Program}{N ro m:Nat}{Z:Io}{w:World}{Y:St}{e:Env}{a:Act}{S:Self}{F:Fence}{rd:Option Nat}{Q:Exit->Act->World->Prop}
theorem jg{ρ:Operand->IV}{o:Oper}{out:gq}(h:aA P ro ρ o Y=aa out)(hd:∀d,out≠.WE d):∀c,o.op≠.defer c:=by
 intro c hc;unfold aA at h;rw[hc]at h;dsimp only at h;split at h
 .split at h
  .cases h;exact hd _ rfl
  .cases h
 .cases h
theorem DU(hS:iv P S m)(hC:ff P S)(hm:cu S){o:Oper}{v:IV}{al:St}{next:Act->World->Prop}(h:kY P S ro e o Y=aa (v,al))(hN:al.n<=N)(hF:kN F rd Z)(hi:Inv N Z Y w)
 (he:dc Z e a.tmps)(hQ:∀u w' aJ,Rv aJ v u->Inv N aJ al w'->Le ro Z w Y aJ w' al->next (a.put o.dst u) w'):o.wpIn F 0 P a w next Q:=by
 refine⟨λf _=>hF.fn f,?_⟩;unfold kY at h;split at h
 .rename_i v1 au h1;cases h;rw[aAn _ _ _ (jg h1 ax)];obtain⟨u,w',aJ,hr,h2,h3,h4⟩:=qv hi he.eval h1 hN;rcases hr with hr|⟨hr,rfl⟩
  .rw[hr,aCZ];exact hQ _ _ _ h2 h3 h4
  .rw[hr,aDe];exact hQ _ _ _ h2 h3 h4
 .rename_i f args h1;rw[aAn _ _ _ (jg h1 ax)];obtain⟨us,hr,h2⟩:=qv hi he.eval h1;rw[hr,aB1];refine⟨hF.depth,(hF.calls (hC.call N ro f args Y v al h hN Z us w hi h2)).mono λe w' hR=>?_⟩;cases e with
  |returned u=>obtain⟨aJ,h3,h4,h5⟩:=hR;exact hQ _ _ _ h3 h4 h5
  |panicked chain=>exact hR.elim
  |outgrown=>exact hR.elim
 .rename_i l args h1;rw[aAn _ _ _ (jg h1 ax)];obtain⟨loc,us,hl,hr,h2⟩:=qv hi he.eval h1;obtain⟨f',ts,gy,bd,h3,h4⟩:=aeg (F:=F) hS hm h hN hF hi hl h2;rw[hr,h3,Oper.uponIn_round];refine⟨hF.depth,RoundIn.mono h4 λe w' hR=>?_⟩;cases e with
  |returned u=>obtain⟨aJ,h3,h4,h5⟩:=hR;exact hQ _ _ _ h3 h4 h5
  |panicked chain=>exact hR.elim
  |outgrown=>exact hR.elim
 .cases h
theorem LF(hS:iv P S m)(hC:ff P S)(hm:cu S)(hk:bS S){ops:Array Oper}:∀{l:List Oper} {k:Nat} {e:Env} {df:List Df} {Y:St} {cr:CR} {Z:Io} {a:Act} {w:World},
 ops.toList.drop k=l->Bc P S ro rd ops l e df Y=aa cr->cr.Y.n<=N->kN F rd Z->Inv N Z Y w->dc Z e a.tmps->lD Z df a.defers->tZ N ro Z w Y cr Q->
 wpOpsIn F 0 P ops Q (az3 k l.length) a w
 |[],k,e,df,Y,cr,Z,a,w,hl,h,hN,hF,hi,he,hd,hQ=>by
  cases h;exact hQ a w Z [] hi (Le.refl _ _ _ _) he hd trivial
 |o::rest,k,e,df,Y,cr,Z,a,w,hl,h,hN,hF,hi,he,hd,hQ=>by
  have ia:ops.toList.drop (k+1)=rest:=by
   rw[<-aAG (i:=1) (j:=k),hl];rfl
  have bu:ops[k]?=aa o:=by
   have:(ops.toList.drop k)[0]?=aa o:=by rw[hl];rfl
   simpa using this
  simp only[ay6,aAX];rw[wpOpsIn_cons];unfold wpOpIn;rw[bu];simp only;unfold Bc at h;rw[uE he];split at h
  .rename_i hw;rw[if_pos hw];split at h
   .rename_i v au h1;have eC:au.n<=N:=ayU (Ao hm hk h) hN;refine DU hS hC hm h1 eC hF hi he λu w' aJ hv i1 l1=>?_;exact LF hS hC hm hk ia h hN (hF.mono l1.ext) i1 ((he.mono l1.ext).put hv _) (hd.mono l1.ext|>λx=>by cases o.dst<;>exact x) (hQ.from hi l1 eC)
   .split at h
    .rename_i d h1;split at h
     .rename_i fg;have hrn:rd=ah:=by cases rd with|none=>rfl|some _=>cases fg
      have Ss:F=ay8:=by
       rcases hF with⟨_,h2⟩|⟨_,_,h2,_⟩
       .exact h2
       .rw[hrn]at h2;cases h2
      refine⟨λf _=>hF.fn f,?_⟩;obtain⟨dd,hr,Jr,c,hc⟩:=qv hi he.eval h1;have aei:(o.semAt F.round a.eval)=execOp a.eval o:=by rw[Ss];rfl
      rw[aei,hr,aC0];refine LF hS hC hm hk ia h hN hF hi ?_ ?_ hQ
      .cases fN:o.dst with
       |none=>exact he
       |some t=>exact he.set tY t
      .cases o.dst<;>exact⟨Jr,hd⟩
     .cases h
    .rename_i f args h1;split at h
     .rename_i v au h2;cases h;refine⟨λf _=>hF.fn f,?_⟩;rw[aAn _ _ _ (jg h1 ax)];obtain⟨us,hr,h3⟩:=qv hi he.eval h1;rw[hr,aB1];refine⟨hF.depth,(hF.calls (hC.cw N ro f args Y v au h2 hN Z us w hi h3)).mono λed w' hR=>?_⟩;cases ed with
      |returned u=>exact hR.elim
      |outgrown=>exact hR.elim
      |panicked chain=>
       obtain⟨aJ,h4,h5,h6⟩:=hR;exact hQ a w' aJ chain h5 h6 (he.mono h6.ext) (hd.mono h6.ext) h4
     .cases h
    .rename_i v h1;cases h;refine⟨λf _=>hF.fn f,?_⟩;rw[aAn _ _ _ (jg h1 ax)];obtain⟨u,hr,h3⟩:=qv hi he.eval h1;rw[hr,Oper.uponIn_panic];exact hQ a w Z [{v:=u,recovered:=af}] hi (Le.refl _ _ _ _) he hd ⟨u,rfl,h3⟩
    .cases h
  .rename_i hw;rw[if_neg hw];exact⟨λf _=>hF.fn f,LF hS hC hm hk ia h hN hF hi (he.put tY _) (by cases o.dst<;>exact hd) hQ⟩
def Su(P:Program)(S:Self):Prop:=∀N ro rd ops e df Y cr,RT P S ro ops e df Y=aa cr->cr.Y.n<=N->∀F Z a w Q id,kN F rd Z->Inv N Z Y w->dc Z e a.tmps->lD Z df a.defers->
 tZ N ro Z w Y cr Q->(aDY id ops ab).wpIn F 0 P Q a w
theorem Kb{x:IV}{b:Bool}{u:Value}(hx:x=.raw (.bool b))(h:Rv Z x u):u=.bool b:=by subst hx;cases h;rfl
theorem lD.append:∀{ds:List Df} {xs:List Deferred} {sg:List Df} {yd:List Deferred},lD Z ds xs->lD Z sg yd->lD Z (ds++sg) (xs++yd)
 |[],[],_,_,_,h=>h
 |_::_,_::_,_,_,h,h'=>⟨h.1,lD.append h.2 h'⟩
 |[],_::_,_,_,h,_=>h.elim
 |_::_,[],_,_,h,_=>h.elim
def Sv(rd:Option Nat)(Y:St):Option (Nat×St×List Df):=
 match rd with
 |none=>aa (Y.n,Y.add (.Gy af),[.wI Y.n])
 |some l=>match Y.at l with
  |some (.loop _ _ _ _ _ _ _ _ fV)=>aa (fV,Y,[])
  |_=>ah
theorem Sw{fV:Nat}{au:St}{mark:List Df}(h:Sv rd Y=aa (fV,au,mark))(hN:au.n<=N)(hF:kN F rd Z)(hi:Inv N Z Y w):
 ∃w1 bX ld marks,Inv N bX au w1/\Le ro Z w Y bX w1 au/\bX fV 0=aa ld/\lD bX mark marks/\
  ∀fn ts ps gy bd,(aB8 fn ts ps gy bd F.round).run P w=.ok (w1.heap.size,marks) {w1 with heap:=w1.heap.push (.loop {state:=.ready,pending:=ah,fn,tmps:=ts,params:=ps,assign:=gy,body:=bd,defers:=ld.b})}:=by
 unfold Sv at h;split at h
 .cases h
  have Ss:F.round=ah:=by
   rcases hF with⟨_,rfl⟩|⟨_,_,h,_⟩
   .rfl
   .cases h
  obtain⟨h1,h2⟩:=hi.DP (ro:=ro) (go:=.deferred (aa [])) (ob:=.Gy af) (by simp at hN;omega) ⟨_,cK _ _ _ _,by simp⟩;refine⟨_,_,⟨w.heap.size,1,1⟩,[{target:=.collected w.heap.size,args:= #[]}],h1,h2,cK _ _ _ _,⟨⟨_,cK _ _ _ _,rfl⟩,trivial⟩,λfn ts ps gy bd=>?_⟩;rw[Ss];simp only[aB8,ayL,run_newObj,ayD,ayT]
 .rename_i l;split at h
  .rename_i aK;cases h;rcases hF with⟨h,_⟩|⟨l',loc,h,hl,rfl⟩
   .cases h
   .cases h;obtain⟨ld,ts,f',hd,hh,he,aj⟩:=kC hi aK hl;refine⟨w,Z,ld,[],hi,Le.refl _ _ _ _,hd,trivial,λfn ts ps gy bd=>?_⟩;simp only[aB8,aDw,ayL,pn hh,run_newObj,ayD,ayT]
  .cases h
theorem aej(hS:iv P S m)(hC:ff P S)(hm:cu S)(hk:bS S){fn:FuncId}{g:Operand}{ps:Array Tmp}{gy bd:Code}{df:List Df}{cr:CR}
 (h:xY P S ro rd fn (.rangeFunc g ps gy bd) e df Y=aa cr)(hN:cr.Y.n<=N)(hF:kN F rd Z)(hi:Inv N Z Y w)(he:dc Z e a.tmps)(hd:lD Z df a.defers)(hQ:tZ N ro Z w Y cr Q):
 (Code.rangeFunc g ps gy bd).wpIn F 0 P Q a w:=by
 unfold xY at h;dsimp only at h
 change(match Sv rd Y with
  |some (fV,Y,mark)=>_
  |none=>ah)=aa cr at h
 split at h
 .rename_i fV au mark DQ;split at h
  .rename_i f args kO;split at h
   .rename_i v3 l6 agl;split at h
    .rename_i st C3 f3 tm l5 uH Js uJ nU Aq;split at h
     .cases h
     .rename_i hb;have da:st≠.busy:=λhx=>hb (.inl hx);have eR:ro<=au.n:=aAB λhx=>hb (.inr hx)
      have wv:l6.n<=N:=by
       split at h
       .cases h;exact hN
       .have:=hm _ _ _ _ _ _ _ _ h;simp only[St.ng]at this;omega
      have yb:=hk.call _ _ _ _ _ _ agl;simp only[St.kB]at yb;obtain⟨w1,bX,ld,marks,i1,l1,wx,LG,C8⟩:=Sw (P:=P) (ro:=ro) DQ ai hF hi;refine wpIn_rangeFunc λPB _=>?_;have h_:=i1.fresh au.n (ayA _) ai 0;have gI:=lx (l:=⟨w1.heap.size,1,1⟩) h_
      obtain⟨i2,l2⟩:=i1.DP (ro:=ro) (go:=.loop {state:=.ready,pending:=ah,fn:=PB,tmps:=a.tmps,params:=ps,assign:=gy,body:=bd,defers:=ld.b}) (ob:=.loop .ready ah fn e.t e.n ps.toList gy bd fV) ai
       ⟨⟨w1.heap.size,1,1⟩,ld,a.tmps,PB,cK _ _ _ _,gI _ _ _ wx,by simp,he.1.symm,λt=>((he.2 t).mono l1.ext).mono gI⟩
      have fC:c_ bX au.n 0 ⟨w1.heap.size,1,1⟩ au.n 0=aa ⟨w1.heap.size,1,1⟩:=cK _ _ _ _;generalize Jt:({w1 with heap:=w1.heap.push (.loop {state:=.ready,pending:=ah,fn:=PB,tmps:=a.tmps,params:=ps,assign:=gy,body:=bd,defers:=ld.b})}:World)=w2 at i2 l2;generalize c_ bX au.n 0 ⟨w1.heap.size,1,1⟩=r9 at i2 l2 fC gI;obtain⟨d,gr,jf⟩:=Bo (w:=w2) (((he.mono l1.ext).mono gI).eval g) (aG.cons (.r8 au.n _ fC) aG.nil) kO;rcases jf with⟨f',as,vs,jb,hinv,db,_⟩|⟨_,_,jb,_⟩
      .cases jb;refine⟨w1.heap.size,marks,w2,d,w2,f,vs.toArray,w2,by rw[C8,Jt],?_,λf' _=>hF.fn f',hinv,hF.depth,?_⟩
       .simpa[resolve,rangeCall,Act.eval]using gr
       .refine(hF.calls (hC.call N ro f args _ _ _ agl wv r9 vs w2 i2 db)).mono λed w3 hR=>?_;cases ed with
        |panicked chain=>exact hR.elim
        |outgrown=>exact hR.elim
        |returned u=>
         obtain⟨PC,_,i3,l3⟩:=hR;have DV:=l3.ext _ _ _ fC;obtain⟨ld3,ts3,f3',hd3,PD,PE,ET⟩:=kC i3 Aq DV;obtain⟨i4,l4⟩:=zU (ro:=ro) (dE:=.exhausted) (zi:=C3) (f':=f3') i3 eR Aq DV hd3 PE;refine⟨C3,_,by simp only[Instr.endLoop,ayL,pn PD,ayD,PA st da,ayW,if_false,ic (P:=P) PD ax,ayT];rfl,?_⟩;have l34:=Le.then i2 wv l3 l4;have Bq:=Le.then i1 (by simp only[St.kB];omega) l2 l34;have sO:=Le.then hi ai l1 Bq;have e4:dc PC e a.tmps:=he.mono sO.ext;have d4:lD PC (mark++df) (marks++a.defers):=(LG.mono Bq.ext).append (hd.mono sO.ext);split at h
         .cases h;exact hQ _ _ _ [] i4 sO e4 d4 trivial
         .rename_i c;exact(hS N ro rd fn c e _ _ cr h hN F PC {a with defers:=marks++a.defers} _ Q (hF.mono sO.ext) i4 e4 d4 (hQ.from hi sO (by simp only[St.ng];exact wv))).wp
      .cases jb
    .cases h
   .cases h
  .cases h
 .cases h
theorem WT(hS:iv P S m)(hC:ff P S)(hm:cu S)(hk:bS S)(hD:Su P S):iv P (nf P S) (m+1):=by
 intro N ro rd fn c e df Y cr h hN F Z a w Q hF hi he hd hQ;change xY P S ro rd fn c e df Y=aa cr at h;cases c<;>unfold xY at h<;>dsimp only at h
 case skip=>cases h;exact wpIn_skip (hQ a w Z [] hi (Le.refl _ _ _ _) he hd trivial)
 case label=>cases h;exact wpIn_label (hQ a w Z [] hi (Le.refl _ _ _ _) he hd trivial)
 case exit=>cases h;exact wpIn_exit (hQ a w Z [] hi (Le.refl _ _ _ _) he hd trivial)
 case goto=>cases h;exact wpIn_goto (hQ a w Z [] hi (Le.refl _ _ _ _) he hd trivial)
 case ret=>cases h;exact wpIn_ret (hQ a w Z [] hi (Le.refl _ _ _ _) he hd trivial)
 case refuse=>cases h
 case region id ops draw=>
  split at h
  .rename_i G6;subst G6;exact hD N ro rd ops e df Y cr h hN F Z a w Q id hF hi he hd hQ
  .rename_i G6;have:draw=af:=by simpa using G6
   subst this;refine wpIn_region ?_;have:=LF (k:=0) hS hC hm hk ax h hN hF hi he hd hQ;rw[aBs];simpa using this
 case seq x y=>
  refine wpIn_seq ?_;split at h
  .rename_i e1 sP au h1;have eC:au.n<=N:=ayU (hm _ _ _ _ _ _ _ _ h) hN;refine(hS N ro rd fn x e df Y _ h1 eC F Z a w _ hF hi he hd ?_).wp;intro a1 w1 bX fB i1 l1 dB d1 p1;exact(hS N ro rd fn y _ _ _ _ h hN F bX a1 w1 Q (hF.mono l1.ext) i1 dB d1 (hQ.from hi l1 eC)).wp
  .rename_i cS;refine(hS N ro rd fn x e df Y _ h hN F Z a w _ hF hi he hd ?_).wp;intro a1 w1 bX fB i1 l1 dB d1 p1;have:=hQ a1 w1 bX fB i1 l1 dB d1 p1;cases hx:cr.ex with
   |normal=>exact absurd (by rw[h];cases cr;cases hx;rfl) (cS cr.e cr.df cr.Y)
   |exit id=>rw[hx]at this;exact this
   |goto l=>rw[hx]at this;exact this
   |ret=>rw[hx]at this;exact this
   |cw v=>rw[hx]at this;exact this
 case cond c x y=>
  split at h
  .rename_i t ht;have hc:=Kb ht (he.eval c);exact wpIn_cond hc (hS N ro rd fn _ e df Y cr h hN F Z a w Q hF hi he hd hQ).wp
  .cases h
 case block id x=>
  refine wpIn_block ?_;split at h
  .rename_i bz e1 sP au h1
   have eC:au.n<=N:=by
    split at h<;>(cases h;exact hN)
   refine(hS N ro rd fn x e df Y _ h1 eC F Z a w _ hF hi he hd ?_).wp;intro a1 w1 bX fB i1 l1 dB d1 p1;simp only[G_,aDQ];split at h
   .rename_i hid;cases h;rw[if_pos hid];exact hQ a1 w1 bX fB i1 l1 dB d1 p1
   .rename_i hid;cases h;rw[if_neg hid];exact hQ a1 w1 bX fB i1 l1 dB d1 p1
  .rename_i cS;refine(hS N ro rd fn x e df Y _ h hN F Z a w _ hF hi he hd ?_).wp;intro a1 w1 bX fB i1 l1 dB d1 p1;have:=hQ a1 w1 bX fB i1 l1 dB d1 p1;cases hx:cr.ex with
   |exit bz=>exact absurd (by rw[h];cases cr;cases hx;rfl) (cS bz cr.e cr.df cr.Y)
   |normal=>rw[hx]at this;exact this
   |goto l=>rw[hx]at this;exact this
   |ret=>rw[hx]at this;exact this
   |cw v=>rw[hx]at this;exact this
 case loop x=>
  show aDI F 0 P x Q (m+1) a w;rw[roundsIn_succ];split at h
  .rename_i e1 sP au h1;have eC:au.n<=N:=ayU (hm _ _ _ _ _ _ _ _ h) hN;refine(hS N ro rd fn x e df Y _ h1 eC F Z a w _ hF hi he hd ?_).wp;intro a1 w1 bX fB i1 l1 dB d1 p1;exact hS N ro rd fn (.loop x) _ _ _ _ h hN F bX a1 w1 Q (hF.mono l1.ext) i1 dB d1 (hQ.from hi l1 eC)
  .rename_i cS;refine(hS N ro rd fn x e df Y _ h hN F Z a w _ hF hi he hd ?_).wp;intro a1 w1 bX fB i1 l1 dB d1 p1;have:=hQ a1 w1 bX fB i1 l1 dB d1 p1;cases hx:cr.ex with
   |normal=>exact absurd (by rw[h];cases cr;cases hx;rfl) (cS cr.e cr.df cr.Y)
   |exit id=>rw[hx]at this;exact this
   |goto l=>rw[hx]at this;exact this
   |ret=>rw[hx]at this;exact this
   |cw v=>rw[hx]at this;exact this
 case scope x=>
  refine LC ?_;split at h
  .cases h
  .rename_i cS;refine(hS N ro rd fn x e df Y _ h hN F Z a w _ hF hi he hd ?_).wp;intro a1 w1 bX fB i1 l1 dB d1 p1;have:=hQ a1 w1 bX fB i1 l1 dB d1 p1;cases hx:cr.ex with
   |goto l=>exact absurd (by rw[h];cases cr;cases hx;rfl) (cS l cr.e cr.df cr.Y)
   |normal=>rw[hx]at this;exact this
   |exit id=>rw[hx]at this;exact this
   |ret=>rw[hx]at this;exact this
   |cw v=>rw[hx]at this;exact this
 case rangeFunc g params assign body=>
  exact aej hS hC hm hk (by unfold xY;exact h) hN hF hi he hd hQ
end
section
variable{P:Program}{N ro m:Nat}{Z:Io}{w:World}{Y:St}{e:Env}{a:Act}{S:Self}{F:Fence}{rd:Option Nat}{Q:Exit->Act->World->Prop}
theorem Nj{m:Option IV}{u:FrameMode}(h:pj Z m u):u≠.run:=by
 cases m with
 |none=>rw[show u=_ from h];simp
 |some v=>obtain⟨x,rfl,_⟩:=h;simp
theorem EU(hC:ff P S)(hk:bS S){fn:Func}{ts:Array Value}{R:Ending->World->Prop}:∀{df:List Df} {ds:List Deferred} {Y al:St} {m m':Option IV} {u:FrameMode} {Z:Io} {w:World},gU S ro df m Y=aa (m',al)->
 lD Z df ds->pj Z m u->Inv N Z Y w->al.n<=N->
 (∀w' aJ u',Inv N aJ al w'->Le ro Z w Y aJ w' al->pj aJ m' u'->LeavesIn ay8 0 P fn ts R [] u' w')->LeavesInM ay8 0 P fn ts R ds u w
 |[],[],Y,al,m,m',u,Z,w,h,_,hu,hi,_,hQ=>by
  cases h;exact hQ w Z u hi (Le.refl _ _ _ _) hu
 |.wI id::df,d::ds,Y,al,m,m',u,Z,w,h,hd,hu,hi,hn,hQ=>by
  unfold gU at h;obtain⟨⟨l,hl,rfl⟩,Hc⟩:=hd;split at h
  .rename_i aK;split at h
   .rename_i eK;obtain⟨l',cH,hh⟩:=hi.obj id _ aK;rw[hl]at cH;cases cH;have aj:=hi.jy id _ ⟨0,l,hl,rfl⟩;obtain⟨i1,l1⟩:=hi.zT (ro:=ro) (go:=.deferred ah) (fK:=.Gy ab) aK eK hl ⟨l,hl,heap_set aj⟩;have gB:=lO hk h;simp only[St.ng]at gB;refine⟨Nj hu,.inl ⟨l.b,_,rfl,?_,EU hC hk h Hc hu i1 hn λw' aJ u' i2 l2 GA=>hQ w' aJ u' i2 (Le.then hi (by simp only[St.ng];omega) l1 l2) GA⟩⟩;simp only[Instr.takeDeferred,ayL,dW (P:=P) hh ax,ayD,ayW,if_false,ic (P:=P) hh ax,ayT]
   .cases h
  .cases h
 |.call f args::df,d::ds,Y,al,m,m',u,Z,w,h,hd,hu,hi,hn,hQ=>by
  unfold gU at h;obtain⟨⟨cap,us,vs,rfl,db,i_⟩,Hc⟩:=hd;split at h
  .rename_i m1 au h1;have gB:=lO hk h;have hc:=hC.yS N ro f args m Y m1 au h1 ai Z vs u w hu hi db;refine⟨Nj hu,.inr ⟨by simp[ay8],.func f,cap.toArray,f,vs.toArray,rfl,?_,λg _=>trivial,?_⟩⟩
   .obtain⟨PB,cL,hb⟩:=hC.DT ro f args m Y m1 au h1;simp only[invoke];rw[C6 cL hb,i_];simp
   .refine hc.mono λe u' w' hR=>?_;cases e with
    |returned v=>
     obtain⟨bX,As,i1,l1⟩:=hR;exact EU hC hk h (Hc.mono l1.ext) As i1 hn λw2 r9 u2 i2 l2 Au=>hQ w2 r9 u2 i2 (Le.then hi ai l1 l2) Au
    |panicked chain=>exact hR.elim
    |outgrown=>exact hR.elim
  .cases h
 |[],_::_,_,_,_,_,_,_,_,_,h,_,_,_,_=>h.elim
 |.wI _::_,[],_,_,_,_,_,_,_,_,h,_,_,_,_=>h.elim
 |.call _ _::_,[],_,_,_,_,_,_,_,_,h,_,_,_,_=>h.elim
def C9(P:Program)(e:Env)(Y:St)(r:ResultVar):Option IV:=
 match r with
 |.tmp t=>aa (e.at t)
 |.cell a t=>match e.at a with
  |.ptr id off ep ext=>match aS P t,Y.at id with
   |some s,aa (.cells cs aB mn)=>if s<=ext/\mn<=ep/\ep<=aB then partOf P t cs off else ah
   |_,_=>ah
  |_=>ah
def Nk(ts:Array Value)(r:ResultVar):Sem Value:=
 match r with
 |.tmp t=>pure (ts.getD t azk)
 |.cell a t=>do loadVar t (<-asAddr (ts.getD a azk))
theorem aka{ts:Array Value}{r:ResultVar}{v:IV}(h:C9 P e Y r=aa v)(hi:Inv N Z Y w)(he:dc Z e ts):∃u,(Nk ts r).run P w=.ok u w/\Rv Z v u:=by
 unfold C9 at h;unfold Nk;cases r with
 |tmp t=>cases h;exact⟨_,by simp only[ayT],he.2 t⟩
 |cell a t=>
  simp only at h⊢;have hr:=he.2 a;split at h
  .rename_i id off ep ext hx;rw[hx]at hr;split at h
   .rename_i s cs aB mn hs aK;split at h
    .rename_i hc;obtain⟨ad,x,hu,h1,h2⟩:=GX hi hs aK hc.1 hc.2.1 hc.2.2 h hr;refine⟨x,?_,h2⟩;rw[hu];simp only[asAddr,ayL,ayT,ayD,h1]
    .cases h
   .cases h
  .cases h
theorem WU{ts:Array Value}(hi:Inv N Z Y w)(he:dc Z e ts):∀{rs:List ResultVar} {vs:List IV},rs.mapM (C9 P e Y)=aa vs->∃us,(rs.mapM (Nk ts)).run P w=.ok us w/\aG Z vs us
 |[],vs,h=>by
  simp only[aCr]at h;cases h;exact⟨[],by simp only[aCr,ayT],aG.nil⟩
 |r::rs,vs,h=>by
  rw[aAH]at h;cases h1:C9 P e Y r with
  |none=>rw[h1]at h;cases h
  |some v=>
   rw[h1]at h;cases h2:rs.mapM (C9 P e Y)with
   |none=>rw[h2]at h;cases h
   |some yU=>
    rw[h2]at h;cases h;obtain⟨u,k1,k2⟩:=aka h1 hi he;obtain⟨us,k3,k4⟩:=WU hi he h2;exact⟨u::us,by simp only[aAH,ayL,k1,ayD,k3,ayT],aG.cons k2 k4⟩
theorem Zu(fn:Func)(ts:Array Value):results fn ts=(do
 let vs<-fn.results.mapM (Nk ts)
 pure (if h:vs.size=1 then vs[0]else .tuple vs)):=by
 unfold results
 have:(λr:ResultVar=>(match r with|.tmp t=>pure (ts.getD t azk)|.cell a t=>do loadVar t (<-asAddr (ts.getD a azk)):Sem Value))=Nk ts:=by
  funext r;cases r<;>rfl
 rw[<-this];rfl
theorem Wp{fn:Func}{v:IV}(h:cC P fn e Y=aa v):∃vs,fn.results.toList.mapM (C9 P e Y)=aa vs/\((∃x,vs=[x]/\v=x)\/(vs.length≠1/\v=.aL vs)):=by
 unfold cC at h;dsimp only at h
 change(match fn.results.toList with
  |[r]=>C9 P e Y r
  |l=>match l.mapM (C9 P e Y)with
   |some vs=>aa (.aL vs)
   |none=>ah)=aa v at h
 split at h
 .rename_i r hl;exact⟨[v],by rw[hl,aAH,h];rfl,.inl ⟨v,rfl,rfl⟩⟩
 .rename_i hl;split at h
  .rename_i vs db;cases h;refine⟨vs,db,.inr ⟨λhlen=>?_,rfl⟩⟩
   have oL:fn.results.toList.length=vs.length:=by
    clear hl hlen;generalize fn.results.toList=l at db;induction l generalizing vs with
    |nil=>cases db;rfl
    |cons r rs ih=>
     rw[aAH]at db;cases h1:C9 P e Y r with
     |none=>rw[h1]at db;cases db
     |some v=>
      rw[h1]at db;cases h2:rs.mapM (C9 P e Y)with
      |none=>rw[h2]at db;cases db
      |some yU=>
       rw[h2]at db;cases db;simp[ih _ h2]
   cases hc:fn.results.toList with
   |nil=>rw[hc]at oL;simp at oL;omega
   |cons r rs=>
    cases rs with
    |nil=>exact hl r hc
    |cons r2 rs2=>rw[hc]at oL;simp at oL;omega
  .cases h
theorem vg{fn:Func}{ts:Array Value}{v:IV}(h:cC P fn e Y=aa v)(hi:Inv N Z Y w)(he:dc Z e ts):∃u,(results fn ts).run P w=.ok u w/\Rv Z v u:=by
 obtain⟨vs,db,h⟩:=Wp h;obtain⟨us,h1,h2⟩:=WU hi he db
 have hm:(fn.results.mapM (Nk ts)).run P w=.ok us.toArray w:=by
  rw[Array.mapM_eq_mapM_toList,Sem.run_map,h1];rfl
 rw[Zu];simp only[ayL,hm,ayD,ayT];refine⟨_,rfl,?_⟩;rcases h with⟨x,rfl,rfl⟩|⟨hlen,rfl⟩
 .obtain⟨u,rfl,hu⟩:=wM h2;simpa using hu
 .have:¬us.toArray.size=1:=by rw[List.size_toArray,<-h2.1];exact hlen
  rw[dif_neg this];exact vf h2
theorem Sx:∀{args:List IV} {us:List Value} {k:Nat} {e:Env} {ts:Array Value},dc Z e ts->aG Z args us->
 dc Z ((args.zipIdx k).foldl (λe (v,i)=>e.put (aa i) v) e) ((us.zipIdx k).foldl (λts (u,i)=>ts.setIfInBounds i u) ts)
 |[],us,k,e,ts,h,hr=>by rw[hr.of_nil];exact h
 |v::args,us,k,e,ts,h,hr=>by
  obtain⟨u,r_,rfl,h1,h2⟩:=hr.x_;simp only[aB2,aze];exact Sx (h.set h1 k) h2
theorem LH:∀(us:List Value) (k:Nat) (ts:Array Value),k+us.length<=ts.size->(us.zipIdx k).foldl (λts (u,i)=>ts.setIfInBounds i u) ts=(ts.toList.take k++us++ts.toList.drop (k+us.length)).toArray
 |[],k,ts,_=>by simp
 |u::us,k,ts,h=>by
  simp only[aB2,aze];simp only[ay6]at h;rw[LH us (k+1) _ (by simp;omega)]
  congr 1
  simp only[aCf,ay6]
  have h1:(ts.toList.set k u).take (k+1)=ts.toList.take k++[u]:=by
   have hk:k<ts.toList.length:=by simp;omega
   rw[List.take_add_one,List.getElem?_set_self hk];simp[List.take_set_of_le]
  have h2:(ts.toList.set k u).drop (k+1+us.length)=ts.toList.drop (k+(us.length+1)):=by
   rw[List.drop_set_of_lt ai]
   congr 1
   omega
  rw[h1,h2];simp
theorem ail(n:Nat):dc Z ⟨n,.lf⟩ (azy n azk):=by
 refine⟨by simp,λt=>?_⟩
 have:(azy n azk).getD t azk=azk:=by
  rw[azm,aCi];split<;>rfl
 rw[this];exact .raw _
theorem Av{args:List IV}{us:List Value}{n:Nat}(hr:aG Z args us)(hn:args.length<=n):
 dc Z (args.zipIdx.foldl (λe (v,i)=>e.put (aa i) v) ⟨n,.lf⟩) (us.toArray++azy (n- us.toArray.size) azk):=by
 have h:=Sx (k:=0) (ail (Z:=Z) n) hr;have hl:=hr.1;rw[LH us 0 _ (by simp;omega)]at h
 have:(us.toArray++azy (n- us.toArray.size) azk)=((azy n azk).toList.take 0++us++(azy n azk).toList.drop (0+us.length)).toArray:=by
  simp
 rw[this];exact h
theorem WV(hS:iv P S m)(hC:ff P S)(hm:cu S)(hk:bS S){f:FuncId}{args:List IV}{Sy:Func}{e':Env}{mo:Option IV}{al:St}{us:List Value}{R:Ending->World->Prop}
 (h:DE P S ro f args Y=aa (Sy,e',mo,al))(hN:al.n<=N)(hi:Inv N Z Y w)(hr:aG Z args us)
 (hQ:∀ts w' aJ u',Inv N aJ al w'->Le ro Z w Y aJ w' al->dc aJ e' ts->pj aJ mo u'->LeavesIn ay8 0 P Sy ts R [] u' w'):CallsIn ay8 0 P f us.toArray w R:=by
 unfold DE at h;split at h
 .rename_i fn cL;split at h
  .rename_i c hb;split at h
   .cases h
   .rename_i hlen;simp only at h
    have key:∀{ex:Ex} {e1:Env} {df:List Df} {au:St} {mi:Option IV},S.code ro ah f c (args.zipIdx.foldl (λe (v,i)=>e.put (aa i) v) ⟨fn.ntmps,.lf⟩) [] Y=aa ⟨ex,e1,df,au⟩->
     (((ex=.normal\/ex=.ret)/\mi=ah)\/∃v,ex=.cw v/\mi=aa v)->
     (match gU S ro df mi au with
      |some (m,Y)=>aa (fn,e1,m,Y)
      |none=>ah)=aa (Sy,e',mo,al)->CallsIn ay8 0 P f us.toArray w R:=by
     intro ex e1 df au mi h1 hex h;split at h
     .rename_i m2 cU h2;obtain⟨rfl,rfl,rfl,rfl⟩:fn=Sy/\e1=e'/\m2=mo/\cU=al:=by cases h;exact⟨rfl,rfl,rfl,rfl⟩
      clear h;have gB:=lO hk h2;have eC:au.n<=N:=ai;refine callsIn_of_wp_marks cL hb trivial ?_;refine(hS N ro ah f c _ [] Y _ h1 eC ay8 Z {tmps:=us.toArray++azy (fn.ntmps- us.toArray.size) azk,defers:=[]} w _ (.inl ⟨rfl,rfl⟩) hi (Av hr ai) trivial ?_).wp;intro a1 w1 bX fB i1 l1 dB d1 p1
      have:∀u,pj bX mi u->LeavesInM ay8 0 P fn a1.tmps R a1.defers u w1:=λu hu=>
       EU hC hk h2 d1 hu i1 hN λw2 r9 u2 i2 l2 Au=>hQ a1.tmps w2 r9 u2 i2 (Le.then hi eC l1 l2) (dB.mono l2.ext) Au
      rcases hex with⟨rfl|rfl,rfl⟩|⟨v,rfl,rfl⟩
      .exact this _ rfl
      .exact this _ rfl
      .obtain⟨u,rfl,hu⟩:=p1;exact this _ ⟨u,rfl,hu⟩
     .cases h
    split at h
    .rename_i h1;exact key h1 (.inl ⟨.inl rfl,rfl⟩) h
    .rename_i h1;exact key h1 (.inl ⟨.inr rfl,rfl⟩) h
    .rename_i h1;exact key h1 (.inr ⟨_,rfl,rfl⟩) h
    .cases h
  .cases h
 .cases h
def th(Z:Io):Option IV->FrameMode->Prop
 |none,u=>u=.returning\/∃x,u=.panicking [{v:=x,recovered:=ab}]
 |some v,u=>∃x,u=.panicking [{v:=x,recovered:=af}]/\Rv Z v x
theorem th.of{m:Option IV}{u:FrameMode}(h:pj Z m u):th Z m u:=by
 cases m with
 |none=>exact .inl h
 |some v=>exact h
theorem th.mono{aJ:Io}(iV:Ext Z aJ){m:Option IV}{u:FrameMode}(h:th Z m u):th aJ m u:=by
 cases m with
 |none=>exact h
 |some v=>obtain⟨x,h1,h2⟩:=h;exact⟨x,h1,h2.mono iV⟩
theorem th.settle{m:Option IV}{u:FrameMode}(h:th Z m u):pj Z m (Go.settle u):=by
 cases m with
 |none=>
  rcases h with rfl|⟨x,rfl⟩
  .rfl
  .rfl
 |some v=>obtain⟨x,rfl,h2⟩:=h;exact⟨x,rfl,h2⟩
def Q_(N ro:Nat)(Z:Io)(w:World)(Y:St)(cr:CR)(m:Option IV)(c0:Frame)(sc:List Frame)(Q:Exit->Act->List Frame->World->Prop):Prop:=
 ∀a' w' aJ u' ch,Inv N aJ cr.Y w'->Le ro Z w Y aJ w' cr.Y->dc aJ cr.e a'.tmps->lD aJ cr.df a'.defers->Sr aJ ch cr.ex->th aJ m u'->Q (G_ ch cr.ex) a' ({c0 with mode:=u'}::sc) w'
theorem zV{ops:Array Oper}{Q:Exit->Act->List Frame->World->Prop}{c0:Frame}{sc:List Frame}:∀{l:List Oper} {k:Nat} {e:Env} {Y:St} {e':Env} {mo pX:Option IV} {al:St} {Z:Io} {a:Act} {u:FrameMode} {w:World},
 ops.toList.drop k=l->pT P ro ops l e mo Y=aa (e',pX,al)->al.n<=N->Inv N Z Y w->dc Z e a.tmps->a.defers=[]->th Z mo u->Q_ N ro Z w Y ⟨.normal,e',[],al⟩ pX c0 sc Q->
 wpOpsSIn ay8 0 P ops Q (az3 k l.length) a ({c0 with mode:=u}::sc) w
 |[],k,e,Y,e',mo,pX,al,Z,a,u,w,hl,h,hN,hi,he,hd,hu,hQ=>by
  cases h;exact hQ a w Z u [] hi (Le.refl _ _ _ _) he (by rw[hd];trivial) trivial hu
 |o::rest,k,e,Y,e',mo,pX,al,Z,a,u,w,hl,h,hN,hi,he,hd,hu,hQ=>by
  have ia:ops.toList.drop (k+1)=rest:=by
   rw[<-aAG (i:=1) (j:=k),hl];rfl
  have bu:ops[k]?=aa o:=by
   have:(ops.toList.drop k)[0]?=aa o:=by rw[hl];rfl
   simpa using this
  simp only[ay6,aAX];unfold wpOpsSIn;rw[bu];simp only;refine⟨λf _=>trivial,?_⟩;have Kc:∀v,(a.put o.dst v).defers=[]:=λv=>by cases o.dst<;>exact hd
  unfold pT at h;rw[uE he];split at h
  .rename_i hw;rw[if_pos hw];split at h
   .rename_i EV
    have hex:(execOp a.eval o).run P w=.ok .recover w:=by
     unfold o7 at EV;split at EV
     .rename_i jz;simp only[execOp,jz,resolve,ayL,ayT,ayD,invoke,builtin]
     .cases EV
    rw[hex];simp only;split at h
    .rename_i v;obtain⟨x,rfl,hx⟩:=hu;simp only[recoverD];exact zV ia h hN hi (he.put hx _) (Kc _) (.inr ⟨x,rfl⟩) hQ
    .have h_:recoverD ({c0 with mode:=u}::sc)=ah:=by
      rcases hu with rfl|⟨x,rfl⟩<;>rfl
     rw[h_];simp only;exact zV ia h hN hi (he.put (.raw _) _) (Kc _) hu hQ
   .split at h
    .rename_i v au h1;have eC:au.n<=N:=ayU (uF h) hN;obtain⟨u1,w1,bX,hr,h2,h3,h4⟩:=qv hi he.eval h1 eC;have WW:Q_ N ro bX w1 au ⟨.normal,e',[],al⟩ pX c0 sc Q:=λa' w' aJ u' ch g1 g2 g3 g4 g5 g6=>hQ a' w' aJ u' ch g1 (Le.then hi eC h4 g2) g3 g4 g5 g6;rcases hr with hr|⟨hr,rfl⟩
     .rw[hr];simp only;exact zV ia h hN h3 ((he.mono h4.ext).put h2 _) (Kc _) (hu.mono h4.ext) WW
     .rw[hr];simp only;exact zV ia h hN h3 ((he.mono h4.ext).put h2 _) (Kc _) (hu.mono h4.ext) WW
    .cases h
  .rename_i hw;rw[if_neg hw];exact zV ia h hN hi (he.put tY _) (Kc _) hu hQ
theorem atS(hS:iv P S m)(hm:cu S){fn:FuncId}{c0:Frame}{sc:List Frame}:∀{c:Code} {Q:Exit->Act->List Frame->World->Prop} {e:Env} {mo pX:Option IV} {Y:St} {cr:CR} {Z:Io} {a:Act} {u:FrameMode} {w:World},
 Be P S ro fn c e mo Y=aa (cr,pX)->cr.Y.n<=N->Inv N Z Y w->dc Z e a.tmps->a.defers=[]->th Z mo u->Q_ N ro Z w Y cr pX c0 sc Q->c.wpSIn ay8 0 P Q a ({c0 with mode:=u}::sc) w:=by
 intro c
 have other:∀{c:Code} {Q:Exit->Act->List Frame->World->Prop} {e:Env} {mo pX:Option IV} {Y:St} {cr:CR} {Z:Io} {a:Act} {u:FrameMode} {w:World},(match S.code ro ah fn c e [] Y with|some r=>aa (r,mo)|none=>ah)=aa (cr,pX)->
  cr.Y.n<=N->Inv N Z Y w->dc Z e a.tmps->a.defers=[]->th Z mo u->Q_ N ro Z w Y cr pX c0 sc Q->c.wpSIn ay8 0 P Q a ({c0 with mode:=u}::sc) w:=by
  intro c Q e mo pX Y cr Z a u w h hN hi he hd hu hQ;split at h
  .rename_i h1;cases h;refine wpSIn_of_wpIn rfl ?_;refine(hS N ro ah fn c e [] Y _ h1 hN ay8 Z a w _ (.inl ⟨rfl,rfl⟩) hi he (by rw[hd];trivial) ?_).wp;intro a1 w1 bX fB i1 l1 e1 d1 p1;exact hQ a1 w1 bX u fB i1 l1 e1 d1 p1 (hu.mono l1.ext)
  .cases h
 induction c with
 |seq x y ihx ihy=>
  intro Q e mo pX Y cr Z a u w h hN hi he hd hu hQ;unfold Be at h;refine wpSIn_seq ?_;split at h
  .rename_i e1 au m1 h1;have eC:au.n<=N:=ayU (Ka hm h) hN;refine ihx h1 eC hi he hd hu ?_;intro a1 w1 bX u1 fB i1 l1 dB d1 p1 As;exact ihy h hN i1 dB d1.nil As λa' w' aJ u' ch g1 g2 g3 g4 g5 g6=>hQ a' w' aJ u' ch g1 (Le.then hi eC l1 g2) g3 g4 g5 g6
  .cases h
  .rename_i ayd atT;refine ihx h hN hi he hd hu ?_;intro a1 w1 bX u1 fB i1 l1 dB d1 p1 As;have:=hQ a1 w1 bX u1 fB i1 l1 dB d1 p1 As;cases hx:cr.ex with
   |normal=>exact absurd (by rw[h];cases cr;cases hx;rfl) (atT cr.e cr.df cr.Y pX)
   |exit id=>rw[hx]at this;exact this
   |goto l=>rw[hx]at this;exact this
   |ret=>rw[hx]at this;exact this
   |cw v=>rw[hx]at this;exact this
 |region id ops draw=>
  intro Q e mo pX Y cr Z a u w h hN hi he hd hu hQ;unfold Be at h;split at h
  .rename_i hc
   have G6:draw=af:=by
    cases draw with
    |false=>rfl
    |true=>simp at hc
   subst G6;split at h
   .rename_i h1;cases h;refine wpSIn_region ?_;have:=zV (k:=0) ax h1 hN hi he hd hu hQ;rw[aBs];simpa using this
   .cases h
  .exact other h hN hi he hd hu hQ
 |_=>
  intro Q e mo pX Y cr Z a u w h hN hi he hd hu hQ;unfold Be at h;exact other h hN hi he hd hu hQ
theorem akb(hS:iv P S m)(hm:cu S){f:FuncId}{args:List IV}{mo pX:Option IV}{al:St}(h:EG P S ro f args mo Y=aa (pX,al))(hN:al.n<=N){us:List Value}{u:FrameMode}(hu:pj Z mo u)(hi:Inv N Z Y w)(hr:aG Z args us):
 CallsDIn ay8 0 P f us.toArray u w (LD N ro Z w Y pX al):=by
 unfold EG at h;split at h
 .rename_i fn cL;split at h
  .cases h
  split at h
  .rename_i c hb;split at h
   .cases h
   .rename_i hlen;simp only at h
    have key:∀{ex:Ex} {e1:Env} {au:St} {m1:Option IV},Be P S ro f c (args.zipIdx.foldl (λe (v,i)=>e.put (aa i) v) ⟨fn.ntmps,.lf⟩) mo Y=aa (⟨ex,e1,[],au⟩,m1)->(ex=.normal\/ex=.ret)->
     (match cC P fn e1 au with
      |some _=>aa (m1,au)
      |none=>ah)=aa (pX,al)->CallsDIn ay8 0 P f us.toArray u w (LD N ro Z w Y pX al):=by
     intro ex e1 au m1 h1 hex h;split at h
     .rename_i v hv;cases h;refine callsDIn_of_wpSIn cL hb trivial λc0 cs Gz=>?_;have cd:c0={c0 with mode:=u}:=by rw[<-Gz]
      have:=atS hS hm (c0:=c0) (sc:=cs) (Q:=bodyPostS P fn c0 cs (LD N ro Z w Y pX al)) (a:={tmps:=us.toArray++azy (fn.ntmps- us.toArray.size) azk,defers:=[]}) h1 hN hi (Av hr ai) rfl (th.of hu) ?_
      .rw[<-cd]at this;exact this
      .intro a1 w1 bX u1 fB i1 l1 dB d1 p1 As;obtain⟨x,k1,k2⟩:=vg hv i1 dB;have:bodyPostS P fn c0 cs (LD N ro Z w Y pX al) .ret a1 ({c0 with mode:=u1}::cs) w1:=⟨d1.nil,u1,rfl,x,k1,bX,As.settle,i1,l1⟩;rcases hex with rfl|rfl<;>exact this
     .cases h
    split at h
    .rename_i h1;exact key h1 (.inl rfl) h
    .rename_i h1;exact key h1 (.inr rfl) h
    .cases h
  .cases h
 .cases h
theorem Nl(hS:iv P S m)(hC:ff P S)(hm:cu S)(hk:bS S):ff P (nf P S) where
 call:=by
  intro N ro f args Y v al h hN Z us w hi hr;simp only[nf,RU]at h;split at h
  .rename_i Sy e1 au h1;split at h
   .rename_i v' h2;cases h;refine WV hS hC hm hk h1 hN hi hr λts w' aJ u' i1 l1 dB hu=>?_;rw[show u'=_ from hu];obtain⟨u,k1,k2⟩:=vg h2 i1 dB;exact⟨u,k1,aJ,k2,i1,l1⟩
   .cases h
  .cases h
 cw:=by
  intro N ro f args Y v al h hN Z us w hi hr;simp only[nf,Zd]at h;split at h
  .rename_i h1;cases h;refine WV hS hC hm hk h1 hN hi hr λts w' aJ u' i1 l1 dB hu=>?_;obtain⟨x,rfl,hx⟩:=hu;exact⟨aJ,⟨x,rfl,hx⟩,i1,l1⟩
  .cases h
 yS:=by
  intro N ro f args mo Y pX al h hN Z us u w hu hi hr;exact akb hS hm h hN hu hi hr
 DT:=by
  intro ro f args mo Y pX al h;simp only[nf,EG]at h;split at h
  .rename_i fn cL;split at h
   .cases h
   .rename_i Hd;exact⟨fn,cL,by simpa only[azn,Bool.not_eq_false]using Hd⟩
  .cases h
theorem agm(hD:∀m S,iv P S m->ff P S->cu S->bS S->Su P S):∀n,iv P (ev P n) n/\ff P (ev P n)/\cu (ev P n)/\bS (ev P n)
 |0=>by
  refine⟨?_,⟨?_,?_,?_,?_⟩,?_,⟨?_,?_,?_⟩⟩
  .intro N ro rd fn c e df Y cr h;cases h
  .intro N ro f args Y v al h;cases h
  .intro N ro f args Y v al h;cases h
  .intro N ro f args m Y m' al h;cases h
  .intro ro f args m Y m' al h;cases h
  .intro ro rd fn c e df Y cr h;cases h
  .intro ro f args Y v al h;cases h
  .intro ro f args Y v al h;cases h
  .intro ro f args m Y m' al h;cases h
 |n+1=>by
  obtain⟨h1,h2,h3,h4⟩:=agm hD n;exact⟨WT h1 h2 h3 h4 (hD n _ h1 h2 h3 h4),Nl h1 h2 h3 h4,Py h3 h4,G9 h3 h4⟩
end
section
variable{P:Program}{N ro m:Nat}{Z:Io}{w:World}{Y:St}{e:Env}{a:Act}{S:Self}{F:Fence}{rd:Option Nat}{Q:Exit->Act->World->Prop}
theorem rl{ρ DW:Operand->IV}{o:Oper}(h:∀x∈o.op.operands,ρ x=DW x):aA P ro ρ o Y=aA P ro DW o Y:=by
 obtain⟨dst,op,type,pos,after,guard⟩:=o
 have ago:∀ps:Array (Nat×Operand),(∀x∈(ps.toList.map (·.2)),ρ x=DW x)->(ps.toList.map λ(i,x)=>(i,ρ x))=(ps.toList.map λ(i,x)=>(i,DW x)):=λps hp=>
  aAK λp hm=>by
   obtain⟨i,x⟩:=p;simp only[hp x (List.mem_map.2 ⟨(i,x),hm,rfl⟩)]
 cases op<;>simp only[Op.operands]at h<;>unfold aA<;>dsimp only
 case move x=>rw[h x ax]
 case assign x=>rw[h x ax]
 case pick c x y=>rw[h c ax,h x ax,h y ax]
 case box t x=>rw[h x ax]
 case build t ps=>rw[ago ps λx hx=>h x (by simpa using hx)]
 case buildSlice t n ps=>rw[ago ps λx hx=>h x (by simpa using hx)]
 case load t x=>rw[h x ax]
 case store t x y=>rw[h x ax,h y ax]
 case nilCheck x=>rw[h x ax]
 case binOp op t x y yT=>rw[h x ax,h y ax]
 case unOp op t x=>rw[h x ax]
 case convert s d x=>rw[h x ax]
 case makeInterface t x=>rw[h x ax]
 case makeFunc fn first captured=>
  rw[aAK (l:=first.toList) λx hx=>h x (by simp at hx;simp[hx]),aAK (l:=captured.toList) λx hx=>h x (by simp at hx;simp[hx])]
 case makeMap t r=>cases r with|none=>rfl|some x=>dsimp only;rw[h x ax]
 case makeSlice t x y=>rw[h x ax,h y ax]
 case slice t x lo hi mx=>
  have e1:lo.map ρ=lo.map DW:=by cases lo with|none=>rfl|some y=>simp only[ay_,h y ax]
  have e2:hi.map ρ=hi.map DW:=by cases hi with|none=>rfl|some y=>simp only[ay_,h y ax]
  have e3:mx.map ρ=mx.map DW:=by cases mx with|none=>rfl|some y=>simp only[ay_,h y ax]
  rw[h x ax,e1,e2,e3]
 case fieldAddr t x f=>rw[h x ax]
 case field t x f=>rw[h x ax]
 case indexAddr t x y=>rw[h x ax,h y ax]
 case index t x y=>rw[h x ax,h y ax]
 case lookup t x y ok=>rw[h x ax,h y ax]
 case mapUpdate t x y z=>rw[h x ax,h y ax,h z ax]
 case insert t x y z=>rw[h x ax,h y ax,h z ax]
 case range t x=>rw[h x ax]
 case next x s=>rw[h x ax]
 case entry x=>rw[h x ax]
 case extract x i=>rw[h x ax]
 case typeAssert x xt t ok=>rw[h x ax]
 case panic x=>rw[h x ax]
 case call c=>
  have ha:c.args.toList.map ρ=c.args.toList.map DW:=aAK λx hx=>h x (by simp[aBC];right;simpa using hx);rw[ha];cases hc:c.callee with
  |value f=>dsimp only;rw[h f (by simp[aBC,hc])]
  |invoke r m=>rfl
  |builtin b=>rfl
 case defer c=>
  have ha:c.args.toList.map ρ=c.args.toList.map DW:=aAK λx hx=>h x (by simp[aBC];right;simpa using hx);rw[ha];cases hc:c.callee with
  |value f=>dsimp only;rw[h f (by simp[aBC,hc])]
  |invoke r m=>rfl
  |builtin b=>rfl
structure Gn(Fr:Nat->Prop)(Z:Io)(cur:Nat->Option Ob)(w:World):Prop where
 mem:∀b c,Z.m b=aa c->∃e f,w.heap[b]?=aa (.cells c e f)
 sep:∀b c id,Z.m b=aa c->¬Own Z id b
 jy:∀id b,Own Z id b->b<w.heap.size
 inj:∀i j b,Own Z i b->Own Z j b->i=j
 fresh:∀id,Fr id->∀e,Z id e=ah
 obj:∀id o,cur id=aa o->lC Z w id o
theorem Gn.inv{Fr:Nat->Prop}{cur:Nat->Option Ob}(h:Gn Fr Z cur w)(sub:∀id o,Y.at id=aa o->cur id=aa o)(fr:∀id,Y.n<=id->id<N->Fr id)(wf:∀id,Y.n<=id->Y.at id=ah):Inv N Z Y w:=
 ⟨h.mem,h.sep,h.jy,λid h1 h2=>h.fresh id (fr id h1 h2),h.inj,λid o ho=>h.obj id o (sub id o ho),wf⟩
theorem Zv{id:Nat}{o:Ob}(h:lC Z w id o):∃e l,Z id e=aa l:=by
 cases o with
 |cells cs ep mn=>obtain⟨_,⟨l,hl,_⟩,_⟩:=h;exact⟨_,l,hl⟩
 |map es c=>obtain⟨l,_,hl,_⟩:=h;exact⟨_,l,hl⟩
 |ri s p=>obtain⟨l,hl,_⟩:=h;exact⟨_,l,hl⟩
 |tf a b c d=>obtain⟨l,_,hl,_⟩:=h;exact⟨_,l,hl⟩
 |loop a b c d e f g h' i=>obtain⟨l,_,_,_,hl,_⟩:=h;exact⟨_,l,hl⟩
 |Gy t=>obtain⟨l,hl,_⟩:=h;exact⟨_,l,hl⟩
def Br(cur:Nat->Option Ob)(Y al:St)(id:Nat):Option Ob:=if(Y.at id).isSome\/(Y.n<=id/\id<al.n)then al.at id else cur id
structure Bs(ro nk:Nat)(gl:Io)(w0:World)(eG:St)(Fr:Nat->Prop)(Z:Io)(cur:Nat->Option Ob)(w:World):Prop extends Gn Fr Z cur w where
 ext:Ext gl Z
 wK:∀b c,Z.m b=aa c->gl.m b=aa c\/w0.heap.size<=b
 own:∀id b,Own Z id b->Own gl id b\/w0.heap.size<=b
 Bg:∀id,eG.at id=ah->(id<eG.n\/nk<=id)->∀e,Z id e=gl id e
 dead:∀id,eG.at id=ah->(id<eG.n\/nk<=id)->cur id=ah
 yI:∀id,id<ro->id<eG.n->cur id=eG.at id
 os:w.os=w0.os
 tape:w.tape=w0.tape
 output:w.output=w0.output
 size:w0.heap.size<=w.heap.size
 frame:∀b,b<w0.heap.size->(∀id,Own gl id b->id<ro\/eG.at id=ah)->w.heap[b]?=w0.heap[b]?
theorem Bs.start{nk:Nat}(h:Inv N Z Y w)(hnk:nk<=N):Bs ro nk Z w Y (λid=>Y.n<=id/\id<N) Z Y.at w:=
 {mem:=h.mem,sep:=h.sep,jy:=h.jy,inj:=h.inj,fresh:=λid hid=>h.fresh id hid.1 hid.2,obj:=h.obj,ext:=Ext.refl _,wK:=λ_ _ h=>.inl h,own:=λ_ _ h=>.inl h,
  Bg:=λ_ _ _ _=>rfl,dead:=λ_ h _=>h,yI:=λ_ _ _=>rfl,os:=rfl,tape:=rfl,output:=rfl,size:=ayA _,frame:=λ_ _ _=>rfl}
theorem Bs.step{nk N' gO:Nat}{gl aJ:Io}{w0 w':World}{eG al:St}{Fr:Nat->Prop}{cur:Nat->Option Ob}(h:Bs ro nk gl w0 eG Fr Z cur w)(Sz:∀id,eG.n<=id->id<nk->∀e,gl id e=ah)
 (sub:∀id o,Y.at id=aa o->cur id=aa o)(nj:∀id,Y.n<=id->id<al.n->eG.n<=id/\id<nk)(eK:∀id,id<ro->(Y.at id).isSome=ab->id<gO)(wf:∀id,Y.n<=id->Y.at id=ah)
 (hi:Inv N' aJ al w')(hl:Le gO Z w Y aJ w' al):Bs ro nk gl w0 eG (λid=>Fr id/\¬(Y.n<=id/\id<al.n)) aJ (Br cur Y al) w':=by
 have WX:∀id,cur id=ah->Y.at id=ah:=λid hc=>by
  cases hs:Y.at id with
  |none=>rfl
  |some o=>rw[sub id o hs]at hc;cases hc
 have out:∀id,¬(Y.n<=id/\id<al.n)->id<Y.n\/al.n<=id:=λid hn=>by omega
 have LI:∀id,(id<eG.n\/nk<=id)->¬(Y.n<=id/\id<al.n):=λid hh hn=>by have:=nj id hn.1 hn.2;omega
 exact{
  mem:=hi.mem,sep:=hi.sep,jy:=hi.jy,inj:=hi.inj
  fresh:=λid hid e=>by
   have hn:Y.at id=ah:=by
    cases hs:Y.at id with
    |none=>rfl
    |some o=>
     obtain⟨e',l,cH⟩:=Zv (h.obj id o (sub id o hs));rw[h.fresh id hid.1 e']at cH;cases cH
   rw[hl.Bg id hn (out id hid.2) e,h.fresh id hid.1 e]
  obj:=λid o ho=>by
   unfold Br at ho;split at ho
   .exact hi.obj id o ho
   .rename_i hc
    have hn:Y.at id=ah:=by
     cases hs:Y.at id with
     |none=>rfl
     |some o=>exact absurd (.inl (by rw[hs];rfl)) hc
    have hr:¬(Y.n<=id/\id<al.n):=λhx=>hc (.inr hx);refine(h.obj id o ho).tV hl.ext (λe=>hl.Bg id hn (out id hr) e) λb hb=>?_;refine hl.frame b (h.jy id b hb) λbz gX=>.inr ?_;rw[h.inj bz id b gX hb];exact hn
  ext:=h.ext.trans hl.ext
  wK:=λb c hb=>(hl.wK b c hb).elim (λhb=>h.wK b c hb) (λhb=>.inr (ayU h.size hb))
  own:=λid b hb=>(hl.own id b hb).elim (λhb=>h.own id b hb) (λhb=>.inr (ayU h.size hb))
  Bg:=λid hn hr e=>(hl.Bg id (WX id (h.dead id hn hr)) (out id (LI id hr)) e).trans (h.Bg id hn hr e)
  dead:=λid hn hr=>by
   unfold Br;rw[if_neg]
   .exact h.dead id hn hr
   .rw[WX id (h.dead id hn hr)];intro hx;rcases hx with hx|hx
    .cases hx
    .exact LI id hr hx
  yI:=λid hr hn=>by
   unfold Br;split
   .rename_i hc;have hs:(Y.at id).isSome:=hc.resolve_right (LI id (.inl hn));obtain⟨o,ho⟩:=aAJ.1 hs;have aj:id<Y.n:=aAM λhle=>by rw[wf id hle]at ho;cases ho
    rw[hl.yI id (eK id hr hs) aj,ho,<-sub id o ho];exact h.yI id hr hn
   .exact h.yI id hr hn
  os:=hl.os.trans h.os
  tape:=hl.tape.trans h.tape
  output:=hl.output.trans h.output
  size:=ayU h.size hl.size
  frame:=λb hb hc=>by
   rw[hl.frame b (az9 hb h.size) ?_,h.frame b hb hc];intro id hid;cases hs:Y.at id with
   |none=>exact .inr rfl
   |some o=>
    have aj:id<Y.n:=aAM λhle=>by rw[wf id hle]at hs;cases hs
    rcases h.own id b hid with ho|ho
    .rcases hc id ho with hr|hd
     .exact .inl (eK id hr (by rw[hs];rfl))
     .right
      have hr:id<eG.n\/nk<=id:=by
       by_cases h1:id<eG.n
       .exact .inl h1
       .by_cases h2:id<nk
        .obtain⟨e,l,cH,_⟩:=ho;rw[Sz id ai h2 e]at cH;cases cH
        .exact .inr ai
      have:=sub id o hs;rw[h.dead id hd hr]at this;cases this
    .omega}
theorem Bs.fr{nk:Nat}{gl:Io}{w0:World}{eG:St}{Fr Fr':Nat->Prop}{cur:Nat->Option Ob}(h:Bs ro nk gl w0 eG Fr Z cur w)(hf:∀id,Fr' id->Fr id):Bs ro nk gl w0 eG Fr' Z cur w:=
 {h with fresh:=λid hid=>h.fresh id (hf id hid)}
theorem Bs.fin{nk:Nat}{gl:Io}{w0:World}{eG:St}{Fr:Nat->Prop}{cur:Nat->Option Ob}{t:T Ob}(h:Bs ro nk gl w0 eG Fr Z cur w)(hn:eG.n<=nk)(pU:∀id,nk<=id->id<N->Fr id)
 (sub:∀id o,t.get id=aa o->cur id=aa o)(wf:∀id,nk<=id->t.get id=ah)(hp:∀id,id<ro->id<eG.n->t.get id=eG.at id):
 Inv N Z ⟨nk,t⟩ w/\Le ro gl w0 eG Z w ⟨nk,t⟩:=by
 refine⟨h.toGn.inv sub pU wf,h.ext,h.own,h.Bg,λid hn hr=>?_,hp,hn,h.os,h.tape,h.output,h.size,h.frame,h.wK⟩;have:=h.dead id hn hr;cases hs:t.get id with
 |none=>exact hs
 |some o=>rw[sub id o hs]at this;cases this
end
section
variable{P:Program}{S:Self}{ro:Nat}{ops:Array Oper}{pl:eJ}[Sm]
def kD(ops:Array Oper)(i:Nat):Option Tmp:=(ops[i]?).bind (·.dst)
def C_(ops:Array Oper)(i:Nat):List Nat:=(ops.toList.map (wJ ops)).getD i []
def bw(pl:eJ)(i:Nat):Kind:=pl.kinds.getD i .effect
def kE(pl:eJ)(j i:Nat):Prop:=ayY (pl.cJ.getD j 0) i=ab
structure pY(ops:Array Oper)(pl:eJ):Prop where
 back:∀(j:Nat) (o:Oper),ops[j]?=aa o->∀e∈o.after.toList,azY .any e=ab->e.on<j
 aek:∀j,j<ops.size->bw pl j=.load->∀t,kD ops j=aa t->t∉C_ ops j
 single:∀i j,i<j->j<ops.size->∀t,kD ops i=aa t->kD ops j≠aa t
 abK:∀i j,i<j->j<ops.size->bw pl i=.load->∀t,kD ops j=aa t->t∉C_ ops i
 free:∀i j,i<j->j<ops.size->¬kE pl j i->(∀t,kD ops i=aa t->t∉C_ ops j)/\(∀t,kD ops j=aa t->t∉C_ ops i)/\agk (bw pl i) (bw pl j)=af
 bits:∀(j:Nat) (o:Oper),ops[j]?=aa o->∀i,kE pl j i->∃e∈o.after.toList,azY .any e=ab/\(e.on=i\/kE pl e.on i)
theorem vh{o:Oper}{l:List Nat}(h:writes o l=af):∀t,o.dst=aa t->t∉l:=by
 intro t ht hm;unfold writes at h;rw[ht]at h;simp[hm]at h
theorem PF{f:Edge->Nat}{c:Edge->Bool}{i:Nat}:∀(l:List Edge) (s:Nat),ayY (l.foldl (λs e=>if c e then aCm s (f e)else s) s) i=ab->
 ayY s i=ab\/∃e∈l,c e=ab/\ayY (f e) i=ab
 |[],s,h=>.inl h
 |e::l,s,h=>by
  simp only[aze]at h;rcases PF l _ h with h|⟨e',jb,h1,h2⟩
  .split at h
   .rename_i hc;have:ayY (s|||f e) i=ab:=h;rw[aDJ,azf]at this;rcases this with h|h
    .exact .inl h
    .exact .inr ⟨e,by simp,hc,h⟩
   .exact .inl h
  .exact .inr ⟨e',by simp[jb],h1,h2⟩
theorem abL{a i:Nat}(h:ayY (aBH 1 a) i=ab):a=i:=by
 have h':ayY (1<<<a) i=ab:=h;rw[Nat.testBit_shiftLeft]at h';simp only[ayz,decide_eq_true_eq]at h';have h2:=h'.2
 have:i- a=0:=by
  cases hk:i- a with
  |zero=>rfl
  |succ n=>rw[hk]at h2;simp[Nat.testBit_succ]at h2
 omega
theorem SA:∀(l:List Oper) (acc:List Nat),∃rest,l.foldl It acc=acc++rest/\rest.length=l.length/\
 ∀(q:Nat) (o:Oper),l[q]?=aa o->∀i,ayY ((acc++rest).getD (acc.length+q) 0) i=ab->
  ∃e∈o.after.toList,azY .any e=ab/\(e.on=i\/ayY ((acc++rest).getD e.on 0) i=ab)
 |[],acc=>⟨[],by simp,rfl,λq o h=>by simp at h⟩
 |o::l,acc=>by
  obtain⟨rest,h1,h2,h3⟩:=SA l (It acc o);obtain⟨x,hx⟩:∃x,It acc o=acc++[x]:=⟨_,rfl⟩
  have Bt:x=o.after.toList.foldl (λs e=>if azY .any e then aCm s (aCm (aBH 1 e.on) (acc.getD e.on 0))else s) 0:=by
   have:acc++[x]=acc++[o.after.toList.foldl (λs e=>if azY .any e then aCm s (aCm (aBH 1 e.on) (acc.getD e.on 0))else s) 0]:=hx▸rfl;simpa using this
  rw[hx]at h1 h3;refine⟨x::rest,by rw[aze,hx,h1];simp,by simp[h2],λq o' hq i hi=>?_⟩;have vi:acc++x::rest=acc++[x]++rest:=by simp
  cases q with
  |zero=>
   simp only[List.getElem?_cons_zero,ayB]at hq;subst hq;have hg:(acc++x::rest).getD (acc.length+0) 0=x:=by simp
   rw[hg,Bt]at hi;rcases PF _ _ hi with hi|⟨e,he,hb,hi⟩
   .simp at hi
   .refine⟨e,he,hb,?_⟩;have cX:ayY (aBH 1 e.on|||acc.getD e.on 0) i=ab:=hi;rw[aDJ,azf]at cX;rcases cX with hi|hi
    .exact .inl (abL hi)
    .right;by_cases hl:e.on<acc.length
     .have:(acc++x::rest).getD e.on 0=acc.getD e.on 0:=by
       rw[azo,azo,List.getElem?_append_left hl]
      rw[this];exact hi
     .rw[azo,List.getElem?_eq_none ai]at hi;simp at hi
  |succ q=>
   simp only[List.getElem?_cons_succ]at hq;rw[vi]at hi⊢
   have:=h3 q o' hq i (by
    have e1:(acc++[x]).length+q=acc.length+(q+1):=by simp;omega
    rw[e1];exact hi)
   exact this
theorem DX{ops:Array Oper}{j:Nat}{o:Oper}(ho:ops[j]?=aa o){i:Nat}(h:ayY ((J6 ops).getD j 0) i=ab):
 ∃e∈o.after.toList,azY .any e=ab/\(e.on=i\/ayY ((J6 ops).getD e.on 0) i=ab):=by
 obtain⟨rest,h1,_,h3⟩:=SA ops.toList [];have hb:J6 ops=rest:=by unfold J6;rw[h1];simp
 rw[hb]at h⊢;have:=h3 j o (by simpa using ho) i (by simpa using h);simpa using this
theorem abM(h:(cR ops).ok=ab):pY ops (cR ops):=by
 have cb:∀(j:Nat) (o:Oper),ops[j]?=aa o->(o.after.toList.all λe=> !azY .any e||azp e.on j)=ab/\(!(bw (cR ops) j==.load)|| !writes o (C_ ops j))=ab/\
  ∀(i:Nat) (p:Oper),ops[i]?=aa p->i<j->DD (cR ops).cJ (cR ops).kinds (ops.toList.map (wJ ops)) p i o j=ab:=by
  intro j o ho;have hm:(o,j)∈ops.toList.zipIdx:=az6.2 (by simpa using ho);unfold cR at h;dsimp only at h;rw[ayP]at h;have:=h (o,j) hm;simp only[ayz]at this;obtain⟨⟨h1,h2⟩,h3⟩:=this;refine⟨h1,h2,λi p hp oM=>?_⟩;rw[ayP]at h3;have SB:(p,i)∈ops.toList.zipIdx:=az6.2 (by simpa using hp);have:=h3 (p,i) SB;have aj:azp i j=ab:=by simpa using oM
  simp only[aj,az4,aAN]at this;exact this
 have jz:∀{j:Nat},j<ops.size->∃o,ops[j]?=aa o:=λhj=>⟨ops[_],ay2 hj⟩;have fN:∀{j:Nat} {o:Oper},ops[j]?=aa o->kD ops j=o.dst:=λho=>by unfold kD;rw[ho];rfl
 have pair:∀i j,i<j->j<ops.size->∃p o,ops[i]?=aa p/\ops[j]?=aa o/\DD (cR ops).cJ (cR ops).kinds (ops.toList.map (wJ ops)) p i o j=ab:=λi j oM hj=>by
  obtain⟨o,ho⟩:=jz hj;obtain⟨p,hp⟩:=jz (show i<ops.size by omega);exact⟨p,o,hp,ho,(cb j o ho).2.2 i p hp oM⟩
 refine⟨λj o ho e he hb=>?_,λj hj hk t ht=>?_,λi j oM hj t hi hjt=>?_,λi j oM hj hk t ht=>?_,λi j oM hj mW=>?_,λj o ho i hb=>DX ho hb⟩
 .have:=(ayP.1 (cb j o ho).1) e he;rw[hb]at this;simpa using this
 .obtain⟨o,ho⟩:=jz hj;have:=(cb j o ho).2.1;rw[hk]at this;simp only[beq_self_eq_true,az4,aAN,azn]at this;rw[fN ho]at ht;exact vh this t ht
 .obtain⟨p,o,hp,ho,wy⟩:=pair i j oM hj;rw[fN hp]at hi;rw[fN ho]at hjt;unfold DD at wy;rw[hi,hjt]at wy;simp at wy
 .obtain⟨p,o,hp,ho,wy⟩:=pair i j oM hj;unfold DD at wy;simp only[ayz]at wy;have h2:=wy.1.2;have dq:(cR ops).kinds.getD i .effect=.load:=hk;rw[dq]at h2;simp only[beq_self_eq_true,az4,aAN,azn]at h2;rw[fN ho]at ht;exact vh h2 t ht
 .obtain⟨p,o,hp,ho,wy⟩:=pair i j oM hj;unfold DD at wy;simp only[ayz]at wy;have h3:=wy.2
  have hb:ayY ((cR ops).cJ.getD j 0) i=af:=by
   cases hc:ayY ((cR ops).cJ.getD j 0) i with
   |false=>rfl
   |true=>exact absurd hc mW
  rw[hb]at h3;simp only[aAN,ayz,azn]at h3;refine⟨λt ht=>?_,λt ht=>?_,h3.2⟩
  .rw[fN hp]at ht;exact vh h3.1.1 t ht
  .rw[fN ho]at ht;exact vh h3.1.2 t ht
end
section
variable{P:Program}{S:Nat->Self}{ro:Nat}{ops:Array Oper}{pl:eJ}[Sm]
theorem l7(b:T Ob)(p:Piece)(id:Nat):(dU b p).get id=if p.lo<=id/\id<p.hi then(p.t.get id).or (b.get id)else b.get id:=by
 have aux:∀(l:List Nat) (b:T Ob),(l.foldl (λb id=>match p.t.get id with|some o=>b.set id o|none=>b) b).get id=if id∈l then(p.t.get id).or (b.get id)else b.get id:=by
  intro l;induction l with
  |nil=>intro b;simp
  |cons x l ih=>
   intro b;rw[aze,ih];by_cases hx:x=id
   .subst hx;cases hp:p.t.get x with
    |none=>simp
    |some o=>simp[T.gV]
   .have hb:(match p.t.get x with|some o=>b.set x o|none=>b).get id=b.get id:=by
     cases p.t.get x with
     |none=>rfl
     |some o=>simp[T.gV,hx]
    rw[hb];have:id∈x::l↔id∈l:=by simp[Ne.symm hx]
    simp only[this]
 refine(aux (az3 p.lo (p.hi- p.lo)) b).trans ?_
 have:id∈az3 p.lo (p.hi- p.lo)↔p.lo<=id/\id<p.hi:=by
  rw[List.mem_range'_1];omega
 simp only[this]
theorem EW:∀(l:List Piece) (b:T Ob) (id:Nat) (o:Ob),(l.foldl dU b).get id=aa o->(∃p∈l,p.lo<=id/\id<p.hi/\p.t.get id=aa o)\/b.get id=aa o
 |[],b,id,o,h=>.inr h
 |p::l,b,id,o,h=>by
  rw[aze]at h;rcases EW l _ id o h with⟨q,hq,h1⟩|h
  .exact .inl ⟨q,by simp[hq],h1⟩
  .rw[l7]at h;split at h
   .rename_i hc;cases hp:p.t.get id with
    |none=>rw[hp]at h;exact .inr h
    |some x=>rw[hp]at h;exact .inl ⟨p,by simp,hc.1,hc.2,by rw[hp];exact h⟩
   .exact .inr h
theorem Kd:∀(l:List Piece) (b:T Ob) (id:Nat),(∀p∈l,id<p.lo)->(l.foldl dU b).get id=b.get id
 |[],b,id,_=>rfl
 |p::l,b,id,h=>by
  rw[aze,Kd l _ id (λq hq=>h q (by simp[hq])),l7,if_neg];have:=h p ax;omega
theorem Ke{aM:List Piece}{bits:Nat}{b:T Ob}{id:Nat}{o:Ob}(h:(seen aM bits b).get id=aa o):
 (∃p∈aM,ayY bits p.j=ab/\p.lo<=id/\id<p.hi/\p.t.get id=aa o)\/b.get id=aa o:=by
 rcases EW _ _ _ _ h with⟨p,hp,h1⟩|h
 .rw[azC]at hp;exact .inl ⟨p,hp.1,by simpa using hp.2,h1⟩
 .exact .inr h
theorem ael{aM:List Piece}{bits:Nat}{b:T Ob}{id:Nat}(h:∀p∈aM,id<p.lo):(seen aM bits b).get id=b.get id:=
 Kd _ _ _ λp hp=>h p (azC.1 hp).1
inductive Stp(P:Program)(S:Self)(pl:eJ)(ro:Nat)(ops:Array Oper)(o:Oper)(j:Nat)(d d':DS)(v:IV):Prop
 |skip (h:aT o ops d.e=af) (hv:v=.undef) (hn:d'.n=d.n) (hp:d'.aM=d.aM) (hk:bw pl j≠.effect) (hb:d'.bs=d.bs)
 |Ix (h:aT o ops d.e=af) (hv:v=.undef) (hn:d'.n=d.n) (hp:d'.aM=d.aM) (hk:bw pl j=.effect) (i0:Nat) (b:T Ob) (rest:List (Nat×T Ob)) (jA:d.bs=(i0,b)::rest)
   (hb:d'.bs=(j,b)::d.bs) (hr:recheck P pl ops (pl.cJ.getD j 0) d.e d.n d.aM b (ops.toList.zipIdx.take j)=ab)
 |pure (h:aT o ops d.e=ab) (hk:bw pl j=.pure) (hn:d'.n=d.n) (hp:d'.aM=d.aM) (hb:d'.bs=d.bs) (Y:St) (he:aA P 0 (aC d.e) o ⟨0,.lf⟩=aa (.val v Y)) (h0:Y.n=0)
 |alloc (h:aT o ops d.e=ab) (hk:bw pl j=.alloc) (hb:d'.bs=d.bs) (Y:St) (he:aA P 0 (aC d.e) o ⟨d.n,.lf⟩=aa (.val v Y)) (hn:d'.n=Y.n) (hp:d'.aM=⟨j,d.n,Y.n,Y.t⟩::d.aM)
 |load (h:aT o ops d.e=ab) (hk:bw pl j=.load) (hn:d'.n=d.n) (hp:d'.aM=d.aM) (hb:d'.bs=d.bs) (i0:Nat) (b:T Ob) (rest:List (Nat×T Ob)) (jA:d.bs=(i0,b)::rest)
   (Y:St) (he:aA P d.n (aC d.e) o ⟨d.n,seen d.aM (pl.cJ.getD j 0) b⟩=aa (.val v Y)) (h0:Y.n=d.n)
   (hl:(ayY (pl.cJ.getD j 0) i0||nQ P d.e o d.n v d.aM (pl.cJ.getD j 0) rest)=ab)
 |call (h:aT o ops d.e=ab) (hk:bw pl j=.call) (hb:d'.bs=d.bs) (i0:Nat) (b:T Ob) (rest:List (Nat×T Ob)) (jA:d.bs=(i0,b)::rest)
   (Y:St) (he:kY P S d.n d.e o ⟨d.n,seen d.aM (pl.cJ.getD j 0) b⟩=aa (v,Y)) (hn:d'.n=Y.n) (hp:d'.aM=⟨j,d.n,Y.n,Y.t⟩::d.aM)
 |effect (h:aT o ops d.e=ab) (hk:bw pl j=.effect) (i0:Nat) (b:T Ob) (rest:List (Nat×T Ob)) (jA:d.bs=(i0,b)::rest)
   (Y:St) (he:kY P S ro d.e o ⟨d.n,seen d.aM (pl.cJ.getD j 0) b⟩=aa (v,Y)) (hn:d'.n=Y.n) (hb:d'.bs=(j,Y.t)::d.bs) (hp:d'.aM=d.aM.filter λp=> !ayY (pl.cJ.getD j 0) p.j)
   (hr:recheck P pl ops (pl.cJ.getD j 0) d.e d'.n d'.aM Y.t (ops.toList.zipIdx.take j)=ab)
theorem SC{U:Self}{o:Oper}{j:Nat}{d d':DS}(h:ct P U pl ro ops o j d=aa d'):∃v,d'.e=d.e.put o.dst v/\d.bs≠[]/\Stp P U pl ro ops o j d d' v:=by
 unfold ct at h;dsimp only at h;split at h
 .cases h
 .rename_i i0 b rest jA;have bt:d.bs≠[]:=by rw[jA];simp
  split at h
  .rename_i hw;split at h
   .rename_i hk;split at h
    .rename_i v Y he;split at h
     .rename_i h0;cases h;exact⟨v,rfl,bt,.pure hw hk rfl rfl rfl Y he h0⟩
     .cases h
    .cases h
   .rename_i hk;split at h
    .rename_i v Y he;cases h;exact⟨v,rfl,bt,.alloc hw hk rfl Y he rfl rfl⟩
    .cases h
   .rename_i hk;split at h
    .rename_i v Y he;split at h
     .rename_i hc;cases h;exact⟨v,rfl,bt,.load hw hk rfl rfl rfl i0 b rest jA Y he hc.1 hc.2⟩
     .cases h
    .cases h
   .rename_i hk;split at h
    .rename_i v Y he;cases h;exact⟨v,rfl,bt,.call hw hk rfl i0 b rest jA Y he rfl rfl⟩
    .cases h
   .rename_i hk;split at h
    .rename_i v Y he;split at h
     .rename_i hc;cases h;exact⟨v,rfl,bt,.effect hw hk i0 b rest jA Y he rfl rfl rfl hc⟩
     .cases h
    .cases h
  .rename_i hw;have hw:aT o ops d.e=af:=by simpa using hw
   split at h
   .rename_i hk;split at h
    .rename_i hc;cases h;exact⟨.undef,rfl,bt,.Ix hw rfl rfl rfl hk i0 b rest jA rfl hc⟩
    .cases h
   .rename_i hk;cases h;exact⟨.undef,rfl,bt,.skip hw rfl rfl rfl hk rfl⟩
structure Tr(P:Program)(S:Nat->Self)(pl:eJ)(ro:Nat)(ops:Array Oper)(D:Nat->DS):Prop where
 step:∀(j:Nat) (o:Oper),ops[j]?=aa o->ct P (S j) pl ro ops o j (D j)=aa (D (j+1))
def pZ(P:Program)(S:Nat->Self)(pl:eJ)(ro:Nat)(ops:Array Oper)(d:DS):Nat->DS
 |0=>d
 |j+1=>match ops[j]? with
  |some o=>(ct P (S j) pl ro ops o j (pZ P S pl ro ops d j)).getD (pZ P S pl ro ops d j)
  |none=>pZ P S pl ro ops d j
theorem PG{d0:DS}:∀{l:List Oper} {k:Nat} {d':DS},ops.toList.drop k=l->k<=ops.size->j_ P S pl ro ops (l.zipIdx k) (pZ P S pl ro ops d0 k)=aa d'->
 (∀(j:Nat) (o:Oper),k<=j->ops[j]?=aa o->ct P (S j) pl ro ops o j (pZ P S pl ro ops d0 j)=aa (pZ P S pl ro ops d0 (j+1)))/\d'=pZ P S pl ro ops d0 ops.size
 |[],k,d',hl,hk,h=>by
  have hs:ops.size<=k:=by
   have:ops.toList.length<=k:=List.drop_eq_nil_iff.1 hl;simpa using this
  cases h;refine⟨λj o hj ho=>?_,by rw[show k=ops.size by omega]⟩;have:=(azj.1 ho).1;omega
 |o::l,k,d',hl,hk,h=>by
  have bu:ops[k]?=aa o:=by
   have:(ops.toList.drop k)[0]?=aa o:=by rw[hl];rfl
   simpa using this
  have ia:ops.toList.drop (k+1)=l:=by
   rw[<-aAG (i:=1) (j:=k),hl];rfl
  have aj:=(azj.1 bu).1;rw[aB2]at h;unfold j_ at h;split at h
  .rename_i d1 h1
   have Ar:pZ P S pl ro ops d0 (k+1)=d1:=by
    rw[pZ,bu];simp only[h1,azh]
   rw[<-Ar]at h;obtain⟨h2,h3⟩:=PG ia ai h;refine⟨λj o' hj ho=>?_,h3⟩;rcases aA9 hj with hj|rfl
   .exact h2 j o' ai ho
   .rw[bu]at ho;cases ho;rw[h1,Ar]
  .cases h
theorem aem{d0 d':DS}(h:j_ P S pl ro ops ops.toList.zipIdx d0=aa d'):Tr P S pl ro ops (pZ P S pl ro ops d0)/\d'=pZ P S pl ro ops d0 ops.size:=by
 obtain⟨h1,h2⟩:=PG (k:=0) ax ai h;exact⟨⟨λj o ho=>h1 j o ai ho⟩,h2⟩
section tr
variable{D:Nat->DS}(ht:Tr P S pl ro ops D)
include ht
theorem Tr.SD{j:Nat}(hj:j<ops.size):∃o v,ops[j]?=aa o/\(D (j+1)).e=(D j).e.put o.dst v/\(D j).bs≠[]/\Stp P (S j) pl ro ops o j (D j) (D (j+1)) v:=by
 have ho:ops[j]?=aa ops[j]:=ay2 hj;obtain⟨v,h1,h2,h3⟩:=SC (ht.step j _ ho);exact⟨_,v,ho,h1,h2,h3⟩
theorem Tr.abN(hc:∀j,cu (S j))(hk:∀j,bS (S j)){j:Nat}(hj:j<ops.size):(D j).n<=(D (j+1)).n:=
 GH (hc j) (hk j) (ht.step j _ (ay2 hj))
theorem Tr.gC(hc:∀j,cu (S j))(hk:∀j,bS (S j)){i j:Nat}(oM:i<=j)(hj:j<=ops.size):(D i).n<=(D j).n:=by
 induction j with
 |zero=>have:i=0:=ai
        subst this;exact ayA _
 |succ j ih=>
  rcases aA9 oM with h|rfl
  .exact ayU (ih ai ai) (ht.abN hc hk ai)
  .exact ayA _
theorem Tr.apart(hc:∀j,cu (S j))(hk:∀j,bS (S j)){i j id:Nat}(hi:i<ops.size)(hj:j<ops.size)(h1:(D i).n<=id/\id<(D (i+1)).n)(h2:(D j).n<=id/\id<(D (j+1)).n):i=j:=by
 rcases aBd i j with h|h|h
 .have:=ht.gC hc hk (show i+1<=j from h) ai;omega
 .exact h
 .have:=ht.gC hc hk (show j+1<=i from h) ai;omega
theorem Tr.aim{j:Nat}(hj:j<ops.size):(D (j+1)).bs=(D j).bs\/(bw pl j=.effect/\∃b,(D (j+1)).bs=(j,b)::(D j).bs):=by
 obtain⟨o,v,_,_,_,h⟩:=ht.SD hj;cases h with
 |skip _ _ _ _ _ hb=>exact .inl hb
 |Ix _ _ _ _ hk _ b _ _ hb _=>exact .inr ⟨hk,b,hb⟩
 |pure _ _ _ _ hb=>exact .inl hb
 |alloc _ _ hb=>exact .inl hb
 |load _ _ _ _ hb=>exact .inl hb
 |call _ _ hb=>exact .inl hb
 |effect _ hk _ _ _ _ Y _ _ hb=>exact .inr ⟨hk,Y.t,hb⟩
theorem Tr.PH{m j:Nat}(hm:m<=j)(hj:j<=ops.size):∃pre,(D j).bs=pre++(D m).bs/\∀x∈pre,m<=x.1/\x.1<j/\bw pl x.1=.effect:=by
 induction j with
 |zero=>have:m=0:=ai
        subst this;exact⟨[],rfl,λ_ h=>by cases h⟩
 |succ j ih=>
  rcases aA9 hm with h|rfl
  .obtain⟨pre,h1,h2⟩:=ih ai ai;rcases ht.aim (show j<ops.size by omega)with hb|⟨hk,b,hb⟩
   .exact⟨pre,by rw[hb,h1],λx hx=>by have:=h2 x hx;exact⟨this.1,by omega,this.2.2⟩⟩
   .refine⟨(j,b)::pre,by rw[hb,h1];rfl,λx hx=>?_⟩;rcases ayN.1 hx with rfl|hx
    .exact⟨by omega,by omega,hk⟩
    .have:=h2 x hx;exact⟨this.1,by omega,this.2.2⟩
  .exact⟨[],rfl,λ_ h=>by cases h⟩
theorem Tr.SG{m j:Nat}(hm:m<=j)(hj:j<=ops.size)(bt:∀i,m<=i->i<j->bw pl i≠.effect):(D j).bs=(D m).bs:=by
 obtain⟨pre,h1,h2⟩:=ht.PH hm hj;cases pre with
 |nil=>exact h1
 |cons x pre=>have:=h2 x ax;exact absurd this.2.2 (bt x.1 this.1 this.2.1)
end tr
structure vj(ops:Array Oper)(D:Nat->DS)(A:Nat->Prop)(e:Env):Prop where
 n:e.n=(D 0).e.n
 put:∀j,A j->∀t,kD ops j=aa t->e.at t=(D (j+1)).e.at t
 cP:∀t,(∀j,A j->kD ops j≠aa t)->e.at t=(D 0).e.at t
theorem abO{e:Env}{dst:Option Tmp}{v:IV}{t:Nat}(h:dst≠aa t):(e.put dst v).at t=e.at t:=by
 cases dst with
 |none=>rfl
 |some d=>
  rw[Env.dv,if_neg];intro hc;exact h (by rw[hc.2])
theorem vj.step{D:Nat->DS}{A:Nat->Prop}{e:Env}(ho:pY ops pl){j:Nat}{o:Oper}{v:IV}(h:vj ops D A e)(hA:∀i,A i->i<ops.size)(hj:ops[j]?=aa o)(hnj:¬A j)
 (hd:(D (j+1)).e=(D j).e.put o.dst v)(hold:∀t,kD ops j=aa t->(D j).e.at t=(D 0).e.at t)(hn:(D j).e.n=(D 0).e.n):vj ops D (λi=>A i\/i=j) (e.put o.dst v):=by
 have aj:=(azj.1 hj).1;have fN:kD ops j=o.dst:=by unfold kD;rw[hj];rfl
 have agp:∀i t,A i->kD ops i=aa t->o.dst≠aa t:=by
  intro i t hi hit;have wz:=hA i hi;have bt:i≠j:=λhx=>hnj (hx▸hi);rw[<-fN];rcases Nat.lt_or_gt_of_ne bt with iN|iN
  .exact ho.single i j iN aj t hit
  .intro hc;exact ho.single j i iN wz t hc hit
 refine⟨by rw[Env.ng];exact h.n,λi hi t hit=>?_,λt cS=>?_⟩
 .rcases hi with hi|rfl
  .rw[abO (agp i t hi hit)];exact h.put i hi t hit
  .rw[fN]at hit;rw[hd,hit,Env.dv,Env.dv,h.n,hn];split
   .rfl
   .rw[hold t (by rw[fN];exact hit)];refine h.cP t λi hi hc=>agp i t hi hc hit
 .rw[abO (by rw[<-fN];exact cS j (.inr rfl))];exact h.cP t λi hi=>cS i (.inl hi)
theorem Tr.env{D:Nat->DS}(ht:Tr P S pl ro ops D)(ho:pY ops pl):∀j,j<=ops.size->vj ops D (λi=>i<j) (D j).e
 |0,_=>⟨rfl,λi hi=>absurd hi ai,λt _=>rfl⟩
 |j+1,hj=>by
  obtain⟨o,v,h1,h2,_,_⟩:=ht.SD (show j<ops.size by omega);have ih:=ht.env ho j ai;have:=vj.step (A:=λi=>i<j) (v:=v) ho ih (λi hi=>by omega) h1 ai h2 (λt hd=>ih.cP t λi hi hc=>ho.single i j hi ai t hc hd) ih.n;rw[<-h2]at this;refine⟨this.n,λi hi=>this.put i ai,λt cS=>this.cP t λi hi=>cS i ai⟩
theorem akc(ho:pY ops pl):∀(j:Nat),j<ops.size->∀i,kE pl j i->i<j:=by
 intro j;induction j using aDy with
 |_ j ih=>
  intro hj i hb;obtain⟨e,he,da,h1⟩:=ho.bits j _ (ay2 hj) i hb;have aj:=ho.back j _ (ay2 hj) e he da;rcases h1 with rfl|h1
  .exact aj
  .have:=ih e.on aj ai i h1;omega
theorem Kf{D:Nat->DS}{A B:Nat->Prop}{e e':Env}(h:vj ops D A e)(h':vj ops D B e'){t:Nat}(hAB:∀i,kD ops i=aa t->(A i↔B i)):e.at t=e'.at t:=by
 by_cases hx:∃i,A i/\kD ops i=aa t
 .obtain⟨i,hi,hd⟩:=hx;rw[h.put i hi t hd,h'.put i ((hAB i hd).1 hi) t hd]
 .rw[h.cP t λi hi hd=>hx ⟨i,hi,hd⟩,h'.cP t λi hi hd=>hx ⟨i,(hAB i hd).2 hi,hd⟩]
theorem vl{e e':Env}{j:Nat}{o:Oper}(hj:ops[j]?=aa o)(h:∀t∈C_ ops j,e.at t=e'.at t)(hn:e.n=e'.n):
 (∀x∈o.op.operands,aC e x=aC e' x)/\aT o ops e=aT o ops e':=by
 have hr:C_ ops j=wJ ops o:=by
  unfold C_;rw[azo,List.getElem?_map];have:ops.toList[j]?=aa o:=by simpa using hj
  rw[this];rfl
 rw[hr]at h;refine⟨λx hx=>?_,?_⟩
 .cases x with
  |tmp t=>exact h t (by unfold wJ;rw[ayS];left;exact List.mem_filterMap.2 ⟨.tmp t,by simpa using hx,rfl⟩)
  |_=>rfl
 .unfold aT;cases hg:o.guard with
  |none=>rfl
  |some g=>
   obtain⟨i,want⟩:=g;dsimp only;cases hd:(ops[i]?).bind (·.dst)with
   |none=>rfl
   |some d=>
    dsimp only;rw[hn,h d (by unfold wJ;rw[ayS];right;rw[hg];dsimp only;rw[hd];simp)]
end
section
variable{P:Program}{S:Nat->Self}{ro:Nat}{ops:Array Oper}{pl:eJ}{D:Nat->DS}{N:Nat}[Sm]
structure Made(ops:Array Oper)(D:Nat->DS)(p:Piece):Prop where
 lt:p.j<ops.size
 lo:p.lo=(D p.j).n
 hi:p.hi=(D (p.j+1)).n
 aM:(D (p.j+1)).aM=p::(D p.j).aM
def WY(ops:Array Oper)(pl:eJ)(D:Nat->DS)(i:Nat):Prop:=bw pl i=.effect/\∃o,ops[i]?=aa o/\aT o ops (D i).e=ab
def vm(ops:Array Oper)(pl:eJ)(D:Nat->DS)(A:Nat->Prop)(q:Nat):Prop:=∀i,A i->WY ops pl D i->¬kE pl i q
def gP(l:List (Nat×T Ob)):T Ob:=match l with|(_,b)::_=>b|[]=>.lf
theorem Tr.aM(ht:Tr P S pl ro ops D)(ho:pY ops pl)(h0:(D 0).aM=[]):∀j,j<=ops.size->∀p∈(D j).aM,Made ops D p/\p.j<j/\∀i,i<j->WY ops pl D i->¬kE pl i p.j:=by
 intro j;induction j with
 |zero=>intro _ p hp;rw[h0]at hp;cases hp
 |succ j ih=>
  intro hj p hp;have SH:j<ops.size:=ai;obtain⟨o,v,h1,_,_,hs⟩:=ht.SD SH
  have cP:p∈(D j).aM->(WY ops pl D j->¬kE pl j p.j)->Made ops D p/\p.j<j+1/\∀i,i<j+1->WY ops pl D i->¬kE pl i p.j:=λhp hw=>by
   obtain⟨a,b,c⟩:=ih ai p hp;refine⟨a,by omega,λi hi gD=>?_⟩;rcases aA9 (Nat.le_of_lt_succ hi)with hi|rfl
   .exact c i hi gD
   .exact hw gD
  have new:∀Y:St,p=⟨j,(D j).n,Y.n,Y.t⟩->(D (j+1)).n=Y.n->(D (j+1)).aM=⟨j,(D j).n,Y.n,Y.t⟩::(D j).aM->Made ops D p/\p.j<j+1/\∀i,i<j+1->WY ops pl D i->¬kE pl i p.j:=λY ye hn jW=>by
   subst ye;refine⟨⟨SH,rfl,hn.symm,jW⟩,Nat.lt_succ_self _,λi hi _ hb=>?_⟩;have:=akc ho i ai _ hb;dsimp only at this;omega
  cases hs with
  |skip hw hv hn jW hk hb=>rw[jW]at hp;exact cP hp λh=>absurd h.1 hk
  |Ix hw hv hn jW hk=>
   rw[jW]at hp;refine cP hp λh=>?_;obtain⟨_,o',h2,h3⟩:=h;rw[h1]at h2;cases h2;rw[hw]at h3;cases h3
  |pure hw hk hn jW=>rw[jW]at hp;exact cP hp λh=>(by have:=h.1;rw[hk]at this;cases this)
  |load hw hk hn jW=>rw[jW]at hp;exact cP hp λh=>(by have:=h.1;rw[hk]at this;cases this)
  |alloc hw hk hb Y he hn jW=>
   have va:=hp;rw[jW]at va;rcases ayN.1 va with rfl|va
   .exact new Y rfl hn jW
   .exact cP va λh=>(by have:=h.1;rw[hk]at this;cases this)
  |call hw hk hb i0 b rest jA Y he hn jW=>
   have va:=hp;rw[jW]at va;rcases ayN.1 va with rfl|va
   .exact new Y rfl hn jW
   .exact cP va λh=>(by have:=h.1;rw[hk]at this;cases this)
  |effect hw hk i0 b rest jA Y he hn hb jW=>
   rw[jW,azC]at hp;refine cP hp.1 λ_ hb=>?_;have h2:=hp.2;unfold kE at hb;rw[hb]at h2;cases h2
theorem SI(ht:Tr P S pl ro ops D){p:Piece}(hp:Made ops D p):bw pl p.j≠.effect:=by
 intro hk;obtain⟨o,v,h1,_,_,hs⟩:=ht.SD hp.lt;have jW:=hp.aM;have len:=congrArg List.length jW;simp only[ay6]at len;cases hs with
 |skip _ _ _ h=>rw[h]at len;omega
 |Ix _ _ _ h=>rw[h]at len;omega
 |pure _ h=>rw[hk]at h;cases h
 |load _ h=>rw[hk]at h;cases h
 |alloc _ h=>rw[hk]at h;cases h
 |call _ h=>rw[hk]at h;cases h
 |effect _ _ _ _ _ _ _ _ _ _ h=>
  rw[h]at len;have:=List.length_filter_le (λq=> !ayY (pl.cJ.getD p.j 0) q.j) (D p.j).aM;omega
theorem SJ{p q:Piece}(hp:Made ops D p)(hq:Made ops D q)(h:p.j=q.j):p=q:=by
 have h1:=hp.aM;have h2:=hq.aM;rw[h,h2]at h1;exact(aAp h1).1.symm
structure sQ(ops:Array Oper)(pl:eJ)(D:Nat->DS)(N ro:Nat)(gl:Io)(w0:World)(eG:St)(A:Nat->Prop)(m:Nat)(e:Env)(Z:Io)(cur:Nat->Option Ob)(w:World):Prop where
 sub:∀i,A i->i<ops.size
 closed:∀j,A j->∀i,kE pl j i->A i
 env:vj ops D A e
 SK:m<=ops.size
 PI:∀i,i<ops.size->bw pl i=.effect->(A i↔i<m)
 last:m=0\/∃i,m=i+1/\A i/\bw pl i=.effect
 yX:Bs ro (D ops.size).n gl w0 eG (λid=>(∃j,j<ops.size/\¬A j/\(D j).n<=id/\id<(D (j+1)).n)\/((D ops.size).n<=id/\id<N)) Z cur w
 piece:∀p,Made ops D p->A p.j->vm ops pl D A p.j->∀id o,p.lo<=id->id<p.hi->p.t.get id=aa o->cur id=aa o
 base:∀id o,(gP (D m).bs).get id=aa o->cur id=aa o
 Nn:∀p,Made ops D p->vm ops pl D A p.j->∀id,p.lo<=id->id<p.hi->(gP (D m).bs).get id=ah
 top:∀id,(D m).n<=id->(gP (D m).bs).get id=ah
 low:∀id,id<ro->id<eG.n->(gP (D m).bs).get id=eG.at id
section phi
variable{gl Z aJ:Io}{w0 w w':World}{eG:St}{A:Nat->Prop}{m:Nat}{e:Env}{cur t_:Nat->Option Ob}
theorem sQ.see(h:sQ ops pl D N ro gl w0 eG A m e Z cur w){j n':Nat}{aM:List Piece}(hb:∀i,kE pl j i->A i)(hp:∀p∈aM,Made ops D p/\vm ops pl D A p.j/\p.hi<=n')(hn:(D m).n<=n'):
 (∀id o,(seen aM (pl.cJ.getD j 0) (gP (D m).bs)).get id=aa o->cur id=aa o)/\(∀id,n'<=id->(seen aM (pl.cJ.getD j 0) (gP (D m).bs)).get id=ah):=by
 refine⟨λid o hs=>?_,λid hid=>?_⟩
 .rcases Ke hs with⟨p,DY,kc,h1,h2,h3⟩|hs
  .obtain⟨a,b,_⟩:=hp p DY;exact h.piece p a (hb _ kc) b id o h1 h2 h3
  .exact h.base id o hs
 .cases hs:(seen aM (pl.cJ.getD j 0) (gP (D m).bs)).get id with
  |none=>rfl
  |some o=>
   rcases Ke hs with⟨p,DY,kc,h1,h2,h3⟩|hs
   .obtain⟨_,_,c⟩:=hp p DY;omega
   .rw[h.top id ai]at hs;cases hs
theorem vm.less{A':Nat->Prop}{q:Nat}(h:vm ops pl D A' q)(hA:∀i,A i->A' i):vm ops pl D A q:=λi hi=>h i (hA i hi)
theorem sQ.next(h:sQ ops pl D N ro gl w0 eG A m e Z cur w)(ht:Tr P S pl ro ops D)(hc:∀j,cu (S j))(hk:∀j,bS (S j)){j:Nat}{e':Env}(hj:j<ops.size)(oq:¬A j)(hb:∀i,kE pl j i->A i)(gm:bw pl j≠.effect)
 (he:vj ops D (λi=>A i\/i=j) e'){Fr:Nat->Prop}(qn:Bs ro (D ops.size).n gl w0 eG Fr aJ t_ w')
 (pU:∀id,((∃i,i<ops.size/\¬(A i\/i=j)/\(D i).n<=id/\id<(D (i+1)).n)\/((D ops.size).n<=id/\id<N))->Fr id)
 (akd:∀id o,¬((D j).n<=id/\id<(D (j+1)).n)->cur id=aa o->t_ id=aa o)(hr:(D (j+1)).n=(D j).n\/∃p,Made ops D p/\p.j=j)
 (jW:∀p,Made ops D p->p.j=j->∀id o,p.lo<=id->id<p.hi->p.t.get id=aa o->t_ id=aa o):sQ ops pl D N ro gl w0 eG (λi=>A i\/i=j) m e' aJ t_ w' where
 sub:=λi hi=>hi.elim (h.sub i) (λx=>x▸hj)
 closed:=λi hi q hq=>hi.elim (λhi=>.inl (h.closed i hi q hq)) (λx=>.inl (hb q (x▸hq)))
 env:=he
 SK:=h.SK
 PI:=λi hi qw=>by
  rw[<-h.PI i hi qw];exact⟨λx=>x.elim id (λx=>absurd (x▸qw) gm),.inl⟩
 last:=h.last.imp id (λ⟨i,h1,h2,h3⟩=>⟨i,h1,.inl h2,h3⟩)
 yX:=qn.fr pU
 piece:=λp hp hA hu id o h1 h2 h3=>by
  by_cases p4:p.j=j
  .exact jW p hp p4 id o h1 h2 h3
  .refine akd id o (λhx=>?_) (h.piece p hp (hA.resolve_right p4) (hu.less λ_ x=>.inl x) id o h1 h2 h3);rw[hp.lo]at h1;rw[hp.hi]at h2;exact p4 (ht.apart hc hk hp.lt hj ⟨h1,h2⟩ hx)
 base:=λid o hg=>by
  refine akd id o (λhx=>?_) (h.base id o hg);rcases hr with hr|⟨p,hp,p4⟩
  .omega
  .have:=h.Nn p hp (λi hi _ hbi=>oq (h.closed i hi j (p4▸hbi))) id (by rw[hp.lo,p4];exact hx.1) (by rw[hp.hi,p4];exact hx.2);rw[this]at hg;cases hg
 Nn:=λp hp hu=>h.Nn p hp (hu.less λ_ x=>.inl x)
 top:=h.top
 low:=h.low
theorem sQ.agq(h:sQ ops pl D N ro gl w0 eG A m e Z cur w){j:Nat}{e':Env}(hj:j<ops.size)(hb:∀i,kE pl j i->A i)(gm:bw pl j=.effect)(yK:∀i,i<ops.size->bw pl i=.effect->(A i↔i<j))
 (he:vj ops D (λi=>A i\/i=j) e'){Fr:Nat->Prop}(qn:Bs ro (D ops.size).n gl w0 eG Fr aJ t_ w')
 (pU:∀id,((∃i,i<ops.size/\¬(A i\/i=j)/\(D i).n<=id/\id<(D (i+1)).n)\/((D ops.size).n<=id/\id<N))->Fr id)
 (jW:∀p,Made ops D p->p.j≠j->A p.j->vm ops pl D (λi=>A i\/i=j) p.j->∀id o,p.lo<=id->id<p.hi->cur id=aa o->t_ id=aa o)(bt:∀p,Made ops D p->p.j≠j)
 (vn:∀id o,(gP (D (j+1)).bs).get id=aa o->t_ id=aa o)
 (aoE:∀p,Made ops D p->vm ops pl D (λi=>A i\/i=j) p.j->∀id,p.lo<=id->id<p.hi->(gP (D (j+1)).bs).get id=ah)
 (Kg:∀id,(D (j+1)).n<=id->(gP (D (j+1)).bs).get id=ah)(aen:∀id,id<ro->id<eG.n->(gP (D (j+1)).bs).get id=eG.at id):
 sQ ops pl D N ro gl w0 eG (λi=>A i\/i=j) (j+1) e' aJ t_ w' where
 sub:=λi hi=>hi.elim (h.sub i) (λx=>x▸hj)
 closed:=λi hi q hq=>hi.elim (λhi=>.inl (h.closed i hi q hq)) (λx=>.inl (hb q (x▸hq)))
 env:=he
 SK:=hj
 PI:=λi hi qw=>by
  constructor
  .intro x;rcases x with x|rfl
   .have:=(yK i hi qw).1 x;omega
   .omega
  .intro x;by_cases oM:i=j
   .exact .inr oM
   .exact .inl ((yK i hi qw).2 ai)
 last:=.inr ⟨j,rfl,.inr rfl,gm⟩
 yX:=qn.fr pU
 piece:=λp hp hA hu id o h1 h2 h3=>jW p hp (bt p hp) (hA.resolve_right (bt p hp)) hu id o h1 h2 (h.piece p hp (hA.resolve_right (bt p hp)) (hu.less λ_ x=>.inl x) id o h1 h2 h3)
 base:=vn
 Nn:=aoE
 top:=Kg
 low:=aen
end phi
end
section
variable{P:Program}{S:Nat->Self}{ro:Nat}{ops:Array Oper}{pl:eJ}{D:Nat->DS}{N:Nat}[Sm]
theorem PJ{e:Env}{o:Oper}{n bits:Nat}{v:IV}{aM:List Piece}{b:T Ob}(h:loadAt P e o n v aM bits b=ab):
 ∃Y,aA P n (aC e) o ⟨n,seen aM bits b⟩=aa (.val v Y)/\Y.n=n:=by
 unfold loadAt at h;split at h
 .rename_i u Y he;simp only[ayz]at h;rw[Sm.ok _ _ h.2]at he;exact⟨Y,he,Nat.eq_of_beq_eq_true h.1⟩
 .cases h
theorem Ju{e:Env}{o:Oper}{n bits:Nat}{v:IV}{aM:List Piece}{i:Nat}{b:T Ob}{rest:List (Nat×T Ob)}:∀{pre:List (Nat×T Ob)},nQ P e o n v aM bits (pre++(i,b)::rest)=ab->
 (∀x∈pre,ayY bits x.1≠ab)->loadAt P e o n v aM bits b=ab
 |[],h,_=>by
  simp only[azl,nQ,ayz]at h;exact h.1
 |x::pre,h,hp=>by
  obtain⟨i',b'⟩:=x;simp only[azv,nQ,ayz,azf]at h;exact Ju (h.2.resolve_left (hp (i',b') ax)) λy hy=>hp y (by simp[hy])
theorem abP{i:Nat}{t:Tmp}(h:kD ops i=aa t):i<ops.size:=by
 unfold kD at h;cases ho:ops[i]? with
 |none=>rw[ho]at h;cases h
 |some o=>exact(azj.1 ho).1
section step
variable{gl Z:Io}{w0 w:World}{eG:St}{A:Nat->Prop}{m:Nat}{e:Env}{cur:Nat->Option Ob}{j:Nat}
theorem sQ.reads(h:sQ ops pl D N ro gl w0 eG A m e Z cur w)(ht:Tr P S pl ro ops D)(ho:pY ops pl)(hj:j<ops.size)(oq:¬A j)(hb:∀i,kE pl j i->A i):∀t∈C_ ops j,e.at t=(D j).e.at t:=by
 intro t hm;refine Kf h.env (ht.env ho j ai) λi hd=>?_;have hi:=abP hd;rcases aBd i j with aj|rfl|aj
 .refine⟨λ_=>aj,λ_=>azr λhn=>?_⟩;exact(ho.free i j aj hj (λhx=>hn (hb i hx))).1 t hd hm
 .exact⟨λx=>absurd x oq,λx=>absurd x ai⟩
 .refine⟨λhA=>absurd hm ?_,λx=>by omega⟩;exact(ho.free j i aj hi (λhx=>oq (h.closed i hA j hx))).2.1 t hd
theorem sQ.order(h:sQ ops pl D N ro gl w0 eG A m e Z cur w)(ht:Tr P S pl ro ops D)(ho:pY ops pl)(hj:j<ops.size)(oq:¬A j)(hb:∀i,kE pl j i->A i)(gm:bw pl j=.effect\/bw pl j=.call):
 (∀i,i<ops.size->bw pl i=.effect->(A i↔i<j))/\m<=j/\(D j).bs=(D m).bs:=by
 have h1:∀i,i<ops.size->bw pl i=.effect->(A i↔i<j):=by
  intro i hi qw;rcases aBd i j with aj|rfl|aj
  .refine⟨λ_=>aj,λ_=>azr λhn=>?_⟩;have:=(ho.free i j aj hj (λhx=>hn (hb i hx))).2.2;rw[qw]at this;rcases gm with gm|gm<;>(rw[gm]at this;cases this)
  .exact⟨λx=>absurd x oq,λx=>absurd x ai⟩
  .refine⟨λhA=>?_,λx=>by omega⟩;have:=(ho.free j i aj hi (λhx=>oq (h.closed i hA j hx))).2.2;rw[qw]at this;rcases gm with gm|gm<;>(rw[gm]at this;cases this)
 have h2:m<=j:=by
  rcases h.last with hm|⟨i,hm,hA,qw⟩
  .omega
  .have:=(h1 i (h.sub i hA) qw).1 hA;omega
 refine⟨h1,h2,ht.SG h2 ai λi hi1 hi2 qw=>?_⟩;have:=(h1 i ai qw).2 hi2;have:=(h.PI i ai qw).1 this;omega
theorem Tr.aoF(ht:Tr P S pl ro ops D)(hj:j<ops.size):(D j).bs≠[]:=by
 obtain⟨_,_,_,_,h,_⟩:=ht.SD hj;exact h
theorem sQ.aoG(h:sQ ops pl D N ro gl w0 eG A m e Z cur w)(ht:Tr P S pl ro ops D)(ho:pY ops pl)(hc:∀j,cu (S j))(hk:∀j,bS (S j))(h0:(D 0).aM=[])(hj:j<ops.size)(oq:¬A j)(hb:∀i,kE pl j i->A i)
 {o:Oper}{v:IV}(mj:ops[j]?=aa o)(hw:aT o ops (D j).e=ab)(gm:bw pl j=.load)(hej:(D (j+1)).e=(D j).e.put o.dst v)
 {i0:Nat}{b:T Ob}{rest:List (Nat×T Ob)}(jA:(D j).bs=(i0,b)::rest){Y:St}(he:aA P (D j).n (aC (D j).e) o ⟨(D j).n,seen (D j).aM (pl.cJ.getD j 0) b⟩=aa (.val v Y))(kM:Y.n=(D j).n)
 (hl:(ayY (pl.cJ.getD j 0) i0||nQ P (D j).e o (D j).n v (D j).aM (pl.cJ.getD j 0) rest)=ab):
 ∃aM n' u al,aA P n' (aC e) o ⟨n',seen aM (pl.cJ.getD j 0) (gP (D m).bs)⟩=aa (.val u al)/\al.n=n'/\(∀p∈aM,Made ops D p/\vm ops pl D A p.j/\p.hi<=n')/\(D m).n<=n'/\e.put o.dst u=e.put o.dst v:=by
 have fg:=h.reads ht ho hj oq hb;have DQ:e.n=(D j).e.n:=by rw[h.env.n,(ht.env ho j ai).n]
 by_cases LJ:m<=j
 .have jW:∀p∈(D j).aM,Made ops D p/\vm ops pl D A p.j/\p.hi<=(D j).n:=by
   intro p hp;obtain⟨a,b,c⟩:=ht.aM ho h0 j ai p hp;refine⟨a,λi hA Jv=>c i ?_ Jv,by rw[a.hi];exact ht.gC hc hk b ai⟩;have:=(h.PI i (h.sub i hA) Jv.1).1 hA;omega
  have Ra:=λ(n':Nat) (Y:St)=>rl (P:=P) (ro:=n') (Y:=Y) (vl mj fg DQ).1;obtain⟨pre,Kh,sN⟩:=ht.PH LJ (by omega:j<=ops.size);cases pre with
  |nil=>
   have Lv:gP (D m).bs=b:=by
    rw[azl]at Kh;rw[<-Kh,jA];rfl
   exact⟨(D j).aM,(D j).n,v,Y,by rw[Ra,Lv];exact he,kM,jW,ht.gC hc hk LJ ai,rfl⟩
  |cons x pre=>
   obtain⟨i1,b1,Rb,om⟩:∃i1 b1 Rb,(D m).bs=(i1,b1)::Rb:=by
    cases hx:(D m).bs with
    |nil=>exact absurd hx (ht.aoF ai)
    |cons y ys=>exact⟨y.1,y.2,ys,rfl⟩
   have nob:∀y∈x::pre,ayY (pl.cJ.getD j 0) y.1≠ab:=by
    intro y hy kc;obtain⟨g1,g2,g3⟩:=sN y hy;have:=(h.PI y.1 ai g3).1 (hb y.1 kc);omega
   rw[jA]at Kh;simp only[azv,aAa]at Kh;obtain⟨hx,ia⟩:=Kh
   have mW:ayY (pl.cJ.getD j 0) i0=af:=by
    have:=nob x ax;rw[<-hx]at this;simpa using this
   rw[mW,aAN,ia,om]at hl;obtain⟨al,h1,h2⟩:=PJ (Ju hl λy hy=>nob y (by simp[hy]));refine⟨(D j).aM,(D j).n,v,al,?_,h2,jW,ht.gC hc hk LJ ai,rfl⟩;rw[Ra,om];exact h1
 .obtain⟨i,hmi,hA,qw⟩:∃i,m=i+1/\A i/\bw pl i=.effect:=h.last.resolve_left ai;have hi:=h.sub i hA;have oM:i≠j:=λhx=>oq (hx▸hA);have aj:j<i:=ai;have aoH:¬kE pl i j:=λhx=>oq (h.closed i hA j hx)
  have jW:∀p∈(D m).aM,Made ops D p/\vm ops pl D A p.j/\p.hi<=(D m).n:=by
   intro p hp;obtain⟨a,b,c⟩:=ht.aM ho h0 m h.SK p hp;refine⟨a,λi hA Jv=>c i ?_ Jv,by rw[a.hi];exact ht.gC hc hk b h.SK⟩;exact(h.PI i (h.sub i hA) Jv.1).1 hA
  have Zw:=ht.env ho i ai
  have ake:∀t∈C_ ops j,e.at t=(D i).e.at t:=by
   intro t htm;refine Kf h.env Zw λq hd=>?_;have hq:=abP hd;rcases aBd q j with hqj|rfl|hqj
   .have:A q:=azr λhn=>(ho.free q j hqj hj (λhx=>hn (hb q hx))).1 t hd htm;exact⟨λ_=>by omega,λ_=>this⟩
   .exact absurd htm (ho.aek q hj gm t hd)
   .exact absurd htm (ho.abK j q hqj hq gm t hd)
  have akf:e.n=(D i).e.n:=by rw[h.env.n,Zw.n]
  have Ra:=λ(n':Nat) (Y:St)=>rl (P:=P) (ro:=n') (Y:=Y) (vl mj ake akf).1;have gD:aT o ops (D i).e=ab:=by rw[<-(vl mj ake akf).2,(vl mj fg DQ).2,hw]
  have EV:recheck P pl ops (pl.cJ.getD i 0) (D i).e (D m).n (D m).aM (gP (D m).bs) (ops.toList.zipIdx.take i)=ab:=by
   obtain⟨o',v',_,_,_,hs⟩:=ht.SD hi;rw[hmi];cases hs with
   |skip _ _ _ _ hx=>exact absurd qw hx
   |Ix _ _ hn hp _ i1 b1 Rb _ da hr=>rw[hn,hp,da];exact hr
   |pure _ hx=>rw[qw]at hx;cases hx
   |alloc _ hx=>rw[qw]at hx;cases hx
   |load _ hx=>rw[qw]at hx;cases hx
   |call _ hx=>rw[qw]at hx;cases hx
   |effect _ _ i1 b1 Rb _ au _ hn da hp hr=>rw[da];exact hr
  unfold recheck at EV;rw[ayP]at EV
  have dt:(o,j)∈ops.toList.zipIdx.take i:=by
   rw[aCz];refine⟨j,?_⟩;rw[List.getElem?_take,if_pos aj,aBt];have:ops.toList[j]?=aa o:=by simpa using mj
   rw[this];simp
  have hx:=EV (o,j) dt;dsimp only at hx;have atU:pl.kinds.getD j .effect=.load:=gm;rw[atU]at hx
  have mW:ayY (pl.cJ.getD i 0) j=af:=by
   cases hc:ayY (pl.cJ.getD i 0) j with
   |false=>rfl
   |true=>exact absurd hc aoH
  rw[mW,gD]at hx;simp only[az4,aAN]at hx;split at hx
  .rename_i d hd;obtain⟨al,h1,h2⟩:=PJ hx;refine⟨(D m).aM,(D m).n,(D i).e.at d,al,?_,h2,jW,ayA _,?_⟩
   .rw[Ra];exact h1
   .rw[hd];have hdj:kD ops j=aa d:=by unfold kD;rw[mj];exact hd
    have aK:(D i).e.at d=(D (j+1)).e.at d:=Zw.put j aj d hdj;rw[aK,hej,hd,Env.dv];by_cases hdn:d<e.n
    .rw[if_pos ⟨by rw[<-DQ];exact hdn,rfl⟩]
    .have cS:∀z:IV,e.put (aa d) z=e:=λz=>by
      have:azp d e.n=af:=by
       cases hc:azp d e.n with
       |false=>rfl
       |true=>exact absurd (by simpa using hc) hdn
      simp only[Env.put,this];rfl
     rw[cS,cS]
  .cases hx
end step
end
section
variable{P:Program}{S:Nat->Self}{ro nn:Nat}{ops:Array Oper}{pl:eJ}{D:Nat->DS}{N:Nat}{F:Fence}{rd:Option Nat}{Q:Exit->Act->World->Prop}[Sm]
theorem put_defers{a:Act}{dst:Option Tmp}{u:Value}:(a.put dst u).defers=a.defers:=by cases dst<;>rfl
theorem aeo{cur:Nat->Option Ob}{Y al:St}(h:∀id,Y.at id=ah)(hn:al.n<=Y.n):Br cur Y al=cur:=by
 funext id;unfold Br;rw[if_neg];rw[h id];intro hx;rcases hx with hx|hx
 .cases hx
 .omega
section step
variable{gl Z:Io}{w0 w:World}{eG:St}{A:Nat->Prop}{m:Nat}{e:Env}{cur:Nat->Option Ob}{j:Nat}{a:Act}{K:Act->World->Prop}
theorem sQ.step(hS:∀j,iv P (S j) nn)(hC:∀j,ff P (S j))(hm:∀j,cu (S j))(hk:∀j,bS (S j))(ho:pY ops pl)(ht:Tr P S pl ro ops D)(h0:(D 0).aM=[])(kM:(D 0).n=eG.n)(hnk:(D ops.size).n<=N)(PK:Inv N gl eG w0)
 (h:sQ ops pl D N ro gl w0 eG A m e Z cur w)(hj:j<ops.size)(oq:¬A j)(hb:∀i,kE pl j i->A i)(hF0:kN F rd gl)(he:dc Z e a.tmps)
 (hK:∀m' e' aJ t_ w' a',sQ ops pl D N ro gl w0 eG (λi=>A i\/i=j) m' e' aJ t_ w'->dc aJ e' a'.tmps->a'.defers=a.defers->K a' w'):wpOpIn F 0 P ops Q j K a w:=by
 obtain⟨o,v,mj,hej,aye,hs⟩:=ht.SD hj;have hF:kN F rd Z:=hF0.mono h.yX.ext;have Zx:=ht.env ho j ai;have fg:=h.reads ht ho hj oq hb;have DQ:e.n=(D j).e.n:=by rw[h.env.n,Zx.n]
 have fD:=vl mj fg DQ;have hold:∀t,kD ops j=aa t->(D j).e.at t=(D 0).e.at t:=λt hd=>Zx.cP t λi hi hc=>ho.single i j hi hj t hc hd;have EX:vj ops D (λi=>A i\/i=j) (e.put o.dst v):=h.env.step ho h.sub mj oq hej hold Zx.n;have Sz:∀id,eG.n<=id->id<(D ops.size).n->∀e,gl id e=ah:=λid h1 h2=>PK.fresh id h1 ai;have hnj:(D j).n<=(D (j+1)).n:=ht.abN hm hk hj;have aep:eG.n<=(D j).n:=by rw[<-kM];exact ht.gC hm hk ai ai
 have ayf:(D (j+1)).n<=(D ops.size).n:=ht.gC hm hk ai ai
 have hX:∀id,((∃i,i<ops.size/\¬(A i\/i=j)/\(D i).n<=id/\id<(D (i+1)).n)\/((D ops.size).n<=id/\id<N))->
  ((∃i,i<ops.size/\¬A i/\(D i).n<=id/\id<(D (i+1)).n)\/((D ops.size).n<=id/\id<N))/\¬((D j).n<=id/\id<(D (j+1)).n):=by
  intro id hx;rcases hx with⟨i,h1,h2,h3⟩|hx
  .exact⟨.inl ⟨i,h1,λhA=>h2 (.inl hA),h3⟩,λhr=>h2 (.inr (ht.apart hm hk h1 hj h3 hr))⟩
  .exact⟨.inr hx,λhr=>by omega⟩
 have hFr:∀id,(D j).n<=id->id<(D (j+1)).n->((∃i,i<ops.size/\¬A i/\(D i).n<=id/\id<(D (i+1)).n)\/((D ops.size).n<=id/\id<N)):=λid h1 h2=>.inl ⟨j,hj,oq,h1,h2⟩
 have No:(D (j+1)).n=(D j).n->∀p,Made ops D p->p.j=j->∀(t_:Nat->Option Ob) id o,p.lo<=id->id<p.hi->p.t.get id=aa o->t_ id=aa o:=by
  intro hn p hp p4 t_ id o h1 h2;rw[hp.lo,p4]at h1;rw[hp.hi,p4]at h2;omega
 have hbB:∀{i0:Nat} {b:T Ob} {rest:List (Nat×T Ob)},(D j).bs=(i0,b)::rest->(D j).bs=(D m).bs->gP (D m).bs=b:=λh1 h2=>by rw[<-h2,h1];rfl
 have kf:(∀i,i<ops.size->bw pl i=.effect->(A i↔i<j))->∀p∈(D j).aM,Made ops D p/\vm ops pl D A p.j/\p.hi<=(D j).n:=by
  intro yK p hp;obtain⟨c1,c2,c3⟩:=ht.aM ho h0 j ai p hp;exact⟨c1,λi hA Jv=>c3 i ((yK i (h.sub i hA) Jv.1).1 hA) Jv,by rw[c1.hi];exact ht.gC hm hk c2 ai⟩
 unfold wpOpIn;rw[mj];dsimp only;rw[uE he,fD.2];cases hs with
 |skip hw hv hn hp gm jA=>
  rw[hw];refine⟨λf _=>hF.fn f,?_⟩;subst hv;exact hK m _ Z cur w _ (h.next ht hm hk hj oq hb gm EX h.yX (λid hx=>(hX id hx).1) (λ_ _ _ hc=>hc) (.inl hn) (λp hp p4=>No hn p hp p4 cur)) (he.put tY _) put_defers
 |Ix hw hv hn hp gm i0 b rest jA da hr=>
  rw[hw];refine⟨λf _=>hF.fn f,?_⟩;subst hv;obtain⟨yK,LJ,Lv⟩:=h.order ht ho hj oq hb (.inl gm);have hB:=hbB jA Lv;have LK:gP (D (j+1)).bs=gP (D m).bs:=by rw[da,hB];rfl
  have gB:=ht.gC hm hk LJ (by omega:j<=ops.size);refine hK (j+1) _ Z cur w _ (h.agq hj hb gm yK EX h.yX (λid hx=>(hX id hx).1) (λ_ _ _ _ _ _ _ _ _ hc=>hc) (λp hp p4=>SI ht hp (by rw[p4];exact gm)) ?_ ?_ ?_ ?_) (he.put tY _) put_defers
  .rw[LK];exact h.base
  .rw[LK];exactλp hp hu=>h.Nn p hp (hu.less λ_ x=>.inl x)
  .rw[LK];exactλid hid=>h.top id ai
  .rw[LK];exact h.low
 |pure hw gm hn hp jA Y jz LL=>
  rw[hw];have hx:kY P (S j) 0 e o ⟨0,.lf⟩=aa (v,Y):=by unfold kY;rw[rl fD.1,jz]
  refine DU (N:=0) (hS j) (hC j) (hm j) hx ai hF (h.yX.toGn.inv (λid o hs=>by cases hs) (λid h1 h2=>by omega) (λ_ _=>rfl)) he λu w' aJ hv cX hl=>?_;have qn:=h.yX.step Sz (λid o hs=>by cases hs) (λid h1 h2=>by omega) (λid _ hs=>by cases hs) (λ_ _=>rfl) cX hl;rw[aeo (λ_=>rfl) ai]at qn;exact hK m _ aJ cur w' _ (h.next ht hm hk hj oq hb (by rw[gm];simp) EX qn (λid hx=>⟨(hX id hx).1,λhh=>by omega⟩) (λ_ _ _ hc=>hc) (.inl hn) (λp hp p4=>No hn p hp p4 cur)) ((he.mono hl.ext).put hv _) put_defers
 |alloc hw gm jA Y jz hn hp=>
  rw[hw];have hx:kY P (S j) 0 e o ⟨(D j).n,.lf⟩=aa (v,Y):=by unfold kY;rw[rl fD.1,jz]
  refine DU (N:=(D (j+1)).n) (hS j) (hC j) (hm j) hx ai hF (h.yX.toGn.inv (λid o hs=>by cases hs) (λid h1 h2=>hFr id h1 h2) (λ_ _=>rfl)) he λu w' aJ hv cX hl=>?_;have qn:=h.yX.step Sz (λid o hs=>by cases hs) (λid h1 h2=>⟨ayU aep h1,by omega⟩) (λid _ hs=>by cases hs) (λ_ _=>rfl) cX hl;have LG:Made ops D ⟨j,(D j).n,Y.n,Y.t⟩:=⟨hj,rfl,hn.symm,hp⟩;refine hK m _ aJ _ w' _ (h.next ht hm hk hj oq hb (by rw[gm];simp) EX qn (λid hx=>⟨(hX id hx).1,λhh=>(hX id hx).2 (by rw[hn];exact hh)⟩) (λid o hr hc=>?_) (.inr ⟨_,LG,rfl⟩) (λp oK p4 id o h1 h2 h3=>?_)) ((he.mono hl.ext).put hv _) put_defers
  .unfold Br;rw[if_neg,hc];intro hx;rcases hx with hx|hx
   .cases hx
   .exact hr (by rw[hn];exact hx)
  .have ye:=SJ oK LG p4;subst ye;unfold Br;rw[if_pos (.inr ⟨h1,h2⟩)];exact h3
 |load hw gm hn hp jA i0 b rest He Y jz LL WL=>
  rw[hw];obtain⟨aM,n',u',al,atV,ayg,lG,gB,Kc⟩:=h.aoG ht ho hm hk h0 hj oq hb mj hw gm hej He jz LL WL;obtain⟨jJ,mu⟩:=h.see hb lG gB;have hx:kY P (S j) n' e o ⟨n',seen aM (pl.cJ.getD j 0) (gP (D m).bs)⟩=aa (u',al):=by unfold kY;rw[atV]
  refine DU (N:=n') (hS j) (hC j) (hm j) hx ai hF (h.yX.toGn.inv jJ (λid h1 h2=>by dsimp only at h1;omega) mu) he λu w' aJ hv cX hl=>?_;have qn:=h.yX.step (Y:=⟨n',seen aM (pl.cJ.getD j 0) (gP (D m).bs)⟩) Sz jJ (λid h1 h2=>by dsimp only at h1;omega) (λid _ hs=>?_) mu cX hl
  .have WZ:Br cur ⟨n',seen aM (pl.cJ.getD j 0) (gP (D m).bs)⟩ al=cur:=by
    funext id;unfold Br;split
    .rename_i hc;have hs:((⟨n',seen aM (pl.cJ.getD j 0) (gP (D m).bs)⟩:St).at id).isSome:=hc.resolve_right (by dsimp only;omega);obtain⟨x,hx⟩:=aAJ.1 hs;have aj:id<n':=aAM λhle=>by have:=mu id hle;rw[show(⟨n',seen aM (pl.cJ.getD j 0) (gP (D m).bs)⟩:St).at id=_ from this]at hx;cases hx
     rw[hl.yI id aj aj,hx];exact(jJ id x hx).symm
    .rfl
   rw[WZ]at qn;have atW:dc aJ (e.put o.dst v) (a.put o.dst u).tmps:=by rw[<-Kc];exact(he.mono hl.ext).put hv _
   exact hK m _ aJ cur w' _ (h.next ht hm hk hj oq hb (by rw[gm];simp) EX qn (λid hx=>⟨(hX id hx).1,λhh=>by dsimp only at hh;omega⟩) (λ_ _ _ hc=>hc) (.inl hn) (λp hp p4=>No hn p hp p4 cur)) atW put_defers
  .exact aAM λhle=>by
    have:=mu id hle;rw[show(⟨n',seen aM (pl.cJ.getD j 0) (gP (D m).bs)⟩:St).at id=_ from this]at hs;cases hs
 |call hw gm jA i0 b rest He Y jz hn hp=>
  rw[hw];obtain⟨yK,LJ,Lv⟩:=h.order ht ho hj oq hb (.inr gm);have hB:=hbB He Lv;have gB:=ht.gC hm hk LJ (by omega:j<=ops.size);obtain⟨jJ,mu⟩:=h.see hb (kf yK) gB;rw[hB]at jJ mu
  have hx:kY P (S j) (D j).n e o ⟨(D j).n,seen (D j).aM (pl.cJ.getD j 0) b⟩=aa (v,Y):=by
   rw[<-jz];unfold kY;rw[rl fD.1]
  have aj:∀id,((⟨(D j).n,seen (D j).aM (pl.cJ.getD j 0) b⟩:St).at id).isSome=ab->id<(D j).n:=λid hs=>aAM λhle=>by
   have:=mu id hle;rw[show(⟨(D j).n,seen (D j).aM (pl.cJ.getD j 0) b⟩:St).at id=_ from this]at hs;cases hs
  refine DU (N:=(D (j+1)).n) (hS j) (hC j) (hm j) hx ai hF (h.yX.toGn.inv jJ (λid h1 h2=>hFr id h1 h2) mu) he λu w' aJ hv cX hl=>?_;have qn:=h.yX.step (Y:=⟨(D j).n,seen (D j).aM (pl.cJ.getD j 0) b⟩) Sz jJ (λid h1 h2=>⟨ayU aep h1,by omega⟩) (λid _ hs=>aj id hs) mu cX hl;have LG:Made ops D ⟨j,(D j).n,Y.n,Y.t⟩:=⟨hj,rfl,hn.symm,hp⟩;refine hK m _ aJ _ w' _ (h.next ht hm hk hj oq hb (by rw[gm];simp) EX qn (λid hx=>⟨(hX id hx).1,λhh=>(hX id hx).2 (by rw[hn];exact hh)⟩) (λid o hr hc=>?_) (.inr ⟨_,LG,rfl⟩) (λp oK p4 id o h1 h2 h3=>?_)) ((he.mono hl.ext).put hv _) put_defers
  .unfold Br;split
   .rename_i jh;have hs:=jh.resolve_right (λhx=>hr (by rw[hn];exact hx));obtain⟨x,hx⟩:=aAJ.1 hs;rw[hl.yI id (aj id hs) (aj id hs),hx,<-jJ id x hx];exact hc
   .exact hc
  .have ye:=SJ oK LG p4;subst ye;unfold Br;rw[if_pos (.inr ⟨h1,h2⟩)];exact h3
 |effect hw gm i0 b rest He Y jz hn da hp hr=>
  rw[hw];obtain⟨yK,LJ,Lv⟩:=h.order ht ho hj oq hb (.inl gm);have hB:=hbB He Lv;have LK:gP (D (j+1)).bs=Y.t:=by rw[da];rfl
  have gB:=ht.gC hm hk LJ (by omega:j<=ops.size);obtain⟨jJ,mu⟩:=h.see hb (kf yK) gB;rw[hB]at jJ mu
  have hx:kY P (S j) ro e o ⟨(D j).n,seen (D j).aM (pl.cJ.getD j 0) b⟩=aa (v,Y):=by
   rw[<-jz];unfold kY;rw[rl fD.1]
  have Aw:WY ops pl D j:=⟨gm,o,mj,hw⟩
  have oB:∀p,Made ops D p->vm ops pl D (λi=>A i\/i=j) p.j->∀id,p.lo<=id->id<p.hi->(seen (D j).aM (pl.cJ.getD j 0) b).get id=ah:=by
   intro p oK hu id h1 h2;cases yf:(seen (D j).aM (pl.cJ.getD j 0) b).get id with
   |none=>rfl
   |some x=>
    rcases Ke yf with⟨q,hq,kc,g1,g2,g3⟩|yf
    .obtain⟨Bi,_,_⟩:=kf yK q hq
     have:q.j=p.j:=by
      rw[Bi.lo]at g1;rw[Bi.hi]at g2;rw[oK.lo]at h1;rw[oK.hi]at h2;exact ht.apart hm hk Bi.lt oK.lt ⟨g1,g2⟩ ⟨h1,h2⟩
     exact absurd (show kE pl j p.j by rw[<-this];exact kc) (hu j (.inr rfl) Aw)
    .rw[<-hB,h.Nn p oK (hu.less λ_ x=>.inl x) id h1 h2]at yf;cases yf
  have bt:∀p,Made ops D p->p.j≠j:=λp oK p4=>SI ht oK (by rw[p4];exact gm)
  have SL:∀p,Made ops D p->∀id,p.lo<=id->id<p.hi->¬((D j).n<=id/\id<Y.n):=λp oK id h1 h2 hx=>by
   rw[oK.lo]at h1;rw[oK.hi]at h2;exact bt p oK (ht.apart hm hk oK.lt hj ⟨h1,h2⟩ (by rw[hn];exact hx))
  refine DU (N:=(D (j+1)).n) (hS j) (hC j) (hm j) hx ai hF (h.yX.toGn.inv jJ (λid h1 h2=>hFr id h1 h2) mu) he λu w' aJ hv cX hl=>?_;have qn:=h.yX.step (Y:=⟨(D j).n,seen (D j).aM (pl.cJ.getD j 0) b⟩) Sz jJ (λid h1 h2=>⟨ayU aep h1,by omega⟩) (λid hr _=>hr) mu cX hl;refine hK (j+1) _ aJ _ w' _ (h.agq hj hb gm yK EX qn (λid hx=>⟨(hX id hx).1,λhh=>(hX id hx).2 (by rw[hn];exact hh)⟩) (λp oK p4 hA hu id o h1 h2 hc=>?_) bt ?_ ?_ ?_ ?_) ((he.mono hl.ext).put hv _) put_defers
  .unfold Br;rw[if_neg]
   .exact hc
   .intro hx;rcases hx with hx|hx
    .rw[show(⟨(D j).n,seen (D j).aM (pl.cJ.getD j 0) b⟩:St).at id=_ from oB p oK hu id h1 h2]at hx;cases hx
    .exact SL p oK id h1 h2 hx
  .rw[LK];intro id o hg;unfold Br;split
   .exact hg
   .rename_i hx
    have h_:(⟨(D j).n,seen (D j).aM (pl.cJ.getD j 0) b⟩:St).at id=ah:=by
     cases hs:(⟨(D j).n,seen (D j).aM (pl.cJ.getD j 0) b⟩:St).at id with
     |none=>rfl
     |some y=>exact absurd (.inl (by rw[hs];rfl)) hx
    have axK:¬((D j).n<=id/\id<Y.n):=λhh=>hx (.inr hh);have:=hl.dead id h_ (by dsimp only;omega);rw[show Y.at id=_ from hg]at this;cases this
  .rw[LK];intro p oK hu id h1 h2;have:=SL p oK id h1 h2;exact hl.dead id (oB p oK hu id h1 h2) (by dsimp only;omega)
  .rw[LK];intro id hid;exact hl.dead id (mu id ai) (.inr ai)
  .rw[LK];intro id vo aj;rw[show Y.t.get id=Y.at id from rfl,hl.yI id vo (by dsimp only;omega)];show(seen (D j).aM (pl.cJ.getD j 0) b).get id=_;rw[ael,<-hB]
   .exact h.low id vo aj
   .intro p oK;obtain⟨c1,c2,_⟩:=ht.aM ho h0 j ai p oK;rw[c1.lo];have:=ht.gC hm hk (azi p.j) (by have:=c1.lt;omega);omega
end step
end
section
variable{P:Program}{S:Nat->Self}{ro nn:Nat}{ops:Array Oper}{pl:eJ}{D:Nat->DS}{N:Nat}{F:Fence}{rd:Option Nat}{Q:Exit->Act->World->Prop}[Sm]
def gn(listed:Array Bool)(i:Nat):Prop:=listed[i]?=aa ab
omit [Sm]in
theorem zW{listed:Array Bool}{j:Nat}(hj:j<listed.size):gn (listed.setIfInBounds j ab)=λi=>gn listed i\/i=j:=by
 funext i;refine propext ?_;unfold gn;rw[aB7];by_cases oM:j=i
 .subst oM;simp[hj]
 .simp[oM,Ne.symm oM]
omit [Sm]in
theorem qK{listed:Array Bool}{j:Nat}(h:j∈azz .any ops listed):j<ops.size/\listed[j]?=aa af/\∃o,ops[j]?=aa o/\∀e∈o.after.toList,azY .any e=ab->gn listed e.on:=by
 unfold azz at h;rw[azC,aAv]at h;obtain⟨aj,h⟩:=h;rw[ayz]at h;refine⟨aj,?_,ops[j],ay2 aj,λe he hb=>?_⟩
 .have h1:=h.1;rw[azm]at h1;cases hx:listed[j]? with
  |none=>rw[hx]at h1;cases h1
  |some b=>rw[hx]at h1;cases b with
   |false=>rfl
   |true=>cases h1
 .have h2:=h.2;rw[ay2 aj]at h2;simp only[ay_,azh]at h2;rw[aCK]at h2;have:=h2 e (by simpa using he);rw[hb,az4,aAN,azm]at this;unfold gn;cases hx:listed[e.on]? with
  |none=>rw[hx]at this;cases this
  |some b=>rw[hx]at this;cases b with
   |false=>cases this
   |true=>rfl
omit [Sm]in
theorem PL(ho:pY ops pl){listed:Array Bool}(bf:listed.size=ops.size)(h:azz .any ops listed=[]):∀i,i<ops.size->gn listed i:=by
 intro i;induction i using aDy with
 |_ i ih=>
  intro hi;refine azr λhn=>?_
  have hf:listed[i]?=aa af:=by
   rw[ay2 ai];cases hx:listed[i]'ai with
   |false=>rfl
   |true=>exact absurd (by unfold gn;rw[ay2 ai,hx]) hn
  have hm:i∈azz .any ops listed:=by
   unfold azz;rw[azC,aAv];refine⟨hi,?_⟩;rw[azm,hf,ay2 hi];simp only[azh,Bool.not_false,Bool.true_and,ay_];rw[aCK];intro e he;cases hb:azY .any e with
   |false=>rfl
   |true=>
    have aj:=ho.back i _ (ay2 hi) e (by simpa using he) hb;have:=ih e.on aj ai;unfold gn at this;rw[azm,this];rfl
  rw[h]at hm;cases hm
section any
variable{gl:Io}{w0:World}{eG:St}{a0:Act}
theorem akg(hS:∀j,iv P (S j) nn)(hC:∀j,ff P (S j))(hm:∀j,cu (S j))(hk:∀j,bS (S j))(ho:pY ops pl)(ht:Tr P S pl ro ops D)(h0:(D 0).aM=[])(kM:(D 0).n=eG.n)(hnk:(D ops.size).n<=N)(PK:Inv N gl eG w0)
 (hF0:kN F rd gl)(Da:∀m e Z cur w a,sQ ops pl D N ro gl w0 eG (λi=>i<ops.size) m e Z cur w->dc Z e a.tmps->a.defers=a0.defers->Q .normal a w):
 ∀(fuel:Nat) (listed:Array Bool) (m:Nat) (e:Env) (Z:Io) (cur:Nat->Option Ob) (w:World) (a:Act),listed.size=ops.size->listed.toList.count af<=fuel->sQ ops pl D N ro gl w0 eG (gn listed) m e Z cur w->
  dc Z e a.tmps->a.defers=a0.defers->wpAnyIn F 0 P .any ops Q fuel listed a w:=by
 have cb:∀(listed:Array Bool) (m:Nat) (e:Env) (Z:Io) (cur:Nat->Option Ob) (w:World) (a:Act),listed.size=ops.size->(∀i,i<ops.size->gn listed i)->sQ ops pl D N ro gl w0 eG (gn listed) m e Z cur w->
  dc Z e a.tmps->a.defers=a0.defers->Q .normal a w:=by
  intro listed m e Z cur w a bf hl h he hd
  have:gn listed=λi=>i<ops.size:=by
   funext i;refine propext ⟨λhx=>h.sub i hx,hl i⟩
  rw[this]at h;exact Da m e Z cur w a h he hd
 intro fuel;induction fuel with
 |zero=>
  intro listed m e Z cur w a bf hc h he hd
  have hl:∀i,i<ops.size->gn listed i:=by
   intro i hi;have aj:i<listed.size:=ai;unfold gn;rw[ay2 aj];cases hx:listed[i]with
   |true=>rfl
   |false=>
    have dt:af∈listed.toList:=by
     rw[aCz];exact⟨i,by rw[aAz,ay2 aj,hx]⟩
    have:=List.count_pos_iff.2 dt;omega
  refine⟨?_,cb listed m e Z cur w a bf hl h he hd⟩;cases hr:azz .any ops listed with
  |nil=>rfl
  |cons x xs=>
   obtain⟨h1,h2,_⟩:=qK (show x∈azz .any ops listed by rw[hr];simp);have:=hl x h1;unfold gn at this;rw[this]at h2;cases h2
 |succ fuel ih=>
  intro listed m e Z cur w a bf hc h he hd;refine⟨λhr=>cb listed m e Z cur w a bf (PL ho bf hr) h he hd,λj hj=>?_⟩;obtain⟨SH,hlj,o,mj,aeq⟩:=qK hj;have oq:¬gn listed j:=λhx=>by unfold gn at hx;rw[hlj]at hx;cases hx
  have hb:∀i,kE pl j i->gn listed i:=by
   intro i kc;obtain⟨e',jb,sh,hh⟩:=ho.bits j o mj i kc;have:=aeq e' jb sh;rcases hh with rfl|hh
   .exact this
   .exact h.closed _ this i hh
  refine h.step hS hC hm hk ho ht h0 kM hnk PK SH oq hb hF0 he λm' e' aJ t_ w' a' hP jb Hc=>?_;rw[<-zW ai]at hP;refine ih _ m' e' aJ t_ w' a' (by simp[bf]) ?_ hP jb (Hc.trans hd);have jB:j<listed.toList.length:=by simp;omega
  have hjv:listed.toList[j]=af:=by
   have:listed.toList[j]?=aa af:=by rw[aAz];exact hlj
   rw[ayv jB]at this;exact aBe this
  rw[aCf,List.count_set jB,hjv];have e1:(if(af==af)=ab then 1 else 0)=1:=rfl;have e2:(if(ab==af)=ab then 1 else 0)=0:=rfl;rw[e1,e2];omega
end any
theorem PM(hS:∀j,iv P (S j) nn)(hC:∀j,ff P (S j))(hm:∀j,cu (S j))(hk:∀j,bS (S j)):
 ∀N ro rd ops e df Y cr,m_ P S ro ops e df Y=aa cr->cr.Y.n<=N->∀F Z a w Q,kN F rd Z->Inv N Z Y w->dc Z e a.tmps->lD Z df a.defers->tZ N ro Z w Y cr Q->wpAnyIn F 0 P .any ops Q ops.size (azy ops.size af) a {w with drawn:=w.drawn+1}:=by
 intro N ro rd ops e df Y cr h hN F Z a w Q hF hi he hd hQ;unfold m_ at h;dsimp only at h;split at h
 .rename_i bu;split at h
  .rename_i e' n i b rest aM G6;cases h;obtain⟨ht,dq⟩:=aem G6;generalize hDd:pZ P S (cR ops) ro ops ⟨e,Y.n,[(0,Y.t)],[]⟩=D at ht dq;have SM:D 0=⟨e,Y.n,[(0,Y.t)],[]⟩:=by rw[<-hDd];rfl
   have ho:=abM bu;have hn:(D ops.size).n=n:=by rw[<-dq]
   have cX:Inv N Z Y {w with drawn:=w.drawn+1}:=hi.same rfl;have hle:Le ro Z w Y Z {w with drawn:=w.drawn+1} Y:=Le.same rfl rfl rfl rfl
   have atX:Y.n<=N:=by
    have:=ht.gC hm hk (azi ops.size) (ayA _);rw[hn,SM]at this;exact ayU this hN
   have WW:=hQ.from hi hle atX;have DZ:gP (D 0).bs=Y.t:=by rw[SM];rfl
   have kM:(D 0).n=Y.n:=by rw[SM]
   have atY:sQ ops (cR ops) D N ro Z {w with drawn:=w.drawn+1} Y (gn (azy ops.size af)) 0 e Z Y.at {w with drawn:=w.drawn+1}:=by
    have cS:∀i,¬gn (azy ops.size af) i:=by
     intro i hx;unfold gn at hx;rw[aCi]at hx;split at hx<;>cases hx
    refine⟨λi hx=>absurd hx (cS i),λj hx=>absurd hx (cS j),⟨by rw[SM],λj hx=>absurd hx (cS j),λt _=>by rw[SM]⟩,azi _,λi _ _=>⟨λhx=>absurd hx (cS i),λhx=>absurd hx (Nat.not_lt_zero _)⟩,.inl rfl,
     (Bs.start cX (by rw[hn];exact hN)).fr ?_,λp _ hx=>absurd hx (cS _),?_,?_,?_,?_⟩
    .intro id hx;rcases hx with⟨j,hj,_,h1,h2⟩|⟨h1,h2⟩
     .have g1:=ht.gC hm hk (azi j) ai;have g2:=ht.gC hm hk (show j+1<=ops.size from hj) (ayA _);exact⟨by omega,by have:n<=N:=hN;omega⟩
     .have g1:=ht.gC hm hk (azi ops.size) (ayA _);exact⟨by omega,h2⟩
    .rw[DZ];exactλ_ _ h=>h
    .rw[DZ];intro p hp _ id h1 _;have g1:=ht.gC hm hk (azi p.j) (by have:=hp.lt;omega);exact hi.wf id (by rw[hp.lo]at h1;omega)
    .rw[DZ,kM];exact hi.wf
    .rw[DZ];exactλ_ _ _=>rfl
   refine akg (a0:=a) hS hC hm hk ho ht (by rw[SM]) kM (by rw[hn];exact hN) cX hF ?_ ops.size _ 0 e Z Y.at _ a ax ?_ atY he rfl
   .intro m e1 bX cur w1 a1 hp lF Ar
    have jA:(D ops.size).bs=(D m).bs:=ht.SG hp.SK (ayA _) λi h1 h2 qw=>by
     have:=(hp.PI i h2 qw).1 h2;omega
    have hB:gP (D m).bs=b:=by rw[<-jA,<-dq];rfl
    have jW:(D ops.size).aM=aM:=by rw[<-dq]
    have kf:∀p∈aM,Made ops D p/\vm ops (cR ops) D (λi=>i<ops.size) p.j/\p.hi<=n:=by
     intro p DY;obtain⟨c1,c2,c3⟩:=ht.aM ho (by rw[SM]) ops.size (ayA _) p (by rw[jW];exact DY);exact⟨c1,λi hA Jv=>c3 i hA Jv,by rw[c1.hi,<-hn];exact ht.gC hm hk c2 (ayA _)⟩
    have qn:=hp.yX;rw[hn]at qn;have gB:=ht.gC hm hk hp.SK (ayA _);have h0n:=ht.gC hm hk (azi ops.size) (ayA _)
    obtain⟨i1,l1⟩:=qn.fin (N:=N) (t:=aM.foldl dU b) ai (λid h1 h2=>.inr ⟨h1,h2⟩) (λid o hg=>by
     rcases EW _ _ _ _ hg with⟨p,DY,g1,g2,g3⟩|hg
     .obtain⟨c1,c2,_⟩:=kf p DY;exact hp.piece p c1 c1.lt c2 id o g1 g2 g3
     .exact hp.base id o (by rw[hB];exact hg))
     (λid hid=>by
      cases hg:(aM.foldl dU b).get id with
      |none=>rfl
      |some o=>
       rcases EW _ _ _ _ hg with⟨p,DY,g1,g2,g3⟩|hg
       .obtain⟨_,_,c3⟩:=kf p DY;omega
       .rw[<-hB,hp.top id ai]at hg;cases hg)
     (λid hr aj=>by
      rw[Kd,<-hB]
      .exact hp.low id hr aj
      .intro p DY;obtain⟨c1,_,_⟩:=kf p DY;rw[c1.lo];have:=ht.gC hm hk (azi p.j) (by have:=c1.lt;omega);omega)
    have EX:dc bX e' a1.tmps:=by
     have mq:=ht.env ho ops.size (ayA _);have Pu:(D ops.size).e=e':=by rw[<-dq]
     refine⟨by rw[<-Pu,mq.n,<-hp.env.n];exact lF.1,λt=>?_⟩;rw[<-Pu,<-Kf hp.env mq (t:=t) λi _=>Iff.rfl];exact lF.2 t
    exact WW a1 w1 bX [] i1 l1 EX (by rw[Ar];exact hd.mono l1.ext) trivial
   .rw[Array.toList_replicate,List.count_replicate];simp
  .cases h
 .cases h
theorem Ki(e_:P.follows .mixedOrders=ab)(hS:∀j,iv P (S j) nn)(hC:∀j,ff P (S j))(hm:∀j,cu (S j))(hk:∀j,bS (S j)):
 ∀N ro rd ops e df Y cr,m_ P S ro ops e df Y=aa cr->cr.Y.n<=N->∀F Z a w Q id,kN F rd Z->Inv N Z Y w->dc Z e a.tmps->lD Z df a.defers->tZ N ro Z w Y cr Q->(aDY id ops ab).wpIn F 0 P Q a w:=
 λN ro rd ops e df Y cr h hN F Z a w Q _ hF hi he hd hQ=>wpIn_region_any e_ (PM hS hC hm hk N ro rd ops e df Y cr h hN F Z a w Q hF hi he hd hQ)
omit [Sm]in
theorem W0{U:Self}(e_:P.follows .mixedOrders=ab)(hS:iv P U nn)(hC:ff P U)(hm:cu U)(hk:bS U):Su P U:=
 @Ki _ _ _ xX e_ (λ_=>hS) (λ_=>hC) (λ_=>hm) (λ_=>hk)
end
section
variable{P:Program}{N ro m:Nat}{Z:Io}{w:World}{Y:St}{e:Env}{a:Act}{F:Fence}{rd:Option Nat}{Q:Exit->Act->World->Prop}{fn:FuncId}{df:List Df}{cr:CR}
def gu(P:Program)(ro:Nat)(rd:Option Nat)(fn:FuncId)(c:Code)(e:Env)(df:List Df)(Y:St)(cr:CR):Prop:=
 Y.n<=cr.Y.n/\∃m0,∀m,m0<=m->∀N,cr.Y.n<=N->∀F Z a w Q,kN F rd Z->Inv N Z Y w->dc Z e a.tmps->lD Z df a.defers->tZ N ro Z w Y cr Q->Zt F P m c Q a w
def jN(P:Program)(ro:Nat)(f:FuncId)(args:List IV)(Y:St)(v:IV)(al:St):Prop:=
 Y.n<=al.n/\∀N,al.n<=N->∀Z us w,Inv N Z Y w->aG Z args us->CallsIn ay8 0 P f us.toArray w (zh N ro Z w Y v al)
def ua(P:Program)(ro:Nat)(rd:Option Nat)(ops:Array Oper)(l:List Oper)(e:Env)(df:List Df)(Y:St)(cr:CR):Prop:=
 Y.n<=cr.Y.n/\∀N,cr.Y.n<=N->∀F Z a w Q k,ops.toList.drop k=l->kN F rd Z->Inv N Z Y w->dc Z e a.tmps->lD Z df a.defers->tZ N ro Z w Y cr Q->
  wpOpsIn F 0 P ops Q (az3 k l.length) a w
theorem gu.mk{c:Code}(hn:Y.n<=cr.Y.n)(hl:∀b,c≠.loop b)(h:∀N,cr.Y.n<=N->∀F Z a w Q,kN F rd Z->Inv N Z Y w->dc Z e a.tmps->lD Z df a.defers->tZ N ro Z w Y cr Q->c.wpIn F 0 P Q a w):gu P ro rd fn c e df Y cr:=by
 refine⟨hn,0,λm _ N hN F Z a w Q hF hi he hd hQ=>?_⟩;have:=h N hN F Z a w Q hF hi he hd hQ;cases c<;>first|exact this|exact absurd rfl (hl _)
theorem gu.wp{c:Code}(h:gu P ro rd fn c e df Y cr)(hN:cr.Y.n<=N)(hF:kN F rd Z)(hi:Inv N Z Y w)(he:dc Z e a.tmps)(hd:lD Z df a.defers)(hQ:tZ N ro Z w Y cr Q):c.wpIn F 0 P Q a w:=by
 obtain⟨_,m0,h⟩:=h;exact(h m0 (ayA _) N hN F Z a w Q hF hi he hd hQ).wp
theorem gu.seq{x y:Code}{e1:Env}{sP:List Df}{au:St}(h:gu P ro rd fn x e df Y ⟨.normal,e1,sP,au⟩)(k:gu P ro rd fn y e1 sP au cr):gu P ro rd fn (.seq x y) e df Y cr:=by
 refine .mk (ayU h.1 k.1) ax λN hN F Z a w Q hF hi he hd hQ=>wpIn_seq ?_;have eC:au.n<=N:=ayU k.1 hN;refine h.wp eC hF hi he hd ?_;intro a1 w1 bX fB i1 l1 dB d1 p1;exact k.wp hN (hF.mono l1.ext) i1 dB d1 (hQ.from hi l1 eC)
theorem gu.cond{c:Operand}{x y:Code}{t:Bool}(hc:aC e c=.raw (.bool t))(h:gu P ro rd fn (if t then x else y) e df Y cr):gu P ro rd fn (.cond c x y) e df Y cr:=
 .mk h.1 ax λN hN F Z a w Q hF hi he hd hQ=>wpIn_cond (Kb hc (he.eval c)) (h.wp hN hF hi he hd hQ)
theorem gu.PN{id:Nat}{x:Code}(h:gu P ro rd fn x e df Y cr)(hx:cr.ex≠.exit id):gu P ro rd fn (.block id x) e df Y cr:=by
 refine .mk h.1 ax λN hN F Z a w Q hF hi he hd hQ=>wpIn_block (h.wp hN hF hi he hd ?_);intro a1 w1 bX fB i1 l1 dB d1 p1;have:=hQ a1 w1 bX fB i1 l1 dB d1 p1;cases hc:cr.ex with
 |exit bz=>
  have bt:bz≠id:=λh=>hx (by rw[hc,h]);rw[hc]at this;simp only[G_,aDQ,if_neg bt];exact this
 |_=>rw[hc]at this;exact this
theorem gu.region{id:Nat}{ops:Array Oper}(h:ua P ro rd ops ops.toList e df Y cr):gu P ro rd fn (.region id ops af) e df Y cr:=by
 refine .mk h.1 ax λN hN F Z a w Q hF hi he hd hQ=>wpIn_region ?_;have:=h.2 N hN F Z a w Q 0 ax hF hi he hd hQ;rw[aBs];simpa using this
variable{ops:Array Oper}{o:Oper}{l:List Oper}
theorem ua.nil:ua P ro rd ops [] e df Y ⟨.normal,e,df,Y⟩:=
 ⟨ayA _,λ_ _ _ Z a w _ _ _ _ hi he hd hQ=>hQ a w Z [] hi (Le.refl _ _ _ _) he hd trivial⟩
theorem ua.cons(hn:Y.n<=cr.Y.n)(hw:aT o ops e=ab)
 (h:∀N,cr.Y.n<=N->∀F Z a w Q k,ops.toList.drop (k+1)=l->kN F rd Z->Inv N Z Y w->dc Z e a.tmps->lD Z df a.defers->tZ N ro Z w Y cr Q->
  o.wpIn F 0 P a w (wpOpsIn F 0 P ops Q (az3 (k+1) l.length)) Q):ua P ro rd ops (o::l) e df Y cr:=by
 refine⟨hn,λN hN F Z a w Q k hl hF hi he hd hQ=>?_⟩
 have ia:ops.toList.drop (k+1)=l:=by
  rw[<-aAG (i:=1) (j:=k),hl];rfl
 have bu:ops[k]?=aa o:=by
  have:(ops.toList.drop k)[0]?=aa o:=by rw[hl];rfl
  simpa using this
 simp only[ay6,aAX];rw[wpOpsIn_cons];unfold wpOpIn;rw[bu];simp only;rw[uE he,if_pos hw];exact h N hN F Z a w Q k ia hF hi he hd hQ
theorem ua.val{v:IV}{au:St}(hw:aT o ops e=ab)(hv:aA P ro (aC e) o Y=aa (.val v au))(h:ua P ro rd ops l (e.put o.dst v) df au cr):ua P ro rd ops (o::l) e df Y cr:=by
 refine .cons (ayU (nS hv) h.1) hw λN hN F Z a w Q k hl hF hi he hd hQ=>?_;have eC:au.n<=N:=ayU h.1 hN;refine⟨λf _=>hF.fn f,?_⟩;rw[aAn _ _ _ (jg hv ax)];obtain⟨u,w',aJ,hr,h2,h3,h4⟩:=qv hi he.eval hv eC
 have key:wpOpsIn F 0 P ops Q (az3 (k+1) l.length) (a.put o.dst u) w':=
  h.2 N hN F aJ _ w' Q (k+1) hl (hF.mono h4.ext) h3 ((he.mono h4.ext).put h2 _) (hd.mono h4.ext|>λx=>by cases o.dst<;>exact x) (hQ.from hi h4 eC)
 rcases hr with hr|⟨hr,rfl⟩
 .rw[hr,aCZ];exact key
 .rw[hr,aDe];exact key
theorem ua.defer{d:Df}(hw:aT o ops e=ab)(hv:aA P ro (aC e) o Y=aa (.WE d))(h:ua P ro ah ops l (e.put o.dst .undef) (d::df) Y cr):ua P ro ah ops (o::l) e df Y cr:=by
 refine .cons h.1 hw λN hN F Z a w Q k hl hF hi he hd hQ=>?_
 have Ss:F=ay8:=by
  rcases hF with⟨_,h2⟩|⟨_,_,h2,_⟩
  .exact h2
  .cases h2
 refine⟨λf _=>hF.fn f,?_⟩;obtain⟨dd,hr,Jr,c,hc⟩:=qv hi he.eval hv;have aei:(o.semAt F.round a.eval)=execOp a.eval o:=by rw[Ss];rfl
 rw[aei,hr,aC0];refine h.2 N hN F Z _ w Q (k+1) hl hF hi ?_ ?_ hQ
 .cases fN:o.dst with
  |none=>exact he
  |some t=>exact he.set tY t
 .cases o.dst<;>exact⟨Jr,hd⟩
end
section
variable{P:Program}{N ro:Nat}{Z:Io}{w:World}{Y:St}
inductive Pure:IV->Prop
 |raw (v:Value):Pure (.raw v)
 |agg (cs:List IV) (h:∀c∈cs,Pure c):Pure (.agg cs)
 |aL (cs:List IV) (h:∀c∈cs,Pure c):Pure (.aL cs)
 |emp:Pure .emp
 |dR (t:TypeId) (x:IV) (h:Pure x):Pure (.dR t x)
 |tree (s:Nat) (es:List IV) (h:∀e∈es,∀c∈cellsOf e,Pure c):Pure (.tree s es)
 |fn (f:Fn) (as bs:List IV) (h:∀c∈as,Pure c) (h2:∀c∈bs,Pure c):Pure (.fn f as bs)
abbrev fW(M:Fz):Io:=⟨λ_ _=>ah,M⟩
theorem Pure.rv{M:Fz}{x:IV}(hp:Pure x):∀{v:Value},Rv Z x v->(∀b c,Z.m b=aa c->M b=aa c)->Rv (fW M) x v:=by
 induction hp with
 |raw v=>intro u h _;cases h;exact .raw v
 |agg cs _ ih=>intro u h hM;cases h with|agg _ vs hl hh=>exact .agg cs vs hl λi c v h1 h2=>ih c (ayM h1) (hh i c v h1 h2) hM
 |aL cs _ ih=>intro u h hM;cases h with|aL _ vs hl hh=>exact .aL cs vs hl λi c v h1 h2=>ih c (ayM h1) (hh i c v h1 h2) hM
 |emp=>intro u h _;cases h;exact .emp _
 |dR t x _ ih=>intro u h hM;cases h with|dR _ _ v hh=>exact .dR t x v (ih hh hM)
 |tree s es _ ih=>
  intro u h hM;cases h with
  |tree _ _ b off c us hs hc bQ hu hh=>exact .tree s es b off c us hs hc bQ (λk hk=>EH hM (hu k hk)) λi e j c h1 h2=>ih e (ayM h1) c (ayM h2) (hh i e j c h1 h2) hM
  |eu _ a c hs hn=>exact .eu s a c hs hn
 |fn f as bs _ _ ih fS=>
  intro u h hM;cases h with
  |fn _ _ _ cs ds hl hh fC uG=>exact .fn f as bs cs ds hl (λi c v h1 h2=>ih c (ayM h1) (hh i c v h1 h2) hM) fC (λi c v h1 h2=>fS c (ayM h1) (uG i c v h1 h2) hM)
inductive Can(fr:Bool)(Y:St):IV->IV->Prop
 |raw (v:Value):Can fr Y (.raw v) (.raw v)
 |nil (s:Nat) (hs:0<s):Can fr Y (.raw (.slice ah 0 0)) (.tree s [])
 |emp (s:Nat) (hs:0<s):Can fr Y .emp (.tree s [])
 |dR (t:TypeId) (x y:IV) (h:Can fr Y x y):Can fr Y (.dR t x) (.dR t y)
 |agg (cs ds:List IV) (hl:cs.length=ds.length) (h:∀(i:Nat) c d,cs[i]?=aa c->ds[i]?=aa d->Can fr Y c d):Can fr Y (.agg cs) (.agg ds)
 |aL (cs ds:List IV) (hl:cs.length=ds.length) (h:∀(i:Nat) c d,cs[i]?=aa c->ds[i]?=aa d->Can fr Y c d):Can fr Y (.aL cs) (.aL ds)
 |pure (x:IV) (hf:fr=ab) (hp:Pure x):Can fr Y x x
 |eu (s:Nat):Can fr Y (.tree s []) (.tree s [])
 |sl (id off len:Nat) (cap:Option Nat) (ep s:Nat) (cs:List IV) (aB mn:Nat) (es:List IV) (aK:Y.at id=aa (.cells cs aB mn)) (h1:mn<=ep) (h2:ep<=aB) (hl:es.length=len) (hb:off+len*s<=cs.length)
   (bQ:∀e∈es,(cellsOf e).length=s) (h:∀(i:Nat) e (j:Nat) c d,es[i]?=aa e->(cellsOf e)[j]?=aa d->cs[off+i*s+j]?=aa c->Can fr Y c d):Can fr Y (.sl id off len cap ep s) (.tree s es)
theorem Can.rv{fr:Bool}{M:Fz}{x z:IV}(hi:Inv N Z Y w)(hM:∀b c el,w.heap[b]?=aa (.cells c el (0,0))->(∃id,Own Z id b)->M b=aa c)(hm:fr=ab->∀b c,Z.m b=aa c->M b=aa c)
 (h:Can fr Y x z):∀{u:Value},Rv Z x u->Rv (fW M) z u:=by
 induction h with
 |raw v=>intro u h;cases h;exact .raw v
 |nil s hs=>intro u h;cases h;exact .eu s ah 0 hs (λ_=>rfl)
 |emp s hs=>intro u h;cases h;exact .eu s _ 0 hs (λ_=>rfl)
 |dR t x y _ ih=>intro u h;cases h with|dR _ _ v hh=>exact .dR t y v (ih hh)
 |agg cs ds hl _ ih=>
  intro u h;cases h with
  |agg _ vs cH hh=>
   refine .agg ds vs (hl▸cH) λi d v h1 h2=>?_;have cX:i<cs.length:=by have:=(ayw.1 h1).1;omega
   exact ih i _ d (ayv cX) h1 (hh i _ v (ayv cX) h2)
 |aL cs ds hl _ ih=>
  intro u h;cases h with
  |aL _ vs cH hh=>
   refine .aL ds vs (hl▸cH) λi d v h1 h2=>?_;have cX:i<cs.length:=by have:=(ayw.1 h1).1;omega
   exact ih i _ d (ayv cX) h1 (hh i _ v (ayv cX) h2)
 |pure x hf hp=>intro u h;exact hp.rv h (hm hf)
 |eu s=>
  intro u h;cases h with
  |tree _ _ b off c us hs hc bQ hu hh=>exact .eu s _ c hs ax
  |eu _ a c hs hn=>exact .eu s a c hs hn
 |sl id off len cap ep s cs aB mn es aK h1 h2 hl hb bQ _ ih=>
  intro u h;cases h with
  |sl _ _ _ _ _ _ l c a cH hn jH hs hle i_ ha=>
   obtain⟨⟨_,_⟩,_,Np⟩:=hi.obj id _ aK;obtain⟨l',ca,el,fC,GC,Zy,aoI,gN⟩:=Np ep h1 h2;rw[cH]at fC;cases fC;have hMb:M l.b=aa ca:=hM _ _ _ Zy ⟨id,ep,l,cH,rfl⟩;subst hl;by_cases he:es=[]
   .subst he;exact .eu s (aa a) c hs ax
   .have tX:0<es.length:=by cases es with|nil=>exact absurd rfl he|cons=>simp
    have G2:=ha ai;subst G2;refine .tree s es l.b off c (λk=>ca.getD (off+k) azk) hs hle bQ (λk hk=>?_) (λi e j d dk yg=>?_)
    .obtain⟨x,hx⟩:∃x,cs[off+k]?=aa x:=⟨_,ayv ai⟩;obtain⟨v,hv,_⟩:=gN (off+k) x ai hx;show(M l.b).bind _=_;rw[hMb];simp[azm,hv]
    .have cX:=(ayw.1 dk).1;have ni:j<s:=by have:=(ayw.1 yg).1;rw[bQ e (ayM dk)]at this;exact this
     have hmul:i*s+s<=es.length*s:=by
      have:(i+1)*s<=es.length*s:=Nat.mul_le_mul_right s cX;rw[Nat.add_mul]at this;omega
     obtain⟨x,hx⟩:∃x,cs[off+i*s+j]?=aa x:=⟨_,ayv ai⟩;obtain⟨v,hv,hr⟩:=gN (off+i*s+j) x ai hx;have:=ih i e j x d dk yg hx hr;simp only[azm];rw[show off+(i*s+j)=off+i*s+j by omega,hv];exact this
def yh(M:Fz)(w:World):Prop:=∀b c,M b=aa c->∃e f,w.heap[b]?=aa (.cells c e f)
theorem yh.lt{M:Fz}(h:yh M w){b:Nat}{c:Array Value}(hb:M b=aa c):b<w.heap.size:=by
 obtain⟨e,f,hh⟩:=h b c hb;rcases Nat.lt_or_ge b w.heap.size with aj|u_
 .exact aj
 .rw[aAw u_]at hh;cases hh
def Nq(new:Bool)(M:Fz)(w:World)(z:IV)(u:Value)(w':World):Prop:=
 ∃M',yh M' w'/\(∀b c,M' b=aa c->(new=af/\M b=aa c)\/w.heap.size<=b)/\(new=af->∀b c,M b=aa c->M' b=aa c)/\Rv (fW M') z u/\
  w'.os=w.os/\w'.tape=w.tape/\w'.output=w.output/\w.heap.size<=w'.heap.size/\∀b,b<w.heap.size->w'.heap[b]?=w.heap[b]?
def atZ(cw new:Bool)(M:Fz)(w:World)(z:IV):Ending->World->Prop
 |.returned u,w'=>cw=af/\Nq new M w z u w'
 |.panicked ch,w'=>cw=ab/\∃u,ch=[{v:=u,recovered:=af}]/\Nq new M w z u w'
 |.outgrown,_=>False
def dX(P:Program)(cw new:Bool)(f:FuncId)(xs:List IV)(z:IV):Prop:=
 ∀M w us,yh M w->aG (fW M) xs us->CallsIn ay8 0 P f us.toArray w (atZ cw new M w z)
theorem Iy{M:Fz}(hM:yh M w):Inv N (fW M) ⟨0,.lf⟩ w:=
 ⟨hM,λ_ _ _ _ h=>(by obtain⟨_,_,h,_⟩:=h;cases h),λ_ _ h=>(by obtain⟨_,_,h,_⟩:=h;cases h),λ_ _ _ _=>rfl,λ_ _ _ h=>(by obtain⟨_,_,h,_⟩:=h;cases h),λ_ _ h=>(by cases h),λ_ _=>rfl⟩
def ub(new:Bool)(M:Fz)(w w':World):Fz:=λb=>
 if b<w.heap.size then(if new then ah else M b)else match w'.heap[b]? with
  |some (.cells c _ _)=>aa c
  |_=>ah
theorem W1{M:Fz}{new:Bool}{al:St}{v z:IV}{w':World}{u:Value}(hM:yh M w)(hc:Can (!new) al v z)(hu:Rv Z v u)(hi:Inv N Z al w')(hl:Le 0 (fW M) w ⟨0,.lf⟩ Z w' al):Nq new M w z u w':=by
 have sR:∀b,b<w.heap.size->w'.heap[b]?=w.heap[b]? :=λb hb=>hl.frame b hb λid ho=>(by obtain⟨_,_,h,_⟩:=ho;cases h);refine⟨ub new M w w',?_,?_,?_,?_,hl.os,hl.tape,hl.output,hl.size,sR⟩
 .intro b c hb;unfold ub at hb;split at hb
  .rename_i aj;split at hb
   .cases hb
   .rw[sR b aj];exact hM b c hb
  .split at hb
   .rename_i c' e f hh;cases hb;exact⟨e,f,hh⟩
   .cases hb
 .intro b c hb;unfold ub at hb;split at hb
  .split at hb
   .cases hb
   .rename_i hn;exact .inl ⟨by simpa using hn,hb⟩
  .exact .inr ai
 .intro hn b c hb;have aj:=hM.lt hb;unfold ub;rw[if_pos aj,if_neg (by simp[hn])];exact hb
 .refine hc.rv hi ?_ ?_ hu
  .intro b c el hh ho;obtain⟨id,ho⟩:=ho;rcases hl.own id b ho with ho|u_
   .obtain⟨_,_,h,_⟩:=ho;cases h
   .unfold ub;rw[if_neg ai,hh]
  .intro hn b c hb;have oO:new=af:=by simpa using hn
   rcases hl.wK b c hb with o8|u_
   .have aj:=hM.lt o8;unfold ub;rw[if_pos aj,if_neg (by simp[oO])];exact o8
   .obtain⟨e,f,hh⟩:=hi.mem b c hb;unfold ub;rw[if_neg ai,hh]
theorem dX.of{new:Bool}{f:FuncId}{xs:List IV}{v z:IV}{al:St}(h:jN P 0 f xs ⟨0,.lf⟩ v al)(hc:Can (!new) al v z):dX P af new f xs z:=by
 intro M w us hM hr;refine(h.2 al.n (ayA _) (fW M) us w (Iy hM) hr).mono λe w' hR=>?_;cases e with
 |returned u=>
  obtain⟨aJ,h1,h2,h3⟩:=hR;exact⟨rfl,W1 hM hc h1 h2 h3⟩
 |panicked ch=>exact hR.elim
 |outgrown=>exact hR.elim
theorem Nr{M:Fz}{new:Bool}{z:IV}{u:Value}{w':World}(hi:Inv N Z Y w)(hM:new=af->∀b c,Z.m b=aa c↔M b=aa c)(h:Nq new M w z u w'):∃aJ,Rv aJ z u/\Inv N aJ Y w'/\Le ro Z w Y aJ w' Y:=by
 obtain⟨M',h1,h2,h3,h4,h5,h6,h7,h8,h9⟩:=h;have hm:yh Z.m w:=hi.mem
 have hold:∀b c,Z.m b=aa c->(λb=>if b<w.heap.size then Z.m b else M' b) b=aa c:=by
  intro b c hb;simp only[if_pos (hm.lt hb)];exact hb
 have at0:∀b c,M' b=aa c->(λb=>if b<w.heap.size then Z.m b else M' b) b=aa c:=by
  intro b c hb;by_cases aj:b<w.heap.size
  .simp only[if_pos aj];rcases h2 b c hb with⟨hn,o8⟩|u_
   .exact(hM hn b c).2 o8
   .omega
  .simp only[if_neg aj];exact hb
 have gI:Ext Z ⟨Z.f,λb=>if b<w.heap.size then Z.m b else M' b⟩:=⟨λ_ _ _ h=>h,hold⟩;refine⟨⟨Z.f,λb=>if b<w.heap.size then Z.m b else M' b⟩,h4.mono ⟨λ_ _ _ h=>(by cases h),at0⟩,⟨?_,?_,?_,hi.fresh,hi.inj,?_,hi.wf⟩,⟨gI,λ_ _ h=>.inl h,λ_ _ _ _=>rfl,λ_ h _=>h,λ_ _ _=>rfl,ayA _,h5,h6,h7,h8,λb hb _=>h9 b hb,?_⟩⟩
 .intro b c hb;simp only at hb;split at hb
  .rename_i aj;obtain⟨e,f,hh⟩:=hi.mem b c hb;exact⟨e,f,by rw[h9 b aj];exact hh⟩
  .exact h1 b c hb
 .intro b c id hb ho;simp only at hb;split at hb
  .exact hi.sep b c id hb ho
  .rename_i u_;exact u_ (hi.jy id b ho)
 .intro id b ho;exact az9 (hi.jy id b ho) h8
 .intro id o ho;exact(hi.obj id o ho).tV gI (λ_=>rfl) λb hb=>h9 b (hi.jy id b hb)
 .intro b c hb;simp only at hb;split at hb
  .exact .inl hb
  .rename_i u_;exact .inr ai
def Ns(fr:Bool)(Y:St)(cs ds:List IV):Prop:=cs.length=ds.length/\∀(i:Nat) c d,cs[i]?=aa c->ds[i]?=aa d->Can fr Y c d
def allM(w:World):Fz:=λb=>match w.heap[b]? with
 |some (.cells c _ _)=>aa c
 |_=>ah
theorem W4{b:Nat}{c:Array Value}{e:TypeId}{f:Nat×Nat}(h:w.heap[b]?=aa (.cells c e f)):allM w b=aa c:=by unfold allM;rw[h]
theorem Nt:yh (allM w) w:=by
 intro b c hb;unfold allM at hb;split at hb
 .rename_i hh;cases hb;exact⟨_,_,hh⟩
 .cases hb
theorem Ns.rv{xs zs:List IV}{us:List Value}(hc:Ns ab Y xs zs)(hi:Inv N Z Y w)(h:aG Z xs us):aG (fW (allM w)) zs us:=by
 refine⟨hc.1▸h.1,λi z u h1 h2=>?_⟩;have cX:i<xs.length:=by have:=(ayw.1 h1).1;have:=hc.1;omega
 refine(hc.2 i _ z (ayv cX) h1).rv hi (λb c el hh _=>W4 hh) (λ_ b c hb=>?_) (h.2 i _ u (ayv cX) h2);obtain⟨e,f,hh⟩:=hi.mem b c hb;exact W4 hh
theorem dX.Rc{f:FuncId}{args xs:List IV}{z:IV}(h:dX P af ab f xs z)(hc:Ns ab Y args xs):jN P ro f args Y z Y:=by
 refine⟨ayA _,λN hN Z us w hi hr=>?_⟩;refine(h (allM w) w us Nt (hc.rv hi hr)).mono λe w' hR=>?_;cases e with
 |returned u=>exact Nr hi (λhn=>by cases hn) hR.2
 |panicked ch=>exact absurd hR.1 ax
 |outgrown=>exact hR.elim
def dL(args:List IV)(n:Nat):Env:=args.zipIdx.foldl (λe (v,i)=>e.put (aa i) v) ⟨n,.lf⟩
section body
variable{S:Self}{f:FuncId}{fn:Func}{c:Code}{args:List IV}{e1:Env}{df:List Df}{au al:St}{ex:Ex}{v:IV}
theorem W5:ff P Self.none/\bS Self.none:=
 ⟨⟨λ_ _ _ _ _ _ _ h=>(by cases h),λ_ _ _ _ _ _ _ h=>(by cases h),λ_ _ _ _ _ _ _ _ h=>(by cases h),λ_ _ _ _ _ _ _ h=>(by cases h)⟩,⟨λ_ _ _ _ _ _ h=>(by cases h),λ_ _ _ _ _ _ h=>(by cases h),λ_ _ _ _ _ _ _ h=>(by cases h)⟩⟩
end body
end
end Go.Ev
namespace Go.Ev
namespace T
variable{O:Type}
inductive WF:T O->Prop
 |lf:WF .lf
 |nd (l:T O) (v:Option O) (r:T O) (hl:WF l) (hr:WF r) (h:v.isSome=ab\/(∃i,(l.get i).isSome=ab)\/∃i,(r.get i).isSome=ab):WF (.nd l v r)
theorem Kj(l:T O)(v:Option O)(r:T O)(i:Nat):(T.nd l v r).get (2*i+1)=l.get i:=by
 rw[xZ,if_neg ai,if_pos ai];congr 1;omega
theorem Hf(l:T O)(v:Option O)(r:T O)(i:Nat):(T.nd l v r).get (2*i+2)=r.get i:=by
 rw[xZ,if_neg ai,if_neg ai];congr 1;omega
theorem Kk(l:T O)(v:Option O)(r:T O):(T.nd l v r).get 0=v:=by rw[xZ,if_pos rfl]
theorem WF.key{l:T O}{v:Option O}{r:T O}(h:WF (.nd l v r)):∃i,((T.nd l v r).get i).isSome=ab:=by
 cases h with
 |nd _ _ _ _ _ h=>
  rcases h with h|⟨i,h⟩|⟨i,h⟩
  .exact⟨0,by rw[Kk];exact h⟩
  .exact⟨2*i+1,by rw[Kj];exact h⟩
  .exact⟨2*i+2,by rw[Hf];exact h⟩
theorem WF.ext:∀{t t':T O},WF t->WF t'->(∀i,t.get i=t'.get i)->t=t'
 |.lf,.lf,_,_,_=>rfl
 |.lf,.nd l v r,_,h',he=>by
  obtain⟨i,hi⟩:=h'.key;rw[<-he i]at hi;cases hi
 |.nd l v r,.lf,h,_,he=>by
  obtain⟨i,hi⟩:=h.key;rw[he i]at hi;cases hi
 |.nd l v r,.nd l' v' r',.nd _ _ _ hl hr _,.nd _ _ _ cH uC _,he=>by
  have e0:v=v':=by have:=he 0;rwa[Kk,Kk]at this
  have e1:l=l':=hl.ext cH λi=>by have:=he (2*i+1);rwa[Kj,Kj]at this
  have e2:r=r':=hr.ext uC λi=>by have:=he (2*i+2);rwa[Hf,Hf]at this
  rw[e0,e1,e2]
theorem ain:∀(f:Nat) (t:T O) (i:Nat) (x:O),i<f->WF t->WF (sw f t i x):=by
 intro f;induction f with
 |zero=>intro t i x h;omega
 |succ f ih=>
  intro t i x h hw
  have key:∀(l:T O) (v:Option O) (r:T O),WF l->WF r->WF (sw (f+1) (.nd l v r) i x):=by
   intro l v r hl hr;rw[WJ];by_cases hi:i=0
   .rw[if_pos hi];exact .nd _ _ _ hl hr (.inl rfl)
   .rw[if_neg hi];by_cases ho:i % 2=1
    .rw[if_pos ho];exact .nd _ _ _ (ih _ _ _ ai hl) hr (.inr (.inl ⟨i/2,by rw[J7 _ _ _ _ _ ai,if_pos rfl];rfl⟩))
    .rw[if_neg ho];exact .nd _ _ _ hl (ih _ _ _ ai hr) (.inr (.inr ⟨i/2- 1,by rw[J7 _ _ _ _ _ ai,if_pos rfl];rfl⟩))
  cases t with
  |lf=>rw[WK];exact key _ _ _ .lf .lf
  |nd l v r=>cases hw with|nd _ _ _ hl hr _=>exact key l v r hl hr
theorem WF.set{t:T O}(h:WF t)(i:Nat)(x:O):WF (t.set i x):=ain _ _ _ _ ai h
end T
variable{P:Program}{ro:Nat}{Y:St}{ρ:Operand->IV}{o:Oper}{out:gq}
def Jw(Y:St):gq->Prop
 |.val _ al=>Y.t.WF->al.t.WF
 |_=>True
theorem D0{v:IV}{al:St}(hle:Y.t.WF->al.t.WF)(h:ret v al=aa out):Jw Y out:=by rw[aX h];exact hle
theorem W6{v:IV}(h:ret v Y=aa out):Jw Y out:=D0 (λh=>h) h
theorem abQ{v:IV}{id:Nat}{ob:Ob}(h:ret v (Y.put id ob)=aa out):Jw Y out:=D0 (al:=Y.put id ob) (λh=>h.set _ _) h
theorem aio{v:IV}{id bz:Nat}{ob fK:Ob}(h:ret v ((Y.put id ob).put bz fK)=aa out):Jw Y out:=D0 (al:=(Y.put id ob).put bz fK) (λh=>(h.set _ _).set _ _) h
theorem abR{v:IV}{ob:Ob}(h:ret v (Y.add ob)=aa out):Jw Y out:=D0 (λh=>h.set _ _) h
theorem PO{kt:TypeId}{m k v:IV}{al:St}(h:qI P ro kt m k v Y=aa al):Y.t.WF->al.t.WF:=by
 unfold qI at h
 repeat' split at h
 all_goals first|(cases h;done)|(cases h;exactλh=>h.set _ _)
theorem abS{f:IV}{args:List IV}(h:gT P f args=aa out):Jw Y out:=by
 unfold gT at h
 repeat' split at h
 all_goals first|(cases h;done)|(cases h;exact trivial)
theorem abT{argTypes:Array TypeId}{s x:IV}(h:mh P ro argTypes s x Y=aa out):Jw Y out:=by
 have hn:∀{size bn n:Nat} {new:List IV} {s:IV},f_ size bn n new s Y=aa out->Jw Y out:=by
  intro size bn n new s h;unfold f_ at h;split at h
  .split at h
   .exact abR h
   .cases h
  .cases h
 unfold mh at h;split at h
 .split at h
  .split at h
   .split at h
    .cases h
    .split at h
     .split at h
      .unfold fw at h
       repeat' split at h
       all_goals first|exact W6 h|exact abQ h|exact aio h|exact hn h|cases h
      .cases h
     .cases h
   .cases h
  .cases h
 .cases h
theorem Zz{b:Builtin}{argTypes:Array TypeId}{args:List IV}(h:fx P ro b argTypes args Y=aa out):Jw Y out:=by
 unfold fx at h;split at h
 .split at h
  .exact abT h
  .cases h
 .split at h
  .rw[ayG]at h;obtain⟨z,_,rfl⟩:=h;exactλh=>h
  .cases h
 .split at h
  .rw[ayG]at h;obtain⟨z,_,rfl⟩:=h;exactλh=>h
  .cases h
 .rw[ayG]at h;obtain⟨z,_,rfl⟩:=h;exactλh=>h
 .cases h
theorem akh(h:aA P ro ρ o Y=aa out):Jw Y out:=by
 unfold aA at h;cases ho:o.op<;>rw[ho]at h<;>(try dsimp only at h)
 case call c=>
  split at h
  .exact Zz h
  .exact abS h
  .cases h
 case defer c=>
  split at h
  .split at h
   .cases h;exact trivial
   .cases h
  .cases h
 case mapUpdate=>
  split at h
  .split at h
   .rename_i al hs;exact D0 (PO hs) h
   .cases h
  .cases h
 case insert=>
  split at h
  .split at h
   .rename_i al hs;exact D0 (PO hs) h
   .cases h
  .cases h
 all_goals (repeat' split at h)
 all_goals first|exact W6 h|exact abQ h|exact abR h|(cases h;done)|(cases h;exact trivial)
theorem ZB{v:IV}{al:St}(h:aA P ro ρ o Y=aa (.val v al))(hw:Y.t.WF):al.t.WF:=akh h hw
theorem Hg{v:IV}{au:St}(hk:dy o=.pure)(h:aA P ro ρ o Y=aa (.val v au)):au=Y/\∀gO al,aA P gO ρ o al=aa (.val v al):=by
 unfold dy at hk;unfold aA at h⊢;cases ho:o.op<;>rw[ho]at h hk<;>(try dsimp only at h hk⊢)<;>(try (cases hk;done))
 case call c=>
  obtain⟨callee,argTypes,args⟩:=c;cases callee with
  |builtin b=>
   cases b<;>simp only at hk<;>(try (cases hk;done))
   all_goals
    simp only[fx]at h⊢
    first
    |(cases h;done)
    |(rw[ayG]at h
      obtain⟨z,hz,he⟩:=h;cases he;exact⟨rfl,λ_ _=>by rw[hz];rfl⟩)
    |(split at h
      .rename_i hx;rw[ayG]at h;obtain⟨z,hz,he⟩:=h;cases he;exact⟨rfl,λ_ _=>by rw[hz];rfl⟩
      .cases h)
  |value f=>cases hk
  |invoke r m=>cases hk
 all_goals (repeat' split at h)
 all_goals first
  |(cases h;done)
  |(cases h;exact⟨rfl,λ_ _=>by simp_all[ret]⟩)
theorem Hh{v:IV}{au:St}(hk:dy o=.load)(h:aA P ro ρ o Y=aa (.val v au)):au=Y/\∀gO,aA P gO ρ o Y=aa (.val v Y):=by
 unfold dy at hk;unfold aA at h⊢;cases ho:o.op<;>rw[ho]at h hk<;>(try dsimp only at h hk⊢)<;>(try (cases hk;done))
 case call c=>
  obtain⟨callee,argTypes,args⟩:=c;cases callee with
  |builtin b=>
   cases b<;>simp only at hk<;>(try (cases hk;done));simp only[fx]at h⊢;split at h
   .rename_i hx;rw[ayG]at h;obtain⟨z,hz,he⟩:=h;cases he;exact⟨rfl,λ_=>by rw[hz];rfl⟩
   .cases h
  |value f=>cases hk
  |invoke r m=>cases hk
 all_goals (repeat' split at h)
 all_goals first
  |(cases h;done)
  |(cases h;exact⟨rfl,λ_=>by simp_all[ret]⟩)
theorem aki(Y:St)(ob:Ob):(St.add ⟨Y.n,.lf⟩ ob)=⟨(Y.add ob).n,T.lf.set Y.n ob⟩:=rfl
theorem LM{v:IV}{au:St}(hk:dy o=.alloc)(h:aA P ro ρ o Y=aa (.val v au)):
 ∃t,(∀gO,aA P gO ρ o ⟨Y.n,.lf⟩=aa (.val v ⟨au.n,t⟩))/\((au=Y/\t=.lf)\/∃ob,au=Y.add ob/\t=T.lf.set Y.n ob):=by
 unfold dy at hk;unfold aA at h⊢;cases ho:o.op<;>rw[ho]at h hk<;>(try dsimp only at h hk⊢)<;>(try (cases hk;done))
 case call c=>
  obtain⟨callee,argTypes,args⟩:=c;cases callee with
  |builtin b=>cases b<;>cases hk
  |value f=>cases hk
  |invoke r m=>cases hk
 all_goals (repeat' split at h)
 all_goals first
  |(cases h;done)
  |(cases h;exact⟨_,λ_=>by simp_all[ret,aki],.inr ⟨_,rfl,rfl⟩⟩)
  |(cases h;exact⟨_,λ_=>by simp_all[ret],.inl ⟨rfl,rfl⟩⟩)
theorem Ax{b:Builtin}{argTypes:Array TypeId}{args:List IV}{f:FuncId}{as:List IV}(h:fx P ro b argTypes args Y=aa (.enter f as)):False:=by
 unfold fx at h;split at h
 .split at h
  .obtain⟨_,_,he⟩:=Jo h;cases he
  .cases h
 .split at h
  .rw[ayG]at h;obtain⟨z,_,he⟩:=h;cases he
  .cases h
 .split at h
  .rw[ayG]at h;obtain⟨z,_,he⟩:=h;cases he
  .cases h
 .rw[ayG]at h;obtain⟨z,_,he⟩:=h;cases he
 .cases h
theorem EY{f:FuncId}{args:List IV}(h:aA P ro ρ o Y=aa (.enter f args)):∀gO al,aA P gO ρ o al=aa (.enter f args):=by
 intro gO al;unfold aA at h⊢;cases ho:o.op<;>rw[ho]at h<;>(try dsimp only at h⊢)
 case call c=>
  split at h
  .exact(Ax h).elim
  .exact h
  .cases h
 case defer c=>
  split at h
  .split at h<;>cases h
  .cases h
 all_goals (repeat' split at h)
 all_goals cases h
open Classical in
@[reducible] noncomputable def akj:Sm:=⟨λu v=>decide (u=v),λ_ _ h=>of_decide_eq_true h⟩
attribute [local instance] akj
open Classical in
noncomputable def sB(R:Option Nat)(f:FuncId)(args:List IV)(Y:St)(v:IV)(au:St):Self where
 code:=λ_ _ _ _ _ _ _=>ah
 call:=λgO f' a' al=>if(R=ah\/R=aa gO)/\f'=f/\a'=args/\al=Y then aa (v,au)else ah
 cw:=λ_ _ _ _=>ah
 yS:=λ_ _ _ _ _=>ah
def np(P:Program)(U:Self):Prop:=iv P U 0/\ff P U/\cu U/\bS U
theorem qd:np P Self.none:=
 ⟨λ_ _ _ _ _ _ _ _ _ h=>(by cases h),(W5 (P:=P)).1,λ_ _ _ _ _ _ _ _ h=>(by cases h),(W5 (P:=P)).2⟩
theorem PQ{R:Option Nat}{f:FuncId}{args:List IV}{Y:St}{v:IV}{au:St}(h:∀ro,(R=ah\/R=aa ro)->jN P ro f args Y v au){gO:Nat}{f':FuncId}{a':List IV}{al:St}{v':IV}{cU:St}
 (hc:(sB R f args Y v au).call gO f' a' al=aa (v',cU)):jN P gO f' a' al v' cU:=by
 simp only[sB]at hc;split at hc
 .rename_i hh;cases hc;obtain⟨h1,rfl,rfl,rfl⟩:=hh;exact h _ h1
 .cases hc
theorem vp{R:Option Nat}{f:FuncId}{args:List IV}{Y:St}{v:IV}{au:St}(h:∀ro,(R=ah\/R=aa ro)->jN P ro f args Y v au):np P (sB R f args Y v au):=
 ⟨λ_ _ _ _ _ _ _ _ _ h=>(by cases h),⟨λN _ _ _ _ _ _ hc hN=>(PQ h hc).2 N hN,λ_ _ _ _ _ _ _ h=>(by cases h),λ_ _ _ _ _ _ _ _ h=>(by cases h),λ_ _ _ _ _ _ _ h=>(by cases h)⟩,
  λ_ _ _ _ _ _ _ _ h=>(by cases h),⟨λ_ _ _ _ _ _ hc=>(PQ h hc).1,λ_ _ _ _ _ _ h=>(by cases h),λ_ _ _ _ _ _ _ h=>(by cases h)⟩⟩
def D2(o:Oper):Bool:=
 match o.op with
 |.call {callee:=.value _,.. }=>ab
 |_=>af
def Iz(ops:Array Oper)(pl:eJ):Bool:=
 ops.toList.zipIdx.all λ(o,j)=>
  (match pl.kinds.getD j .effect with
   |.call=>D2 o&&dy o==.call
   |.effect=>ab
   |k=>dy o==k)&&
  (pl.kinds.getD j .effect==.pure||ops.toList.zipIdx.all λ(_,i)=> !azp i j||ayY (pl.cJ.getD j 0) i||
   (match pl.kinds.getD i .effect with
    |.alloc|.effect=>af
    |.load=> !(pl.kinds.getD j .effect==.effect)
    |_=>ab))
inductive gE(P:Program)(ro:Nat)(ops:Array Oper)(pl:eJ)(fr:Bool):List (Oper×Nat)->Env->St->Env->St->Prop
 |nil (e:Env) (Y:St):gE P ro ops pl fr [] e Y e Y
 |skip {o:Oper} {j:Nat} {l:List (Oper×Nat)} {e:Env} {Y:St} {e':Env} {al:St} (hw:aT o ops e=af) (h:gE P ro ops pl fr l (e.put o.dst .undef) Y e' al):gE P ro ops pl fr ((o,j)::l) e Y e' al
 |val {o:Oper} {j:Nat} {l:List (Oper×Nat)} {e:Env} {Y:St} {e':Env} {al:St} {v:IV} {au:St} (hw:aT o ops e=ab) (hv:aA P ro (aC e) o Y=aa (.val v au)) (h:gE P ro ops pl fr l (e.put o.dst v) au e' al):gE P ro ops pl fr ((o,j)::l) e Y e' al
 |Re {o:Oper} {j:Nat} {l:List (Oper×Nat)} {e:Env} {Y:St} {e':Env} {al:St} {f:FuncId} {args:List IV} {v:IV} (hw:aT o ops e=ab) (hv:aA P ro (aC e) o Y=aa (.enter f args)) (hc:∀ro,jN P ro f args Y v Y)
   (h:gE P ro ops pl fr l (e.put o.dst v) Y e' al):gE P ro ops pl fr ((o,j)::l) e Y e' al
 |call {o:Oper} {j:Nat} {l:List (Oper×Nat)} {e:Env} {Y:St} {e':Env} {al:St} {f:FuncId} {args:List IV} {v:IV} {au:St} (hk:bw pl j=.effect) (hw:aT o ops e=ab) (hv:aA P ro (aC e) o Y=aa (.enter f args))
   (hc:jN P ro f args Y v au) (mu:Y.t.WF->au.t.WF) (h:gE P ro ops pl fr l (e.put o.dst v) au e' al):gE P ro ops pl fr ((o,j)::l) e Y e' al
 |ZC {o:Oper} {j:Nat} {l:List (Oper×Nat)} {e:Env} {Y:St} {e':Env} {al:St} {f:FuncId} {args:List IV} {v:IV} {ob:Ob} (hq:fr=ab) (hw:aT o ops e=ab) (hv:aA P ro (aC e) o Y=aa (.enter f args))
   (hc:∀ro,jN P ro f args Y v (Y.add ob)) (h:gE P ro ops pl fr l (e.put o.dst v) (Y.add ob) e' al):gE P ro ops pl fr ((o,j)::l) e Y e' al
theorem EZ{ops:Array Oper}{pl:eJ}(h:Iz ops pl=ab){o:Oper}{j:Nat}(ho:(o,j)∈ops.toList.zipIdx):
 (bw pl j≠.call->bw pl j≠.effect->dy o=bw pl j)/\(bw pl j=.call->D2 o=ab)/\
 (bw pl j≠.pure->∀p i,(p,i)∈ops.toList.zipIdx->i<j->(bw pl i=.alloc\/bw pl i=.effect\/(bw pl i=.load/\bw pl j=.effect))->ayY (pl.cJ.getD j 0) i=ab):=by
 unfold Iz at h;have h1:=ayP.1 h (o,j) ho;simp only[ayz,azf]at h1;obtain⟨h1,h2⟩:=h1;refine⟨λhc he=>?_,λhc=>?_,λhp p i hi aj hk=>?_⟩
 .unfold bw at hc he⊢;cases hk:pl.kinds.getD j .effect<;>rw[hk]at h1 hc he<;>first|exact absurd rfl hc|exact absurd rfl he|simpa using h1
 .unfold bw at hc;rw[hc]at h1;simp only[ayz]at h1;exact h1.1
 .rcases h2 with h2|h2
  .exact absurd (by simpa[bw]using h2) hp
  .have h3:=ayP.1 h2 (p,i) hi;simp only[azf]at h3;rcases h3 with(h3|h3)|h3
   .rw[azn,<-Bool.not_eq_true,aCq]at h3;exact absurd aj h3
   .exact h3
   .unfold bw at hk;rcases hk with hk|hk|⟨hk,dq⟩
    .rw[hk]at h3;cases h3
    .rw[hk]at h3;cases h3
    .rw[hk,dq]at h3;simp at h3
theorem mv(b:T Ob)(p:Piece)(h:p.hi<=p.lo):dU b p=b:=by
 unfold dU;rw[show p.hi- p.lo=0 by omega];rfl
theorem zj{b:T Ob}(h:b.WF)(p:Piece):(dU b p).WF:=by
 unfold dU;generalize az3 p.lo (p.hi- p.lo)=l;induction l generalizing b with
 |nil=>exact h
 |cons id l ih=>
  simp only[aze];refine ih ?_;split
  .exact h.set _ _
  .exact h
theorem mw:∀(l:List Piece) {b:T Ob},b.WF->(l.foldl dU b).WF
 |[],_,h=>h
 |p::l,_,h=>mw l (zj h p)
theorem vq{f:Piece->Bool}:∀(l:List Piece) (b:T Ob),(∀p∈l,f p=ab\/p.hi<=p.lo)->(l.filter f).foldl dU b=l.foldl dU b
 |[],_,_=>rfl
 |p::l,b,h=>by
  have ht:=λq hq=>h q (azA _ hq);rw[aDf];by_cases hf:f p=ab
  .rw[if_pos hf];exact vq l _ ht
  .rw[if_neg hf,aze,mv b p ((h p (aAR ..)).resolve_left hf)];exact vq l b ht
theorem Bu{f:Piece->Bool}:∀(l:List Piece) (b:T Ob),(∀p∈l,f p=ab->p.hi<=p.lo)->(l.filter f).foldl dU b=b
 |[],_,_=>rfl
 |p::l,b,h=>by
  have ht:=λq hq=>h q (azA _ hq);rw[aDf];by_cases hf:f p=ab
  .rw[if_pos hf,aze,mv b p (h p (aAR ..) hf)];exact Bu l b ht
  .rw[if_neg hf];exact Bu l b ht
theorem Bv{n:Nat}{ob:Ob}:∀(l:List Piece) (b1 b2:T Ob),(∀p∈l,p.hi<=n)->(∀id,b1.get id=(b2.set n ob).get id)->∀id,(l.foldl dU b1).get id=((l.foldl dU b2).set n ob).get id
 |[],b1,b2,_,h,id=>h id
 |p::l,b1,b2,hp,h,id=>by
  simp only[aze];refine Bv l _ _ (λq hq=>hp q (azA _ hq)) (λid=>?_) id;have hpn:=hp p (aAR ..);rw[l7,T.gV,l7,h id,T.gV];by_cases hn:n=id
  .subst hn;simp only[if_true];rw[if_neg ai]
  .simp only[if_neg hn]
structure Ay(pl:eJ)(j:Nat)(d:DS)(e:Env)(Y:St):Prop where
 e:d.e=e
 n:d.n=Y.n
 bs:∃i b rest,d.bs=(i,b)::rest/\(rest=[]\/(i<j/\bw pl i=.effect))/\d.aM.foldl dU b=Y.t/\b.WF
 aM:∀p∈d.aM,(p.hi<=p.lo\/(p.j<j/\bw pl p.j=.alloc))/\p.hi<=d.n
theorem Nu{ops:Array Oper}{pl:eJ}{d:DS}{e:Env}{Y:St}{j:Nat}{b:T Ob}(hs:Ay pl j d e Y)(eg:d.aM.foldl dU b=Y.t)
 (kc:∀i,i<j->(bw pl i=.alloc\/bw pl i=.effect)->ayY (pl.cJ.getD j 0) i=ab):seen d.aM (pl.cJ.getD j 0) b=Y.t:=by
 unfold seen;rw[vq _ _ λp hp=>?_,eg];rcases(hs.aM p hp).1 with h|⟨h1,h2⟩
 .exact .inr h
 .exact .inl (kc _ h1 (.inl h2))
theorem GI{v:IV}{au:St}(h:D2 o=ab)(hv:aA P ro ρ o Y=aa (.val v au)):False:=by
 unfold D2 at h;split at h
 .rename_i f a b jz;unfold aA at hv;rw[jz]at hv;dsimp only at hv;unfold gT at hv
  repeat' split at hv
  all_goals cases hv
 .cases h
theorem vt{f:FuncId}{args:List IV}(h:aA P ro ρ o Y=aa (.enter f args)):dy o=.call\/dy o=.effect:=by
 unfold aA at h;unfold dy;cases ho:o.op<;>rw[ho]at h<;>(try dsimp only at h⊢)
 case call c=>
  obtain⟨callee,argTypes,args⟩:=c;cases callee with
  |builtin b=>exact(Ax h).elim
  |value f=>exact .inl rfl
  |invoke r m=>exact .inr rfl
 case defer c=>
  split at h
  .split at h<;>cases h
  .cases h
 all_goals (repeat' split at h)
 all_goals cases h
theorem Kl{U:Self}{ops:Array Oper}{pl:eJ}{o:Oper}{j:Nat}{d:DS}{e:Env}{Y au:St}{v:IV}(hs:Ay pl j d e Y)(hk:bw pl j=.effect)(hw:aT o ops e=ab)
 (iF:∀p i,(p,i)∈ops.toList.zipIdx.take j->(p,i)∈ops.toList.zipIdx/\i<j)
 (kc:∀i,i<j->(bw pl i=.alloc\/bw pl i=.effect\/(bw pl i=.load/\bw pl j=.effect))->ayY (pl.cJ.getD j 0) i=ab)
 (hx:kY P U ro e o Y=aa (v,au))(mu:au.t.WF)(hn:Y.n<=au.n):∃d1,ct P U pl ro ops o j d=aa d1/\Ay pl (j+1) d1 (e.put o.dst v) au:=by
 obtain⟨i,b,rest,da,eR,eg,k_⟩:=hs.bs;have oB:=Nu (ops:=ops) hs eg λi hi h=>kc i hi (h.imp id .inl);have bI:(⟨d.n,seen d.aM (pl.cJ.getD j 0) b⟩:St)=Y:=by rw[oB,hs.n]
 refine⟨⟨e.put o.dst v,au.n,(j,au.t)::d.bs,d.aM.filter λp=> !ayY (pl.cJ.getD j 0) p.j⟩,?_,⟨rfl,rfl,⟨j,au.t,d.bs,rfl,.inr ⟨by omega,hk⟩,?_,mu⟩,λp hp=>?_⟩⟩
 .unfold ct;rw[da];simp only;rw[hs.e,hw,if_pos rfl];have dq:pl.kinds.getD j .effect=.effect:=hk;rw[dq];simp only;rw[bI,hx];simp only;rw[if_pos];unfold recheck;rw[ayP];rintro⟨p,q⟩ Az;obtain⟨h5,h6⟩:=iF p q Az;simp only;split
  .rename_i wx;rw[kc q h6 (.inr (.inr ⟨wx,hk⟩))];rfl
  .rfl
 .refine Bu _ _ λp hp hf=>?_;rcases(hs.aM p hp).1 with h|⟨h1,h2⟩
  .exact h
  .rw[kc _ h1 (.inl h2)]at hf;cases hf
 .have va:=(azC.1 hp).1;obtain⟨h1,h2⟩:=hs.aM p va;exact⟨h1.imp id (λh=>⟨by omega,h.2⟩),by rw[hs.n]at h2;exact ayU h2 hn⟩
theorem GJ{SF qL:Nat->Self}{pl:eJ}{ops:Array Oper}:∀{l:List (Oper×Nat)} {d:DS},(∀o i,(o,i)∈l->SF i=qL i)->j_ P SF pl ro ops l d=j_ P qL pl ro ops l d
 |[],_,_=>rfl
 |(o,j)::l,d,h=>by
  unfold j_;rw[h o j (aAR ..)];split
  .exact GJ λo' i hi=>h o' i (azA _ hi)
  .rfl
theorem nq{U:Self}{pl:eJ}{ops:Array Oper}{o:Oper}{j:Nat}{l:List (Oper×Nat)}{d d1 d':DS}{SF:Nat->Self}(hU:np P U)(hS:∀i,np P (SF i))(h1:ct P U pl ro ops o j d=aa d1)
 (h3:j_ P SF pl ro ops l d1=aa d')(hl:∀o' i,(o',i)∈l->i≠j):∃qL,(∀i,np P (qL i))/\j_ P qL pl ro ops ((o,j)::l) d=aa d':=by
 refine⟨λi=>if i=j then U else SF i,λi=>?_,?_⟩
 .by_cases hi:i=j
  .simp only[if_pos hi];exact hU
  .simp only[if_neg hi];exact hS i
 .unfold j_;simp only[if_true];rw[h1];simp only;rw[<-h3];exact GJ λo' i hi=>by simp only[if_neg (hl o' i hi)]
theorem abU{ops:Array Oper}{pl:eJ}(bu:Iz ops pl=ab){l:List (Oper×Nat)}{e e':Env}{Y al:St}(h:gE P ro ops pl af l e Y e' al):
 ∀(k:Nat) (d:DS),ops.toList.zipIdx.drop k=l->Ay pl k d e Y->∃SF:Nat->Self,(∀i,np P (SF i))/\∃d',j_ P SF pl ro ops l d=aa d'/\d'.e=e'/\d'.n=al.n/\∃i b rest,d'.bs=(i,b)::rest/\d'.aM.foldl dU b=al.t:=by
 have dt:∀{o:Oper} {j:Nat} {l:List (Oper×Nat)} {k:Nat},ops.toList.zipIdx.drop k=(o,j)::l->(o,j)∈ops.toList.zipIdx/\j=k/\ops.toList.zipIdx.drop (k+1)=l/\
  (∀p i,(p,i)∈ops.toList.zipIdx.take j->(p,i)∈ops.toList.zipIdx/\i<j)/\(∀i,i<j->∃p,(p,i)∈ops.toList.zipIdx)/\∀o' i,(o',i)∈l->i≠j:=by
  intro o j l k h;have h1:(ops.toList.zipIdx.drop k)[0]?=aa (o,j):=by rw[h];rfl
  rw[List.getElem?_drop,Nat.add_zero]at h1;have h2:=ayM h1;have aj:=(ayw.1 h1).1;rw[aBt]at h1
  have hj:j=k:=by
   cases hk:ops.toList[k]? with
   |none=>rw[hk]at h1;cases h1
   |some o'=>rw[hk]at h1;simp at h1;omega
  have Ar:ops.toList.zipIdx.drop (k+1)=l:=by rw[<-aAG (i:=1) (j:=k),h];rfl
  refine⟨h2,hj,Ar,λp i hp=>⟨List.mem_of_mem_take hp,?_⟩,λi hi=>?_,λo' i hi=>?_⟩
  .obtain⟨m,hm,he⟩:=aBI hp;rw[List.length_take]at hm;rw[List.getElem_take,aBJ]at he;cases he;omega
  .rw[List.length_zipIdx]at aj;refine⟨ops.toList[i],ayM (i:=i) ?_⟩;rw[aBt,ayv ai];simp
  .rw[<-Ar]at hi;obtain⟨m,hm,he⟩:=aBI hi;rw[List.getElem_drop,aBJ]at he;cases he;omega
 induction h with
 |nil e Y=>
  intro k d _ hs;obtain⟨i,b,rest,h1,_,h3,_⟩:=hs.bs;exact⟨λ_=>Self.none,λ_=>qd,d,rfl,hs.e,hs.n,i,b,rest,h1,h3⟩
 | @skip o j l e Y e' al hw h ih=>
   intro k d hl hs;obtain⟨hm,rfl,hd,iF,cb,aj⟩:=dt hl;obtain⟨gm,jf,kc⟩:=EZ bu hm;obtain⟨i,b,rest,da,eR,eg,k_⟩:=hs.bs;have kf:∀p∈d.aM,(p.hi<=p.lo\/(p.j<j+1/\bw pl p.j=.alloc))/\p.hi<=d.n:=λp hp=>⟨(hs.aM p hp).1.imp id (λh=>⟨by omega,h.2⟩),(hs.aM p hp).2⟩
   have key:∃U,np P U/\∃d1,ct P U pl ro ops o j d=aa d1/\Ay pl (j+1) d1 (e.put o.dst .undef) Y:=by
    refine⟨Self.none,qd,?_⟩;by_cases hk:bw pl j=.effect
    .refine⟨⟨d.e.put o.dst .undef,d.n,(j,b)::d.bs,d.aM⟩,?_,⟨by rw[hs.e],hs.n,⟨j,b,d.bs,rfl,.inr ⟨by omega,hk⟩,eg,k_⟩,kf⟩⟩;unfold ct;rw[da];simp only;rw[hs.e,hw,if_neg ax];have dq:pl.kinds.getD j .effect=.effect:=hk;rw[dq];simp only;rw[if_pos];unfold recheck;rw[ayP];rintro⟨p,q⟩ Az;obtain⟨h5,h6⟩:=iF p q Az;simp only;split
     .rename_i wx;rw[kc (by rw[hk];simp) p q h5 h6 (.inr (.inr ⟨wx,hk⟩))];rfl
     .rfl
    .refine⟨{d with e:=d.e.put o.dst .undef},?_,⟨by rw[hs.e],hs.n,⟨i,b,rest,da,eR.imp id (λh=>⟨by omega,h.2⟩),eg,k_⟩,kf⟩⟩;unfold ct;rw[da];simp only;rw[hs.e,hw,if_neg ax];have dq:pl.kinds.getD j .effect≠.effect:=hk;cases hq:pl.kinds.getD j .effect<;>first|exact absurd hq dq|simp only
   obtain⟨U,hU,d1,h1,h2⟩:=key;obtain⟨SF,kz,d',h3,h4⟩:=ih (j+1) d1 hd h2;obtain⟨qL,h5,h6⟩:=nq hU kz h1 h3 aj;exact⟨qL,h5,d',h6,h4⟩
 | @val o j l e Y e' al v au hw hv h ih=>
   intro k d hl hs;obtain⟨hm,rfl,hd,iF,cb,aj⟩:=dt hl;obtain⟨gm,jf,kc⟩:=EZ bu hm;obtain⟨i,b,rest,da,eR,eg,k_⟩:=hs.bs;have qM:Y.t.WF:=eg▸mw _ k_;have kf:∀p∈d.aM,(p.hi<=p.lo\/(p.j<j+1/\bw pl p.j=.alloc))/\p.hi<=d.n:=λp hp=>⟨(hs.aM p hp).1.imp id (λh=>⟨by omega,h.2⟩),(hs.aM p hp).2⟩
   have Bw:bw pl j≠.pure->∀i,i<j->(bw pl i=.alloc\/bw pl i=.effect\/(bw pl i=.load/\bw pl j=.effect))->ayY (pl.cJ.getD j 0) i=ab:=by
    intro hp i hi hk;obtain⟨p,Bx⟩:=cb i hi;exact kc hp p i Bx hi hk
   have key:∃U,np P U/\∃d1,ct P U pl ro ops o j d=aa d1/\Ay pl (j+1) d1 (e.put o.dst v) au:=by
    refine⟨Self.none,qd,?_⟩;cases hk:bw pl j with
    |pure=>
     have l8:dy o=.pure:=by rw[gm (by rw[hk];simp) (by rw[hk];simp),hk]
     obtain⟨rfl,pq⟩:=Hg l8 hv;refine⟨{d with e:=d.e.put o.dst v},?_,⟨by rw[hs.e],hs.n,⟨i,b,rest,da,eR.imp id (λh=>⟨by omega,h.2⟩),eg,k_⟩,kf⟩⟩;unfold ct;rw[da];simp only;rw[hs.e,hw,if_pos rfl];have dq:pl.kinds.getD j .effect=.pure:=hk;rw[dq];simp only;rw[pq 0 ⟨0,.lf⟩];simp
    |alloc=>
     have l8:dy o=.alloc:=by rw[gm (by rw[hk];simp) (by rw[hk];simp),hk]
     obtain⟨t,pq,vd⟩:=LM l8 hv;refine⟨⟨d.e.put o.dst v,au.n,d.bs,⟨j,d.n,au.n,t⟩::d.aM⟩,?_,⟨by rw[hs.e],rfl,⟨i,b,rest,da,eR.imp id (λh=>⟨by omega,h.2⟩),?_,k_⟩,λp hp=>?_⟩⟩
     .unfold ct;rw[da];simp only;rw[hs.e,hw,if_pos rfl];have dq:pl.kinds.getD j .effect=.alloc:=hk;rw[dq];simp only;rw[hs.n,pq 0]
     .simp only[aze];rcases vd with⟨rfl,rfl⟩|⟨ob,rfl,rfl⟩
      .rw[mv _ _ (by simp[hs.n]),eg]
      .refine T.WF.ext (mw _ (zj k_ _)) (qM.set _ _) λid=>?_
       have:=Bv (n:=Y.n) (ob:=ob) d.aM (dU b ⟨j,d.n,(Y.add ob).n,T.lf.set Y.n ob⟩) b (λp hp=>by rw[<-hs.n];exact(hs.aM p hp).2) (λid=>by
        rw[l7,T.gV,T.gV];simp only[hs.n,St.kB];by_cases hid:Y.n=id
        .subst hid;simp
        .rw[if_neg ai,if_neg hid]) id
       rw[this,eg];rfl
     .rcases ayN.1 hp with rfl|hp
      .exact⟨.inr ⟨by simp,hk⟩,ayA _⟩
      .obtain⟨h1,h2⟩:=kf p hp;exact⟨h1,by have:=nS hv;rw[hs.n]at h2;exact ayU h2 this⟩
    |load=>
     have l8:dy o=.load:=by rw[gm (by rw[hk];simp) (by rw[hk];simp),hk]
     obtain⟨rfl,pq⟩:=Hh l8 hv;have oB:=Nu (ops:=ops) hs eg λi hi h=>Bw (by rw[hk];simp) i hi (h.imp id .inl);have bI:(⟨d.n,seen d.aM (pl.cJ.getD j 0) b⟩:St)=au:=by rw[oB,hs.n]
     refine⟨{d with e:=d.e.put o.dst v},?_,⟨by rw[hs.e],hs.n,⟨i,b,rest,da,eR.imp id (λh=>⟨by omega,h.2⟩),eg,k_⟩,kf⟩⟩;unfold ct;rw[da];simp only;rw[hs.e,hw,if_pos rfl];have dq:pl.kinds.getD j .effect=.load:=hk;rw[dq];simp only;rw[bI,pq d.n];simp only;rw[if_pos];refine⟨hs.n.symm,?_⟩;rcases eR with rfl|⟨h1,h2⟩
     .simp[nQ]
     .rw[Bw (by rw[hk];simp) i h1 (.inr (.inl h2))];rfl
    |call=>exact(GI (jf hk) hv).elim
    |effect=>
     refine Kl hs hk hw iF (λi hi h=>Bw (by rw[hk];simp) i hi h) ?_ (ZB hv qM) (nS hv);unfold kY;rw[hv]
   obtain⟨U,hU,d1,h1,h2⟩:=key;obtain⟨SF,kz,d',h3,h4⟩:=ih (j+1) d1 hd h2;obtain⟨qL,h5,h6⟩:=nq hU kz h1 h3 aj;exact⟨qL,h5,d',h6,h4⟩
 | @Re o j l e Y e' al f args v hw hv hc h ih=>
   intro k d hl hs;obtain⟨hm,rfl,hd,iF,cb,aj⟩:=dt hl;obtain⟨gm,jf,kc⟩:=EZ bu hm;obtain⟨i,b,rest,da,eR,eg,k_⟩:=hs.bs;have qM:Y.t.WF:=eg▸mw _ k_;have kf:∀p∈d.aM,(p.hi<=p.lo\/(p.j<j+1/\bw pl p.j=.alloc))/\p.hi<=d.n:=λp hp=>⟨(hs.aM p hp).1.imp id (λh=>⟨by omega,h.2⟩),(hs.aM p hp).2⟩
   have Bw:bw pl j≠.pure->∀i,i<j->(bw pl i=.alloc\/bw pl i=.effect\/(bw pl i=.load/\bw pl j=.effect))->ayY (pl.cJ.getD j 0) i=ab:=by
    intro hp i hi hk;obtain⟨p,Bx⟩:=cb i hi;exact kc hp p i Bx hi hk
   have yj:∀gO,kY P (sB ah f args Y v Y) gO e o Y=aa (v,Y):=by
    intro gO;unfold kY;rw[EY hv gO Y];simp[sB]
   have oB:=Nu (ops:=ops) hs eg
   have key:∃U,np P U/\∃d1,ct P U pl ro ops o j d=aa d1/\Ay pl (j+1) d1 (e.put o.dst v) Y:=by
    refine⟨sB ah f args Y v Y,vp λgO _=>hc gO,?_⟩
    have qu:bw pl j=.call\/bw pl j=.effect:=by
     by_cases jh:bw pl j=.call
     .exact .inl jh
     .by_cases he:bw pl j=.effect
      .exact .inr he
      .have:=gm jh he;rcases vt hv with h|h
       .rw[h]at this;exact absurd this.symm jh
       .rw[h]at this;exact absurd this.symm he
    rcases qu with hk|hk
    .refine⟨⟨d.e.put o.dst v,d.n,d.bs,⟨j,d.n,d.n,seen d.aM (pl.cJ.getD j 0) b⟩::d.aM⟩,?_,⟨by rw[hs.e],hs.n,⟨i,b,rest,da,eR.imp id (λh=>⟨by omega,h.2⟩),?_,k_⟩,λp hp=>?_⟩⟩
     .unfold ct;rw[da];simp only;rw[hs.e,hw,if_pos rfl];have dq:pl.kinds.getD j .effect=.call:=hk;rw[dq];simp only;have yf:=oB λi hi h=>Bw (by rw[hk];simp) i hi (h.imp id .inl);have bI:(⟨d.n,seen d.aM (pl.cJ.getD j 0) b⟩:St)=Y:=by rw[yf,hs.n]
      rw[bI,yj,yf];simp only[hs.n]
     .simp only[aze];rw[mv _ _ ax,eg]
     .rcases ayN.1 hp with rfl|hp
      .exact⟨.inl (ayA _),ayA _⟩
      .exact kf p hp
    .exact Kl hs hk hw iF (λi hi h=>Bw (by rw[hk];simp) i hi h) (yj ro) qM (ayA _)
   obtain⟨U,hU,d1,h1,h2⟩:=key;obtain⟨SF,kz,d',h3,h4⟩:=ih (j+1) d1 hd h2;obtain⟨qL,h5,h6⟩:=nq hU kz h1 h3 aj;exact⟨qL,h5,d',h6,h4⟩
 | @call o j l e Y e' al f args v au hk hw hv hc mu h ih=>
   intro k d hl hs;obtain⟨hm,rfl,hd,iF,cb,aj⟩:=dt hl;obtain⟨gm,jf,kc⟩:=EZ bu hm;obtain⟨i,b,rest,da,eR,eg,k_⟩:=hs.bs;have qM:Y.t.WF:=eg▸mw _ k_
   have Bw:bw pl j≠.pure->∀i,i<j->(bw pl i=.alloc\/bw pl i=.effect\/(bw pl i=.load/\bw pl j=.effect))->ayY (pl.cJ.getD j 0) i=ab:=by
    intro hp i hi hk;obtain⟨p,Bx⟩:=cb i hi;exact kc hp p i Bx hi hk
   obtain⟨d1,h1,h2⟩:=Kl (U:=sB (aa ro) f args Y v au) (v:=v) (au:=au) hs hk hw iF (λi hi h=>Bw (by rw[hk];simp) i hi h) (by unfold kY;rw[hv];simp[sB]) (mu qM) hc.1;obtain⟨SF,kz,d',h3,h4⟩:=ih (j+1) d1 hd h2;obtain⟨qL,h5,h6⟩:=nq (vp (R:=aa ro) λgO hR=>by rcases hR with hR|hR<;>cases hR;exact hc) kz h1 h3 aj;exact⟨qL,h5,d',h6,h4⟩
 | @ZC o j l e Y e' al f args v ob hq hw hv hc h ih=>cases hq
variable{rd:Option Nat}{fn:FuncId}{df:List Df}{e e':Env}{al:St}{ops:Array Oper}
theorem gu.draw{id:Nat}(e_:P.follows .mixedOrders=ab)(ir:(cR ops).ok=ab)(bu:Iz ops (cR ops)=ab)(mu:Y.t.WF)
 (h:gE P ro ops (cR ops) af ops.toList.zipIdx e Y e' al):gu P ro rd fn (.region id ops ab) e df Y ⟨.normal,e',df,al⟩:=by
 obtain⟨SF,kz,d',h1,h2,h3,i,b,rest,h4,h5⟩:=abU bu h 0 ⟨e,Y.n,[(0,Y.t)],[]⟩ ax ⟨rfl,rfl,⟨0,Y.t,[],rfl,.inl rfl,rfl,mu⟩,λp hp=>by cases hp⟩
 have fD:m_ P SF ro ops e df Y=aa ⟨.normal,e',df,al⟩:=by
  unfold m_;simp only;rw[if_pos ir,h1];obtain⟨de,dn,dbs,akk⟩:=d';simp only at h2 h3 h4 h5;subst h2 h4;simp only[h3,h5]
 refine .mk (ES (λi=>(kz i).2.2.1) (λi=>(kz i).2.2.2) fD) ax λN hN F Z a w Q hF hi he hd hQ=>?_;exact Ki e_ (λi=>(kz i).1) (λi=>(kz i).2.1) (λi=>(kz i).2.2.1) (λi=>(kz i).2.2.2) N ro rd ops e df Y _ fD hN F Z a w Q id hF hi he hd hQ
end Go.Ev
