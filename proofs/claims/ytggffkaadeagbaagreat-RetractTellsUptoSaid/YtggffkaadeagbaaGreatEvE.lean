/- Lemmas over the model, without conditions of their own: code and calls of the ideal machine are sound; regions that draw (1). -/
import Derived.Test.YtggffkaadeagbaaGreatEvC
open Go.Fence renaming wide->ato,inRound->axJ
open Go.Code renaming roundsIn->axV
open Go.Instr renaming getLoop->axK,endRound->axC,yield->ax5,enterLoop->awo
open Go.Sem renaming run_bind->asT,run_pure->as5
open Go.Result renaming andThen_ok->asQ
open List renaming foldl_cons->att,range'->avb,drop_drop->avu,length_cons->atG,range'_succ->awr,range_eq_range'->aw2,mapM_nil->awM,mapM_cons->auS,zipIdx_cons->awi,map_congr_left->auV,getD_eq_getElem?_getD->auQ,mk_mem_zipIdx_iff_getElem?->atV,all_eq_true->as6,mem_filter->atW,mem_append->as8
open Go.LoopState renaming busy->ayz
open Decidable renaming byContradiction->auO
open Go.Oper renaming semAt_eq->auC,uponIn_enter->awh
open Nat renaming le_trans->atd,le_refl->asR,lt_of_not_le->avM,testBit->atb,lor->awH,testBit_or->axW,shiftLeft->avZ,lt_or_eq_of_le->av5
open Bool renaming false_eq_true->atn,not_eq_true'->atD,or_eq_true->atw,and_eq_true->asN,not_true->avI,false_or->au3
open Go renaming undef->atC
open Array renaming replicate->aub,getElem?_eq_getElem->atj,getElem?_eq_some_iff->atI
open Option renaming map_some->atl
open Go.Call renaming operands->avA
open Go.Region renaming binds->auF
open Option.some renaming injEq->asP
open Option renaming some->aa,none->ah
open Bool renaming true->ab,false->af
set_option linter.all false
namespace Go.Ev
variable{P:Program}{N ro m:Nat}{ι:Io}{w:World}{σ:St}{e:Env}{a:Act}{S:Self}{F:Fence}{rd:Option Nat}{Q:Exit->Act->World->Prop}
def Hu(ch:List PanicEntry):Ex->Exit
 |.normal=>.normal
 |.exit id=>.exit id
 |.goto l=>.goto l
 |.ret=>.ret
 |.b_ _=>.panic ch
def VW(ι:Io)(ch:List PanicEntry):Ex->Prop
 |.b_ v=>∃u,ch=[{v:=u,recovered:=af}]/\Rv ι v u
 |_=>True
def px(ι:Io):Option IV->FrameMode->Prop
 |none,u=>u=.returning
 |some v,u=>∃x,u=.panicking [{v:=x,recovered:=af}]/\Rv ι v x
def kM(F:Fence)(rd:Option Nat)(ι:Io):Prop:=(rd=ah/\F=ato)\/∃l loc,rd=aa l/\ι l 0=aa loc/\F=ato.inRound loc.b
theorem kM.mono{aG:Io}(gY:Ext ι aG)(h:kM F rd ι):kM F rd aG:=by
 rcases h with h|⟨l,loc,h1,h2,h3⟩
 ·exact .inl h
 ·exact .inr ⟨l,loc,h1,gY _ _ _ h2,h3⟩
theorem kM.fn(h:kM F rd ι)(f:FuncId):F.fn f:=by rcases h with⟨_,rfl⟩|⟨_,_,_,_,rfl⟩<;>trivial
theorem kM.depth(h:kM F rd ι){n:Nat}:F.depth.isSome=ab->1<=n:=by rcases h with⟨_,rfl⟩|⟨_,_,_,_,rfl⟩<;>(intro h;simp[ato,axJ]at h)
theorem kM.calls(h:kM F rd ι){f:FuncId}{us:Array Value}{R:Ending->World->Prop}(hc:CallsIn ato 0 P f us w R):CallsIn F (0- 1) P f us w R:=by
 rcases h with⟨_,rfl⟩|⟨_,_,_,_,rfl⟩<;>exact hc
theorem kM.inRound(h:kM F rd ι)(l:Nat):F.inRound l=ato.inRound l:=by rcases h with⟨_,rfl⟩|⟨_,_,_,_,rfl⟩<;>rfl
def nU(N ro:Nat)(ι:Io)(w:World)(σ:St)(cr:CR)(Q:Exit->Act->World->Prop):Prop:=
 ∀a' w' aG ch,Inv N aG cr.σ w'->Le ro ι w σ aG w' cr.σ->di aG cr.e a'.tmps->ki aG cr.df a'.defers->VW aG ch cr.ex->Q (Hu ch cr.ex) a' w'
def VX(F:Fence)(P:Program)(m:Nat)(c:Code)(Q:Exit->Act->World->Prop)(a:Act)(w:World):Prop:=
 match c with
 |.loop b=>axV F 0 P b Q m a w
 |c=>c.wpIn F 0 P Q a w
theorem VX.wp{c:Code}(h:VX F P m c Q a w):c.wpIn F 0 P Q a w:=by
 cases c<;>first|exact h|exact wpIn_loop_rounds _ h
def w9(N ro:Nat)(ι:Io)(w:World)(σ:St)(v:IV)(ao:St):Ending->World->Prop
 |.returned u,w'=>∃aG,Rv aG v u/\Inv N aG ao w'/\Le ro ι w σ aG w' ao
 |_,_=>False
def ir(P:Program)(S:Self)(m:Nat):Prop:=∀N ro rd fn c e df σ cr,S.code ro rd fn c e df σ=aa cr->cr.σ.n<=N->∀F ι a w Q,kM F rd ι->Inv N ι σ w->di ι e a.tmps->ki ι df a.defers->
 nU N ro ι w σ cr Q->VX F P m c Q a w
def N8(N ro:Nat)(ι:Io)(w:World)(σ:St)(v:IV)(ao:St):Ending->World->Prop
 |.panicked ch,w'=>∃aG,VW aG ch (.b_ v)/\Inv N aG ao w'/\Le ro ι w σ aG w' ao
 |_,_=>False
def IL(N ro:Nat)(ι:Io)(w:World)(σ:St)(m:Option IV)(ao:St):Ending->FrameMode->World->Prop
 |.returned _,u,w'=>∃aG,px aG m (settle u)/\Inv N aG ao w'/\Le ro ι w σ aG w' ao
 |_,_,_=>False
structure eF(P:Program)(S:Self):Prop where
 call:∀N ro f args σ v ao,S.call ro f args σ=aa (v,ao)->ao.n<=N->∀ι us w,Inv N ι σ w->aB ι args us->CallsIn ato 0 P f us.toArray w (w9 N ro ι w σ v ao)
 b_:∀N ro f args σ v ao,S.b_ ro f args σ=aa (v,ao)->ao.n<=N->∀ι us w,Inv N ι σ w->aB ι args us->CallsIn ato 0 P f us.toArray w (N8 N ro ι w σ v ao)
 wP:∀N ro f args m σ m' ao,S.wP ro f args m σ=aa (m',ao)->ao.n<=N->∀ι us u w,px ι m u->Inv N ι σ w->aB ι args us->CallsDIn ato 0 P f us.toArray u w (IL N ro ι w σ m' ao)
 na:∀ro f args m σ m' ao,S.wP ro f args m σ=aa (m',ao)->∃fn,P.funcs[f]?=aa fn/\(fn.body.isSome&&fn.name != "runtime.NumGoroutine")=ab
theorem nU.from{cr:CR}{cq:Io}{w1:World}{aq:St}(h:nU N ro ι w σ cr Q)(hi:Inv N ι σ w)(hl:Le ro ι w σ cq w1 aq)(hn:aq.n<=N):nU N ro cq w1 aq cr Q:=
 λa' w' aG ch h1 h2 h3 h4 h5=>h a' w' aG ch h1 (Le.trans (λid h1 h2=>hi.fresh id h1 (by omega)) hl h2) h3 h4 h5
theorem Le.then(hi:Inv N ι σ w){cq pj:Io}{w1 w2:World}{aq dw:St}(hn:aq.n<=N)(h:Le ro ι w σ cq w1 aq)(k:Le ro cq w1 aq pj w2 dw):Le ro ι w σ pj w2 dw:=
 Le.trans (λid h1 h2=>hi.fresh id h1 (by omega)) h k
theorem yk{l:Nat}{r:Loop}(h:w.heap[l]?=aa (.loop r)):(axK l).run P w=.ok r w:=by
 simp only[axK,asT,bW (P:=P) h (by simp),asQ,as5]
theorem heap_set{b:Nat}{o:Go.Obj}(h:b<w.heap.size):(w.heap.setIfInBounds b o)[b]?=aa o:=by simp[h]
theorem Mf:∀{ps:List Tmp} {args:List IV} {us:List Value} {e:Env} {ts:Array Value},di ι e ts->aB ι args us->
 di ι ((ps.zip args).foldl (λe (p,v)=>e.put (aa p) v) e) ((ps.zip us).foldl (λtmps (t,a)=>tmps.setIfInBounds t a) ts)
 |[],_,_,_,_,h,_=>h
 |p::ps,[],us,_,_,h,hr=>by rw[hr.of_nil];exact h
 |p::ps,v::args,us,e,ts,h,hr=>by
  obtain⟨u,pQ,rfl,h1,h2⟩:=hr.ti;simp only[List.zip_cons_cons,att];exact Mf (h.set h1 p) h2
theorem rE{l:Nat}{loc:Loc}{st:LoopState}{Am:Option Code}{f:FuncId}{tm:T IV}{tf:Nat}{ps:List Tmp}{oC bd:Code}{mM:Nat}(hi:Inv N ι σ w)(aE:σ.at l=aa (.loop st Am f tm tf ps oC bd mM))(hl:ι l 0=aa loc):
 ∃ld ts f',ι mM 0=aa ld/\w.heap[loc.b]?=aa (.loop {state:=st,pending:=Am,fn:=f',tmps:=ts,params:=ps.toArray,assign:=oC,body:=bd,defers:=ld.b})/\di ι ⟨tf,tm⟩ ts/\loc.b<w.heap.size:=by
 obtain⟨l',ld,ts,f',cu,hd,hh,hs,ht⟩:=hi.obj l _ aE;rw[hl]at cu;cases cu;exact⟨ld,ts,f',hd,hh,⟨hs.symm,ht⟩,hi.jc l _ ⟨0,loc,hl,rfl⟩⟩
theorem Yk(s:LoopState)(h:s≠.busy):(s==ayz)=af:=by cases s<;>first|rfl|exact absurd rfl h
theorem KC{l:Nat}{loc:Loc}{st l8:LoopState}{Am FK:Option Code}{f f':FuncId}{tm:T IV}{tf:Nat}{ps:List Tmp}{oC bd:Code}{mM:Nat}{ld:Loc}{ts:Array Value}(hi:Inv N ι σ w)(cF:ro<=l)
 (aE:σ.at l=aa (.loop st Am f tm tf ps oC bd mM))(hl:ι l 0=aa loc)(hd:ι mM 0=aa ld)(he:di ι ⟨tf,tm⟩ ts):
 let go:Go.Obj:=.loop {state:=l8,pending:=FK,fn:=f',tmps:=ts,params:=ps.toArray,assign:=oC,body:=bd,defers:=ld.b}
 Inv N ι (σ.put l (.loop l8 FK f tm tf ps oC bd mM)) {w with heap:=w.heap.setIfInBounds loc.b go}/\Le ro ι w σ ι {w with heap:=w.heap.setIfInBounds loc.b go} (σ.put l (.loop l8 FK f tm tf ps oC bd mM)):=by
 intro go;have ai:=hi.jc l _ ⟨0,loc,hl,rfl⟩;exact hi.kX aE cF hl ⟨loc,ld,ts,f',hl,hd,heap_set ai,he.1.symm,he.2⟩
theorem O0{l:Nat}{R:Ending->World->Prop}{ex:Ex}{ch:List PanicEntry}(hx:¬ex.adj=ab){a:Act}{w:World}(h:∃v w',(axC l (xW ex)).run P w=.ok v w'/\R (.returned v) w'):roundPost P l R (Hu ch ex) a w:=by
 cases ex<;>first|exact h|exact absurd rfl hx
theorem abv(hS:ir P S m)(hm:bZ S){l:Nat}{loc:Loc}{args:List IV}{us:List Value}{v:IV}{ao:St}(h:AI S ro l args σ=aa (v,ao))(hN:ao.n<=N)(hF:kM F rd ι)(hi:Inv N ι σ w)
 (hl:ι l 0=aa loc)(hr:aB ι args us):
 ∃f' ts oC bd,(ax5 loc.b us.toArray).run P w=.ok (.round loc.b f' ts oC bd) w/\RoundIn F 0 P loc.b f' ts oC bd w (w9 N ro ι w σ v ao):=by
 unfold AI at h;split at h
 ·rename_i state pending f tm tf params assign body mM aE;split at h
  ·cases h
  ·rename_i hc;have bN:args.length=params.length:=auO λhx=>hc (.inl hx);have gG:ro<=l:=auO λhx=>hc (.inr (.inl hx));have hc3:state=.ready:=auO λhx=>hc (.inr (.inr hx));simp only at h;split at h
   ·rename_i e1 aq h1;split at h
    ·rename_i abw f1 tm1 aga params1 Tf adk agb rf;split at h
     ·rename_i ex e2 dw h2;split at h
      ·cases h
      rename_i hnp;split at h
      ·rename_i st3 arX f3 tm3 ast params3 arE arY aok O1;cases h;obtain⟨ld,ts,f',hd,hh,he,ai⟩:=rE hi aE hl;have yl:dw.n<=N:=hN
       have dO:aq.n<=N:=by
        have:=hm _ _ _ _ _ _ _ _ h2;simp only[St.nS]at this;omega
       have aU:us.toArray.size=params.toArray.size:=by simp[<-hr.1,bN]
       refine⟨f',(params.zip us).foldl (λtmps (t,a)=>tmps.setIfInBounds t a) ts,assign,body,?_,?_⟩
       ·have hz:((params.toArray.zip us.toArray).foldl (λtmps (t,a)=>tmps.setIfInBounds t a) ts)=(params.zip us).foldl (λtmps (t,a)=>tmps.setIfInBounds t a) ts:=by simp[List.zip_toArray]
        simp only[ax5,asT,yk hh,asQ,aU,ne_eq,not_true_eq_false,if_false,as5,hz]
       ·refine roundIn_of_wpIn (hF.fn f') ?_;rw[hF.inRound];refine(hS N ro (aa l) f assign _ [] σ _ h1 dO (ato.inRound loc.b) ι {tmps:=_,defers:=[]} w _ (.inr ⟨l,loc,rfl,hl,rfl⟩) hi (Mf he hr) trivial ?_).wp;intro a1 w1 cq fc i1 l1 dc d1 p1;have rD:=l1.ext _ _ _ hl;obtain⟨ld1,ts1,f1',AS,ym,mP,eu⟩:=rE i1 rf rD;obtain⟨i2,l2⟩:=KC (ro:=ro) (l8:=.busy) (FK:=abw) (f':=f1') i1 gG rf rD AS mP;refine⟨_,by simp only[Instr.beginRound,asT,yk ym,asQ,eR (P:=P) ym (by simp),as5];rfl,?_⟩;refine(hS N ro (aa l) f body _ [] _ _ h2 yl (ato.inRound loc.b) cq a1 _ _ (.inr ⟨l,loc,rfl,rD,rfl⟩) i2 dc d1 ?_).wp;intro a2 w2 pj ch2 i3 l3 e2' d2 p2;refine O0 hnp ?_;have fa:=l3.ext _ _ _ rD;obtain⟨ld2,ts2,f2',Mg,tD,Dn,dZ⟩:=rE i3 O1 fa;obtain⟨i4,l4⟩:=KC (ro:=ro) (l8:=if(xW ex).isNone then .ready else .done) (FK:=xW ex) (f':=f2') i3 gG O1 fa Mg Dn;refine⟨.bool (xW ex).isNone,_,by simp only[axC,asT,yk tD,asQ,eR (P:=P) tD (by simp),as5];rfl,pj,?_,?_,?_⟩
        ·exact .raw _
        ·exact i4
        ·have O2:=Le.then i2 yl l3 l4;have l24:=Le.then i1 (by simp only[St.nS];exact dO) l2 O2;exact Le.then hi dO l1 l24
      ·cases h
     ·cases h
    ·cases h
   ·cases h
 ·cases h
end Go.Ev
namespace Go.Ev
variable{P:Program}{N ro m:Nat}{ι:Io}{w:World}{σ:St}{e:Env}{a:Act}{S:Self}{F:Fence}{rd:Option Nat}{Q:Exit->Act->World->Prop}
theorem iu{ρ:Operand->IV}{o:Oper}{out:eN}(h:av P ro ρ o σ=aa out)(hd:∀d,out≠.Te d):∀c,o.op≠.defer c:=by
 intro c hc;unfold av at h;rw[hc]at h;dsimp only at h;split at h
 ·split at h
  ·cases h;exact hd _ rfl
  ·cases h
 ·cases h
theorem AT(hS:ir P S m)(hC:eF P S)(hm:bZ S){o:Oper}{v:IV}{ao:St}{next:Act->World->Prop}(h:jP P S ro e o σ=aa (v,ao))(hN:ao.n<=N)(hF:kM F rd ι)(hi:Inv N ι σ w)
 (he:di ι e a.tmps)(hQ:∀u w' aG,Rv aG v u->Inv N aG ao w'->Le ro ι w σ aG w' ao->next (a.put o.dst u) w'):o.wpIn F 0 P a w next Q:=by
 refine⟨λf _=>hF.fn f,?_⟩;unfold jP at h;split at h
 ·rename_i v1 aq h1;cases h;rw[auC _ _ _ (iu h1 (by simp))];obtain⟨u,w',aG,hr,h2,h3,h4⟩:=pq hi he.eval h1 hN;rcases hr with hr|⟨hr,rfl⟩
  ·rw[hr,Oper.uponIn_value];exact hQ _ _ _ h2 h3 h4
  ·rw[hr,Oper.uponIn_skip];exact hQ _ _ _ h2 h3 h4
 ·rename_i f args h1;rw[auC _ _ _ (iu h1 (by simp))];obtain⟨us,hr,h2⟩:=pq hi he.eval h1;rw[hr,awh];refine⟨hF.depth,(hF.calls (hC.call N ro f args σ v ao h hN ι us w hi h2)).mono λe w' hR=>?_⟩;cases e with
  |returned u=>obtain⟨aG,h3,h4,h5⟩:=hR;exact hQ _ _ _ h3 h4 h5
  |panicked chain=>exact hR.elim
  |outgrown=>exact hR.elim
 ·rename_i l args h1;rw[auC _ _ _ (iu h1 (by simp))];obtain⟨loc,us,hl,hr,h2⟩:=pq hi he.eval h1;obtain⟨f',ts,oC,bd,h3,h4⟩:=abv (F:=F) hS hm h hN hF hi hl h2;rw[hr,h3,Oper.uponIn_round];refine⟨hF.depth,RoundIn.mono h4 λe w' hR=>?_⟩;cases e with
  |returned u=>obtain⟨aG,h3,h4,h5⟩:=hR;exact hQ _ _ _ h3 h4 h5
  |panicked chain=>exact hR.elim
  |outgrown=>exact hR.elim
 ·cases h
theorem IM(hS:ir P S m)(hC:eF P S)(hm:bZ S)(hk:bF S){ops:Array Oper}:∀{l:List Oper} {k:Nat} {e:Env} {df:List Df} {σ:St} {cr:CR} {ι:Io} {a:Act} {w:World},
 ops.toList.drop k=l->y9 P S ro rd ops l e df σ=aa cr->cr.σ.n<=N->kM F rd ι->Inv N ι σ w->di ι e a.tmps->ki ι df a.defers->nU N ro ι w σ cr Q->
 wpOpsIn F 0 P ops Q (avb k l.length) a w
 |[],k,e,df,σ,cr,ι,a,w,hl,h,hN,hF,hi,he,hd,hQ=>by
  cases h;exact hQ a w ι [] hi (Le.refl _ _ _ _) he hd trivial
 |o::rest,k,e,df,σ,cr,ι,a,w,hl,h,hN,hF,hi,he,hd,hQ=>by
  have gr:ops.toList.drop (k+1)=rest:=by
   rw[<-avu (i:=1) (j:=k),hl];rfl
  have bz:ops[k]?=aa o:=by
   have:(ops.toList.drop k)[0]?=aa o:=by rw[hl];rfl
   simpa using this
  simp only[atG,awr];rw[wpOpsIn_cons];unfold wpOpIn;rw[bz];simp only;unfold y9 at h;rw[sN he];split at h
  ·rename_i hw;rw[if_pos hw];split at h
   ·rename_i v aq h1;have dO:aq.n<=N:=atd (yj hm hk h) hN;refine AT hS hC hm h1 dO hF hi he λu w' aG hv i1 l1=>?_;exact IM hS hC hm hk gr h hN (hF.mono l1.ext) i1 ((he.mono l1.ext).put hv _) (hd.mono l1.ext|>λx=>by cases o.dst<;>exact x) (hQ.from hi l1 dO)
   ·split at h
    ·rename_i d h1;split at h
     ·rename_i jR;have hrn:rd=ah:=by cases rd with|none=>rfl|some _=>cases jR
      have Yl:F=ato:=by
       rcases hF with⟨_,h2⟩|⟨_,_,h2,_⟩
       ·exact h2
       ·rw[hrn]at h2;cases h2
      refine⟨λf _=>hF.fn f,?_⟩;obtain⟨dd,hr,yn,c,hc⟩:=pq hi he.eval h1;have abx:(o.semAt F.round a.eval)=execOp a.eval o:=by rw[Yl];rfl
      rw[abx,hr,Oper.uponIn_defer];refine IM hS hC hm hk gr h hN hF hi ?_ ?_ hQ
      ·cases gl:o.dst with
       |none=>exact he
       |some t=>exact he.set sj t
      ·cases o.dst<;>exact⟨yn,hd⟩
     ·cases h
    ·rename_i f args h1;split at h
     ·rename_i v aq h2;cases h;refine⟨λf _=>hF.fn f,?_⟩;rw[auC _ _ _ (iu h1 (by simp))];obtain⟨us,hr,h3⟩:=pq hi he.eval h1;rw[hr,awh];refine⟨hF.depth,(hF.calls (hC.b_ N ro f args σ v aq h2 hN ι us w hi h3)).mono λed w' hR=>?_⟩;cases ed with
      |returned u=>exact hR.elim
      |outgrown=>exact hR.elim
      |panicked chain=>
       obtain⟨aG,h4,h5,h6⟩:=hR;exact hQ a w' aG chain h5 h6 (he.mono h6.ext) (hd.mono h6.ext) h4
     ·cases h
    ·rename_i v h1;cases h;refine⟨λf _=>hF.fn f,?_⟩;rw[auC _ _ _ (iu h1 (by simp))];obtain⟨u,hr,h3⟩:=pq hi he.eval h1;rw[hr,Oper.uponIn_panic];exact hQ a w ι [{v:=u,recovered:=af}] hi (Le.refl _ _ _ _) he hd ⟨u,rfl,h3⟩
    ·cases h
  ·rename_i hw;rw[if_neg hw];exact⟨λf _=>hF.fn f,IM hS hC hm hk gr h hN hF hi (he.put sj _) (by cases o.dst<;>exact hd) hQ⟩
def O3(P:Program)(S:Self):Prop:=∀N ro rd ops e df σ cr,OB P S ro ops e df σ=aa cr->cr.σ.n<=N->∀F ι a w Q id,kM F rd ι->Inv N ι σ w->di ι e a.tmps->ki ι df a.defers->
 nU N ro ι w σ cr Q->(Code.region id ops ab).wpIn F 0 P Q a w
theorem Hv{x:IV}{b:Bool}{u:Value}(hx:x=.raw (.bool b))(h:Rv ι x u):u=.bool b:=by subst hx;cases h;rfl
theorem ki.append:∀{ds:List Df} {xs:List Deferred} {mQ:List Df} {oD:List Deferred},ki ι ds xs->ki ι mQ oD->ki ι (ds++mQ) (xs++oD)
 |[],[],_,_,_,h=>h
 |_::_,_::_,_,_,h,h'=>⟨h.1,ki.append h.2 h'⟩
 |[],_::_,_,_,h,_=>h.elim
 |_::_,[],_,_,h,_=>h.elim
def O4(rd:Option Nat)(σ:St):Option (Nat×St×List Df):=
 match rd with
 |none=>aa (σ.n,σ.add (.GK af),[.DQ σ.n])
 |some l=>match σ.at l with
  |some (.loop _ _ _ _ _ _ _ _ mM)=>aa (mM,σ,[])
  |_=>ah
theorem aby{mM:Nat}{aq:St}{mark:List Df}(h:O4 rd σ=aa (mM,aq,mark))(hN:aq.n<=N)(hF:kM F rd ι)(hi:Inv N ι σ w):
 ∃w1 cq ld marks,Inv N cq aq w1/\Le ro ι w σ cq w1 aq/\cq mM 0=aa ld/\ki cq mark marks/\
  ∀fn ts ps oC bd,(awo fn ts ps oC bd F.round).run P w=.ok (w1.heap.size,marks) {w1 with heap:=w1.heap.push (.loop {state:=.ready,pending:=ah,fn,tmps:=ts,params:=ps,assign:=oC,body:=bd,defers:=ld.b})}:=by
 unfold O4 at h;split at h
 ·cases h
  have Yl:F.round=ah:=by
   rcases hF with⟨_,rfl⟩|⟨_,_,h,_⟩
   ·rfl
   ·cases h
  obtain⟨h1,h2⟩:=hi.D5 (ro:=ro) (go:=.deferred (aa [])) (ob:=.GK af) (by simp at hN;omega) ⟨_,cj _ _ _ _,by simp⟩;refine⟨_,_,⟨w.heap.size,1,1⟩,[{target:=.collected w.heap.size,args:= #[]}],h1,h2,cj _ _ _ _,⟨⟨_,cj _ _ _ _,rfl⟩,trivial⟩,λfn ts ps oC bd=>?_⟩;rw[Yl];simp only[awo,asT,run_newObj,asQ,as5]
 ·rename_i l;split at h
  ·rename_i aE;cases h;rcases hF with⟨h,_⟩|⟨l',loc,h,hl,rfl⟩
   ·cases h
   ·cases h;obtain⟨ld,ts,f',hd,hh,he,ai⟩:=rE hi aE hl;refine⟨w,ι,ld,[],hi,Le.refl _ _ _ _,hd,trivial,λfn ts ps oC bd=>?_⟩;simp only[awo,axJ,asT,yk hh,run_newObj,asQ,as5]
  ·cases h
theorem abz(hS:ir P S m)(hC:eF P S)(hm:bZ S)(hk:bF S){fn:FuncId}{g:Operand}{ps:Array Tmp}{oC bd:Code}{df:List Df}{cr:CR}
 (h:wa P S ro rd fn (.rangeFunc g ps oC bd) e df σ=aa cr)(hN:cr.σ.n<=N)(hF:kM F rd ι)(hi:Inv N ι σ w)(he:di ι e a.tmps)(hd:ki ι df a.defers)(hQ:nU N ro ι w σ cr Q):
 (Code.rangeFunc g ps oC bd).wpIn F 0 P Q a w:=by
 unfold wa at h;dsimp only at h
 change(match O4 rd σ with
  |some (mM,σ,mark)=>_
  |none=>ah)=aa cr at h
 split at h
 ·rename_i mM aq mark pw;split at h
  ·rename_i f args iV;split at h
   ·rename_i v3 wi adm;split at h
    ·rename_i st Am f3 tm tf ps3 as3 bd3 aok O1;split at h
     ·cases h
     ·rename_i hb;have cN:st≠.busy:=λhx=>hb (.inl hx);have fk:ro<=aq.n:=auO λhx=>hb (.inr hx)
      have O5:wi.n<=N:=by
       split at h
       ·cases h;exact hN
       ·have:=hm _ _ _ _ _ _ _ _ h;simp only[St.nS]at this;omega
      have yl:=hk.call _ _ _ _ _ _ adm;simp only[St.lC]at yl;obtain⟨w1,cq,ld,marks,i1,l1,AU,O6,D9⟩:=aby (P:=P) (ro:=ro) pw (by omega) hF hi;refine wpIn_rangeFunc λfn' _=>?_;have kz:=i1.fresh aq.n (asR _) (by omega) 0;have jD:=k_ (l:=⟨w1.heap.size,1,1⟩) kz
      obtain⟨i2,l2⟩:=i1.D5 (ro:=ro) (go:=.loop {state:=.ready,pending:=ah,fn:=fn',tmps:=a.tmps,params:=ps,assign:=oC,body:=bd,defers:=ld.b}) (ob:=.loop .ready ah fn e.t e.n ps.toList oC bd mM) (by omega)
       ⟨⟨w1.heap.size,1,1⟩,ld,a.tmps,fn',cj _ _ _ _,jD _ _ _ AU,by simp,he.1.symm,λt=>((he.2 t).mono l1.ext).mono jD⟩
      have fa:dS cq aq.n 0 ⟨w1.heap.size,1,1⟩ aq.n 0=aa ⟨w1.heap.size,1,1⟩:=cj _ _ _ _;generalize O7:({w1 with heap:=w1.heap.push (.loop {state:=.ready,pending:=ah,fn:=fn',tmps:=a.tmps,params:=ps,assign:=oC,body:=bd,defers:=ld.b})}:World)=w2 at i2 l2;generalize dS cq aq.n 0 ⟨w1.heap.size,1,1⟩=pj at i2 l2 fa jD;obtain⟨d,eE,ek⟩:=D6 (w:=w2) (((he.mono l1.ext).mono jD).eval g) (aB.cons (.AG aq.n _ fa) aB.nil) iV;rcases ek with⟨f',as,vs,ic,hinv,ij,_⟩|⟨_,_,ic,_⟩
      ·cases ic;refine⟨w1.heap.size,marks,w2,d,w2,f,vs.toArray,w2,by rw[D9,O7],?_,λf' _=>hF.fn f',hinv,hF.depth,?_⟩
       ·simpa[resolve,rangeCall,Act.eval]using eE
       ·refine(hF.calls (hC.call N ro f args _ _ _ adm O5 pj vs w2 i2 ij)).mono λed w3 hR=>?_;cases ed with
        |panicked chain=>exact hR.elim
        |outgrown=>exact hR.elim
        |returned u=>
         obtain⟨ι3,_,i3,l3⟩:=hR;have GS:=l3.ext _ _ _ fa;obtain⟨ld3,ts3,f3',hd3,hh3,Ts,D_⟩:=rE i3 O1 GS;obtain⟨i4,l4⟩:=KC (ro:=ro) (l8:=.exhausted) (FK:=Am) (f':=f3') i3 fk O1 GS hd3 Ts;refine⟨Am,_,by simp only[Instr.endLoop,asT,yk hh3,asQ,Yk st cN,atn,if_false,eR (P:=P) hh3 (by simp),as5];rfl,?_⟩;have l34:=Le.then i2 O5 l3 l4;have l24:=Le.then i1 (by simp only[St.lC];omega) l2 l34;have O2:=Le.then hi (by omega) l1 l24;have e4:di ι3 e a.tmps:=he.mono O2.ext;have d4:ki ι3 (mark++df) (marks++a.defers):=(O6.mono l24.ext).append (hd.mono O2.ext);split at h
         ·cases h;exact hQ _ _ _ [] i4 O2 e4 d4 trivial
         ·rename_i c;exact(hS N ro rd fn c e _ _ cr h hN F ι3 {a with defers:=marks++a.defers} _ Q (hF.mono O2.ext) i4 e4 d4 (hQ.from hi O2 (by simp only[St.nS];exact O5))).wp
      ·cases ic
    ·cases h
   ·cases h
  ·cases h
 ·cases h
theorem Tt(hS:ir P S m)(hC:eF P S)(hm:bZ S)(hk:bF S)(hD:O3 P S):ir P (lY P S) (m+1):=by
 intro N ro rd fn c e df σ cr h hN F ι a w Q hF hi he hd hQ;change wa P S ro rd fn c e df σ=aa cr at h;cases c<;>unfold wa at h<;>dsimp only at h
 case skip=>cases h;exact wpIn_skip (hQ a w ι [] hi (Le.refl _ _ _ _) he hd trivial)
 case label=>cases h;exact wpIn_label (hQ a w ι [] hi (Le.refl _ _ _ _) he hd trivial)
 case exit=>cases h;exact wpIn_exit (hQ a w ι [] hi (Le.refl _ _ _ _) he hd trivial)
 case goto=>cases h;exact wpIn_goto (hQ a w ι [] hi (Le.refl _ _ _ _) he hd trivial)
 case ret=>cases h;exact wpIn_ret (hQ a w ι [] hi (Le.refl _ _ _ _) he hd trivial)
 case refuse=>cases h
 case region id ops draw=>
  split at h
  ·rename_i II;subst II;exact hD N ro rd ops e df σ cr h hN F ι a w Q id hF hi he hd hQ
  ·rename_i II;have:draw=af:=by simpa using II
   subst this;refine wpIn_region ?_;have:=IM (k:=0) hS hC hm hk (by simp) h hN hF hi he hd hQ;rw[aw2];simpa using this
 case seq x y=>
  refine wpIn_seq ?_;split at h
  ·rename_i e1 wU aq h1;have dO:aq.n<=N:=atd (hm _ _ _ _ _ _ _ _ h) hN;refine(hS N ro rd fn x e df σ _ h1 dO F ι a w _ hF hi he hd ?_).wp;intro a1 w1 cq fc i1 l1 dc d1 p1;exact(hS N ro rd fn y _ _ _ _ h hN F cq a1 w1 Q (hF.mono l1.ext) i1 dc d1 (hQ.from hi l1 dO)).wp
  ·rename_i bC;refine(hS N ro rd fn x e df σ _ h hN F ι a w _ hF hi he hd ?_).wp;intro a1 w1 cq fc i1 l1 dc d1 p1;have:=hQ a1 w1 cq fc i1 l1 dc d1 p1;cases hx:cr.ex with
   |normal=>exact absurd (by rw[h];cases cr;cases hx;rfl) (bC cr.e cr.df cr.σ)
   |exit id=>rw[hx]at this;exact this
   |goto l=>rw[hx]at this;exact this
   |ret=>rw[hx]at this;exact this
   |b_ v=>rw[hx]at this;exact this
 case cond c x y=>
  split at h
  ·rename_i t ht;have hc:=Hv ht (he.eval c);exact wpIn_cond hc (hS N ro rd fn _ e df σ cr h hN F ι a w Q hF hi he hd hQ).wp
  ·cases h
 case block id x=>
  refine wpIn_block ?_;split at h
  ·rename_i bB e1 wU aq h1
   have dO:aq.n<=N:=by
    split at h<;>(cases h;exact hN)
   refine(hS N ro rd fn x e df σ _ h1 dO F ι a w _ hF hi he hd ?_).wp;intro a1 w1 cq fc i1 l1 dc d1 p1;simp only[Hu,Exit.inBlock];split at h
   ·rename_i hid;cases h;rw[if_pos hid];exact hQ a1 w1 cq fc i1 l1 dc d1 p1
   ·rename_i hid;cases h;rw[if_neg hid];exact hQ a1 w1 cq fc i1 l1 dc d1 p1
  ·rename_i bC;refine(hS N ro rd fn x e df σ _ h hN F ι a w _ hF hi he hd ?_).wp;intro a1 w1 cq fc i1 l1 dc d1 p1;have:=hQ a1 w1 cq fc i1 l1 dc d1 p1;cases hx:cr.ex with
   |exit bB=>exact absurd (by rw[h];cases cr;cases hx;rfl) (bC bB cr.e cr.df cr.σ)
   |normal=>rw[hx]at this;exact this
   |goto l=>rw[hx]at this;exact this
   |ret=>rw[hx]at this;exact this
   |b_ v=>rw[hx]at this;exact this
 case loop x=>
  show axV F 0 P x Q (m+1) a w;rw[roundsIn_succ];split at h
  ·rename_i e1 wU aq h1;have dO:aq.n<=N:=atd (hm _ _ _ _ _ _ _ _ h) hN;refine(hS N ro rd fn x e df σ _ h1 dO F ι a w _ hF hi he hd ?_).wp;intro a1 w1 cq fc i1 l1 dc d1 p1;exact hS N ro rd fn (.loop x) _ _ _ _ h hN F cq a1 w1 Q (hF.mono l1.ext) i1 dc d1 (hQ.from hi l1 dO)
  ·rename_i bC;refine(hS N ro rd fn x e df σ _ h hN F ι a w _ hF hi he hd ?_).wp;intro a1 w1 cq fc i1 l1 dc d1 p1;have:=hQ a1 w1 cq fc i1 l1 dc d1 p1;cases hx:cr.ex with
   |normal=>exact absurd (by rw[h];cases cr;cases hx;rfl) (bC cr.e cr.df cr.σ)
   |exit id=>rw[hx]at this;exact this
   |goto l=>rw[hx]at this;exact this
   |ret=>rw[hx]at this;exact this
   |b_ v=>rw[hx]at this;exact this
 case scope x=>
  refine IK ?_;split at h
  ·cases h
  ·rename_i bC;refine(hS N ro rd fn x e df σ _ h hN F ι a w _ hF hi he hd ?_).wp;intro a1 w1 cq fc i1 l1 dc d1 p1;have:=hQ a1 w1 cq fc i1 l1 dc d1 p1;cases hx:cr.ex with
   |goto l=>exact absurd (by rw[h];cases cr;cases hx;rfl) (bC l cr.e cr.df cr.σ)
   |normal=>rw[hx]at this;exact this
   |exit id=>rw[hx]at this;exact this
   |ret=>rw[hx]at this;exact this
   |b_ v=>rw[hx]at this;exact this
 case rangeFunc g params assign body=>
  exact abz hS hC hm hk (by unfold wa;exact h) hN hF hi he hd hQ
end Go.Ev
namespace Go.Ev
variable{P:Program}{N ro m:Nat}{ι:Io}{w:World}{σ:St}{e:Env}{a:Act}{S:Self}{F:Fence}{rd:Option Nat}{Q:Exit->Act->World->Prop}
theorem Tu{m:Option IV}{u:FrameMode}(h:px ι m u):u≠.run:=by
 cases m with
 |none=>rw[show u=_ from h];simp
 |some v=>obtain⟨x,rfl,_⟩:=h;simp
theorem sn(hC:eF P S)(hk:bF S){fn:Func}{ts:Array Value}{R:Ending->World->Prop}:∀{df:List Df} {ds:List Deferred} {σ ao:St} {m m':Option IV} {u:FrameMode} {ι:Io} {w:World},gi S ro df m σ=aa (m',ao)->
 ki ι df ds->px ι m u->Inv N ι σ w->ao.n<=N->
 (∀w' aG u',Inv N aG ao w'->Le ro ι w σ aG w' ao->px aG m' u'->LeavesIn ato 0 P fn ts R [] u' w')->LeavesInM ato 0 P fn ts R ds u w
 |[],[],σ,ao,m,m',u,ι,w,h,_,hu,hi,_,hQ=>by
  cases h;exact hQ w ι u hi (Le.refl _ _ _ _) hu
 |.DQ id::df,d::ds,σ,ao,m,m',u,ι,w,h,hd,hu,hi,hn,hQ=>by
  unfold gi at h;obtain⟨⟨l,hl,rfl⟩,wj⟩:=hd;split at h
  ·rename_i aE;split at h
   ·rename_i cF;obtain⟨l',cu,hh⟩:=hi.obj id _ aE;rw[hl]at cu;cases cu;have ai:=hi.jc id _ ⟨0,l,hl,rfl⟩;obtain⟨i1,l1⟩:=hi.kX (ro:=ro) (go:=.deferred ah) (eT:=.GK ab) aE cF hl ⟨l,hl,heap_set ai⟩;have nb:=kB hk h;simp only[St.nS]at nb;refine⟨Tu hu,.inl ⟨l.b,_,rfl,?_,sn hC hk h wj hu i1 hn λw' aG u' i2 l2 zf=>hQ w' aG u' i2 (Le.then hi (by simp only[St.nS];omega) l1 l2) zf⟩⟩;simp only[Instr.takeDeferred,asT,bW (P:=P) hh (by simp),asQ,atn,if_false,eR (P:=P) hh (by simp),as5]
   ·cases h
  ·cases h
 |.call f args::df,d::ds,σ,ao,m,m',u,ι,w,h,hd,hu,hi,hn,hQ=>by
  unfold gi at h;obtain⟨⟨cap,us,vs,rfl,ij,fO⟩,wj⟩:=hd;split at h
  ·rename_i m1 aq h1;have nb:=kB hk h;have hc:=hC.wP N ro f args m σ m1 aq h1 (by omega) ι vs u w hu hi ij;refine⟨Tu hu,.inr ⟨by simp[ato],.func f,cap.toArray,f,vs.toArray,rfl,?_,λg _=>trivial,?_⟩⟩
   ·obtain⟨fn',bV,hb⟩:=hC.na ro f args m σ m1 aq h1;simp only[invoke];rw[vt bV hb,fO];simp
   ·refine hc.mono λe u' w' hR=>?_;cases e with
    |returned v=>
     obtain⟨cq,yo,i1,l1⟩:=hR;exact sn hC hk h (wj.mono l1.ext) yo i1 hn λw2 pj u2 i2 l2 rF=>hQ w2 pj u2 i2 (Le.then hi (by omega) l1 l2) rF
    |panicked chain=>exact hR.elim
    |outgrown=>exact hR.elim
  ·cases h
 |[],_::_,_,_,_,_,_,_,_,_,h,_,_,_,_=>h.elim
 |.DQ _::_,[],_,_,_,_,_,_,_,_,h,_,_,_,_=>h.elim
 |.call _ _::_,[],_,_,_,_,_,_,_,_,h,_,_,_,_=>h.elim
def Aq(P:Program)(e:Env)(σ:St)(r:ResultVar):Option IV:=
 match r with
 |.tmp t=>aa (e.at t)
 |.cell a t=>match e.at a with
  |.ptr id off ep ext=>match aN P t,σ.at id with
   |some s,aa (.cells cs ay mn)=>if s<=ext/\mn<=ep/\ep<=ay then partOf P t cs off else ah
   |_,_=>ah
  |_=>ah
def KD(ts:Array Value)(r:ResultVar):Sem Value:=
 match r with
 |.tmp t=>pure (ts.getD t atC)
 |.cell a t=>do loadVar t (<-asAddr (ts.getD a atC))
theorem agp{ts:Array Value}{r:ResultVar}{v:IV}(h:Aq P e σ r=aa v)(hi:Inv N ι σ w)(he:di ι e ts):∃u,(KD ts r).run P w=.ok u w/\Rv ι v u:=by
 unfold Aq at h;unfold KD;cases r with
 |tmp t=>cases h;exact⟨_,by simp only[as5],he.2 t⟩
 |cell a t=>
  simp only at h⊢;have hr:=he.2 a;split at h
  ·rename_i id off ep ext hx;rw[hx]at hr;split at h
   ·rename_i s cs ay mn hs aE;split at h
    ·rename_i hc;obtain⟨ad,x,hu,h1,h2⟩:=DV hi hs aE hc.1 hc.2.1 hc.2.2 h hr;refine⟨x,?_,h2⟩;rw[hu];simp only[asAddr,asT,as5,asQ,h1]
    ·cases h
   ·cases h
  ·cases h
theorem Tv{ts:Array Value}(hi:Inv N ι σ w)(he:di ι e ts):∀{rs:List ResultVar} {vs:List IV},rs.mapM (Aq P e σ)=aa vs->∃us,(rs.mapM (KD ts)).run P w=.ok us w/\aB ι vs us
 |[],vs,h=>by
  simp only[awM]at h;cases h;exact⟨[],by simp only[awM,as5],aB.nil⟩
 |r::rs,vs,h=>by
  rw[auS]at h;cases h1:Aq P e σ r with
  |none=>rw[h1]at h;cases h
  |some v=>
   rw[h1]at h;cases h2:rs.mapM (Aq P e σ)with
   |none=>rw[h2]at h;cases h
   |some wQ=>
    rw[h2]at h;cases h;obtain⟨u,k1,k2⟩:=agp h1 hi he;obtain⟨us,k3,k4⟩:=Tv hi he h2;exact⟨u::us,by simp only[auS,asT,k1,asQ,k3,as5],aB.cons k2 k4⟩
theorem VY(fn:Func)(ts:Array Value):results fn ts=(do
 let vs<-fn.results.mapM (KD ts)
 pure (if h:vs.size=1 then vs[0]else .tuple vs)):=by
 unfold results
 have:(λr:ResultVar=>(match r with|.tmp t=>pure (ts.getD t atC)|.cell a t=>do loadVar t (<-asAddr (ts.getD a atC)):Sem Value))=KD ts:=by
  funext r;cases r<;>rfl
 rw[<-this];rfl
theorem SY{fn:Func}{v:IV}(h:bJ P fn e σ=aa v):∃vs,fn.results.toList.mapM (Aq P e σ)=aa vs/\((∃x,vs=[x]/\v=x)\/(vs.length≠1/\v=.az vs)):=by
 unfold bJ at h;dsimp only at h
 change(match fn.results.toList with
  |[r]=>Aq P e σ r
  |l=>match l.mapM (Aq P e σ)with
   |some vs=>aa (.az vs)
   |none=>ah)=aa v at h
 split at h
 ·rename_i r hl;exact⟨[v],by rw[hl,auS,h];rfl,.inl ⟨v,rfl,rfl⟩⟩
 ·rename_i hl;split at h
  ·rename_i vs ij;cases h;refine⟨vs,ij,.inr ⟨λhlen=>?_,rfl⟩⟩
   have rD:fn.results.toList.length=vs.length:=by
    clear hl hlen;generalize fn.results.toList=l at ij;induction l generalizing vs with
    |nil=>cases ij;rfl
    |cons r rs ih=>
     rw[auS]at ij;cases h1:Aq P e σ r with
     |none=>rw[h1]at ij;cases ij
     |some v=>
      rw[h1]at ij;cases h2:rs.mapM (Aq P e σ)with
      |none=>rw[h2]at ij;cases ij
      |some wQ=>
       rw[h2]at ij;cases ij;simp[ih _ h2]
   cases hc:fn.results.toList with
   |nil=>rw[hc]at rD;simp at rD;omega
   |cons r rs=>
    cases rs with
    |nil=>exact hl r hc
    |cons r2 rs2=>rw[hc]at rD;simp at rD;omega
  ·cases h
theorem tE{fn:Func}{ts:Array Value}{v:IV}(h:bJ P fn e σ=aa v)(hi:Inv N ι σ w)(he:di ι e ts):∃u,(results fn ts).run P w=.ok u w/\Rv ι v u:=by
 obtain⟨vs,ij,h⟩:=SY h;obtain⟨us,h1,h2⟩:=Tv hi he ij
 have hm:(fn.results.mapM (KD ts)).run P w=.ok us.toArray w:=by
  rw[Array.mapM_eq_mapM_toList,Sem.run_map,h1];rfl
 rw[VY];simp only[asT,hm,asQ,as5];refine⟨_,rfl,?_⟩;rcases h with⟨x,rfl,rfl⟩|⟨hlen,rfl⟩
 ·obtain⟨u,rfl,hu⟩:=uZ h2;simpa using hu
 ·have:¬us.toArray.size=1:=by rw[List.size_toArray,<-h2.1];exact hlen
  rw[dif_neg this];exact qu h2
theorem O8:∀{args:List IV} {us:List Value} {k:Nat} {e:Env} {ts:Array Value},di ι e ts->aB ι args us->
 di ι ((args.zipIdx k).foldl (λe (v,i)=>e.put (aa i) v) e) ((us.zipIdx k).foldl (λts (u,i)=>ts.setIfInBounds i u) ts)
 |[],us,k,e,ts,h,hr=>by rw[hr.of_nil];exact h
 |v::args,us,k,e,ts,h,hr=>by
  obtain⟨u,pQ,rfl,h1,h2⟩:=hr.ti;simp only[awi,att];exact O8 (h.set h1 k) h2
theorem IN:∀(us:List Value) (k:Nat) (ts:Array Value),k+us.length<=ts.size->(us.zipIdx k).foldl (λts (u,i)=>ts.setIfInBounds i u) ts=(ts.toList.take k++us++ts.toList.drop (k+us.length)).toArray
 |[],k,ts,_=>by simp
 |u::us,k,ts,h=>by
  simp only[awi,att];simp only[atG]at h;rw[IN us (k+1) _ (by simp;omega)]
  congr 1
  simp only[Array.toList_setIfInBounds,atG]
  have h1:(ts.toList.set k u).take (k+1)=ts.toList.take k++[u]:=by
   have hk:k<ts.toList.length:=by simp;omega
   rw[List.take_add_one,List.getElem?_set_self hk];simp[List.take_set_of_le]
  have h2:(ts.toList.set k u).drop (k+1+us.length)=ts.toList.drop (k+(us.length+1)):=by
   rw[List.drop_set_of_lt (by omega)]
   congr 1
   omega
  rw[h1,h2];simp
theorem aeX(n:Nat):di ι ⟨n,.lf⟩ (aub n atC):=by
 refine⟨by simp,λt=>?_⟩
 have:(aub n atC).getD t atC=atC:=by
  rw[Array.getD_eq_getD_getElem?,Array.getElem?_replicate];split<;>rfl
 rw[this];exact .raw _
theorem yp{args:List IV}{us:List Value}{n:Nat}(hr:aB ι args us)(hn:args.length<=n):
 di ι (args.zipIdx.foldl (λe (v,i)=>e.put (aa i) v) ⟨n,.lf⟩) (us.toArray++aub (n- us.toArray.size) atC):=by
 have h:=O8 (k:=0) (aeX (ι:=ι) n) hr;have hl:=hr.1;rw[IN us 0 _ (by simp;omega)]at h
 have:(us.toArray++aub (n- us.toArray.size) atC)=((aub n atC).toList.take 0++us++(aub n atC).toList.drop (0+us.length)).toArray:=by
  simp
 rw[this];exact h
theorem Tw(hS:ir P S m)(hC:eF P S)(hm:bZ S)(hk:bF S){f:FuncId}{args:List IV}{Ym:Func}{e':Env}{mo:Option IV}{ao:St}{us:List Value}{R:Ending->World->Prop}
 (h:AK P S ro f args σ=aa (Ym,e',mo,ao))(hN:ao.n<=N)(hi:Inv N ι σ w)(hr:aB ι args us)
 (hQ:∀ts w' aG u',Inv N aG ao w'->Le ro ι w σ aG w' ao->di aG e' ts->px aG mo u'->LeavesIn ato 0 P Ym ts R [] u' w'):CallsIn ato 0 P f us.toArray w R:=by
 unfold AK at h;split at h
 ·rename_i fn bV;split at h
  ·rename_i c hb;split at h
   ·cases h
   ·rename_i hlen;simp only at h
    have key:∀{ex:Ex} {e1:Env} {df:List Df} {aq:St} {mi:Option IV},S.code ro ah f c (args.zipIdx.foldl (λe (v,i)=>e.put (aa i) v) ⟨fn.ntmps,.lf⟩) [] σ=aa ⟨ex,e1,df,aq⟩->
     (((ex=.normal\/ex=.ret)/\mi=ah)\/∃v,ex=.b_ v/\mi=aa v)->
     (match gi S ro df mi aq with
      |some (m,σ)=>aa (fn,e1,m,σ)
      |none=>ah)=aa (Ym,e',mo,ao)->CallsIn ato 0 P f us.toArray w R:=by
     intro ex e1 df aq mi h1 hex h;split at h
     ·rename_i m2 dw h2;obtain⟨rfl,rfl,rfl,rfl⟩:fn=Ym/\e1=e'/\m2=mo/\dw=ao:=by cases h;exact⟨rfl,rfl,rfl,rfl⟩
      clear h;have nb:=kB hk h2;have dO:aq.n<=N:=by omega
      refine callsIn_of_wp_marks bV hb trivial ?_;refine(hS N ro ah f c _ [] σ _ h1 dO ato ι {tmps:=us.toArray++aub (fn.ntmps- us.toArray.size) atC,defers:=[]} w _ (.inl ⟨rfl,rfl⟩) hi (yp hr (by omega)) trivial ?_).wp;intro a1 w1 cq fc i1 l1 dc d1 p1
      have:∀u,px cq mi u->LeavesInM ato 0 P fn a1.tmps R a1.defers u w1:=λu hu=>
       sn hC hk h2 d1 hu i1 hN λw2 pj u2 i2 l2 rF=>hQ a1.tmps w2 pj u2 i2 (Le.then hi dO l1 l2) (dc.mono l2.ext) rF
      rcases hex with⟨rfl|rfl,rfl⟩|⟨v,rfl,rfl⟩
      ·exact this _ rfl
      ·exact this _ rfl
      ·obtain⟨u,rfl,hu⟩:=p1;exact this _ ⟨u,rfl,hu⟩
     ·cases h
    split at h
    ·rename_i h1;exact key h1 (.inl ⟨.inl rfl,rfl⟩) h
    ·rename_i h1;exact key h1 (.inl ⟨.inr rfl,rfl⟩) h
    ·rename_i h1;exact key h1 (.inr ⟨_,rfl,rfl⟩) h
    ·cases h
  ·cases h
 ·cases h
def rT(ι:Io):Option IV->FrameMode->Prop
 |none,u=>u=.returning\/∃x,u=.panicking [{v:=x,recovered:=ab}]
 |some v,u=>∃x,u=.panicking [{v:=x,recovered:=af}]/\Rv ι v x
theorem rT.of{m:Option IV}{u:FrameMode}(h:px ι m u):rT ι m u:=by
 cases m with
 |none=>exact .inl h
 |some v=>exact h
theorem rT.mono{aG:Io}(gY:Ext ι aG){m:Option IV}{u:FrameMode}(h:rT ι m u):rT aG m u:=by
 cases m with
 |none=>exact h
 |some v=>obtain⟨x,h1,h2⟩:=h;exact⟨x,h1,h2.mono gY⟩
theorem rT.settle{m:Option IV}{u:FrameMode}(h:rT ι m u):px ι m (Go.settle u):=by
 cases m with
 |none=>
  rcases h with rfl|⟨x,rfl⟩
  ·rfl
  ·rfl
 |some v=>obtain⟨x,rfl,h2⟩:=h;exact⟨x,rfl,h2⟩
def N9(N ro:Nat)(ι:Io)(w:World)(σ:St)(cr:CR)(m:Option IV)(c0:Frame)(qQ:List Frame)(Q:Exit->Act->List Frame->World->Prop):Prop:=
 ∀a' w' aG u' ch,Inv N aG cr.σ w'->Le ro ι w σ aG w' cr.σ->di aG cr.e a'.tmps->ki aG cr.df a'.defers->VW aG ch cr.ex->rT aG m u'->Q (Hu ch cr.ex) a' ({c0 with mode:=u'}::qQ) w'
theorem xK{ops:Array Oper}{Q:Exit->Act->List Frame->World->Prop}{c0:Frame}{qQ:List Frame}:∀{l:List Oper} {k:Nat} {e:Env} {σ:St} {e':Env} {mo oE:Option IV} {ao:St} {ι:Io} {a:Act} {u:FrameMode} {w:World},
 ops.toList.drop k=l->oB P ro ops l e mo σ=aa (e',oE,ao)->ao.n<=N->Inv N ι σ w->di ι e a.tmps->a.defers=[]->rT ι mo u->N9 N ro ι w σ ⟨.normal,e',[],ao⟩ oE c0 qQ Q->
 wpOpsSIn ato 0 P ops Q (avb k l.length) a ({c0 with mode:=u}::qQ) w
 |[],k,e,σ,e',mo,oE,ao,ι,a,u,w,hl,h,hN,hi,he,hd,hu,hQ=>by
  cases h;exact hQ a w ι u [] hi (Le.refl _ _ _ _) he (by rw[hd];trivial) trivial hu
 |o::rest,k,e,σ,e',mo,oE,ao,ι,a,u,w,hl,h,hN,hi,he,hd,hu,hQ=>by
  have gr:ops.toList.drop (k+1)=rest:=by
   rw[<-avu (i:=1) (j:=k),hl];rfl
  have bz:ops[k]?=aa o:=by
   have:(ops.toList.drop k)[0]?=aa o:=by rw[hl];rfl
   simpa using this
  simp only[atG,awr];unfold wpOpsSIn;rw[bz];simp only;refine⟨λf _=>trivial,?_⟩;have Hw:∀v,(a.put o.dst v).defers=[]:=λv=>by cases o.dst<;>exact hd
  unfold oB at h;rw[sN he];split at h
  ·rename_i hw;rw[if_pos hw];split at h
   ·rename_i BN
    have hex:(execOp a.eval o).run P w=.ok .recover w:=by
     unfold nC at BN;split at BN
     ·rename_i fH;simp only[execOp,fH,resolve,asT,as5,asQ,invoke,builtin]
     ·cases BN
    rw[hex];simp only;split at h
    ·rename_i v;obtain⟨x,rfl,hx⟩:=hu;simp only[recoverD];exact xK gr h hN hi (he.put hx _) (Hw _) (.inr ⟨x,rfl⟩) hQ
    ·have kz:recoverD ({c0 with mode:=u}::qQ)=ah:=by
      rcases hu with rfl|⟨x,rfl⟩<;>rfl
     rw[kz];simp only;exact xK gr h hN hi (he.put (.raw _) _) (Hw _) hu hQ
   ·split at h
    ·rename_i v aq h1;have dO:aq.n<=N:=atd (sO h) hN;obtain⟨u1,w1,cq,hr,h2,h3,h4⟩:=pq hi he.eval h1 dO;have hQ':N9 N ro cq w1 aq ⟨.normal,e',[],ao⟩ oE c0 qQ Q:=λa' w' aG u' ch g1 g2 g3 g4 g5 g6=>hQ a' w' aG u' ch g1 (Le.then hi dO h4 g2) g3 g4 g5 g6;rcases hr with hr|⟨hr,rfl⟩
     ·rw[hr];simp only;exact xK gr h hN h3 ((he.mono h4.ext).put h2 _) (Hw _) (hu.mono h4.ext) hQ'
     ·rw[hr];simp only;exact xK gr h hN h3 ((he.mono h4.ext).put h2 _) (Hw _) (hu.mono h4.ext) hQ'
    ·cases h
  ·rename_i hw;rw[if_neg hw];exact xK gr h hN hi (he.put sj _) (Hw _) hu hQ
theorem aol(hS:ir P S m)(hm:bZ S){fn:FuncId}{c0:Frame}{qQ:List Frame}:∀{c:Code} {Q:Exit->Act->List Frame->World->Prop} {e:Env} {mo oE:Option IV} {σ:St} {cr:CR} {ι:Io} {a:Act} {u:FrameMode} {w:World},
 y_ P S ro fn c e mo σ=aa (cr,oE)->cr.σ.n<=N->Inv N ι σ w->di ι e a.tmps->a.defers=[]->rT ι mo u->N9 N ro ι w σ cr oE c0 qQ Q->c.wpSIn ato 0 P Q a ({c0 with mode:=u}::qQ) w:=by
 intro c
 have other:∀{c:Code} {Q:Exit->Act->List Frame->World->Prop} {e:Env} {mo oE:Option IV} {σ:St} {cr:CR} {ι:Io} {a:Act} {u:FrameMode} {w:World},(match S.code ro ah fn c e [] σ with|some r=>aa (r,mo)|none=>ah)=aa (cr,oE)->
  cr.σ.n<=N->Inv N ι σ w->di ι e a.tmps->a.defers=[]->rT ι mo u->N9 N ro ι w σ cr oE c0 qQ Q->c.wpSIn ato 0 P Q a ({c0 with mode:=u}::qQ) w:=by
  intro c Q e mo oE σ cr ι a u w h hN hi he hd hu hQ;split at h
  ·rename_i h1;cases h;refine wpSIn_of_wpIn rfl ?_;refine(hS N ro ah fn c e [] σ _ h1 hN ato ι a w _ (.inl ⟨rfl,rfl⟩) hi he (by rw[hd];trivial) ?_).wp;intro a1 w1 cq fc i1 l1 e1 d1 p1;exact hQ a1 w1 cq u fc i1 l1 e1 d1 p1 (hu.mono l1.ext)
  ·cases h
 induction c with
 |seq x y ihx ihy=>
  intro Q e mo oE σ cr ι a u w h hN hi he hd hu hQ;unfold y_ at h;refine wpSIn_seq ?_;split at h
  ·rename_i e1 aq m1 h1;have dO:aq.n<=N:=atd (Ht hm h) hN;refine ihx h1 dO hi he hd hu ?_;intro a1 w1 cq u1 fc i1 l1 dc d1 p1 yo;exact ihy h hN i1 dc d1.nil yo λa' w' aG u' ch g1 g2 g3 g4 g5 g6=>hQ a' w' aG u' ch g1 (Le.then hi dO l1 g2) g3 g4 g5 g6
  ·cases h
  ·rename_i asu aom;refine ihx h hN hi he hd hu ?_;intro a1 w1 cq u1 fc i1 l1 dc d1 p1 yo;have:=hQ a1 w1 cq u1 fc i1 l1 dc d1 p1 yo;cases hx:cr.ex with
   |normal=>exact absurd (by rw[h];cases cr;cases hx;rfl) (aom cr.e cr.df cr.σ oE)
   |exit id=>rw[hx]at this;exact this
   |goto l=>rw[hx]at this;exact this
   |ret=>rw[hx]at this;exact this
   |b_ v=>rw[hx]at this;exact this
 |region id ops draw=>
  intro Q e mo oE σ cr ι a u w h hN hi he hd hu hQ;unfold y_ at h;split at h
  ·rename_i hc
   have II:draw=af:=by
    cases draw with
    |false=>rfl
    |true=>simp at hc
   subst II;split at h
   ·rename_i h1;cases h;refine wpSIn_region ?_;have:=xK (k:=0) (by simp) h1 hN hi he hd hu hQ;rw[aw2];simpa using this
   ·cases h
  ·exact other h hN hi he hd hu hQ
 |_=>
  intro Q e mo oE σ cr ι a u w h hN hi he hd hu hQ;unfold y_ at h;exact other h hN hi he hd hu hQ
theorem agq(hS:ir P S m)(hm:bZ S){f:FuncId}{args:List IV}{mo oE:Option IV}{ao:St}(h:BF P S ro f args mo σ=aa (oE,ao))(hN:ao.n<=N){us:List Value}{u:FrameMode}(hu:px ι mo u)(hi:Inv N ι σ w)(hr:aB ι args us):
 CallsDIn ato 0 P f us.toArray u w (IL N ro ι w σ oE ao):=by
 unfold BF at h;split at h
 ·rename_i fn bV;split at h
  ·cases h
  split at h
  ·rename_i c hb;split at h
   ·cases h
   ·rename_i hlen;simp only at h
    have key:∀{ex:Ex} {e1:Env} {aq:St} {m1:Option IV},y_ P S ro f c (args.zipIdx.foldl (λe (v,i)=>e.put (aa i) v) ⟨fn.ntmps,.lf⟩) mo σ=aa (⟨ex,e1,[],aq⟩,m1)->(ex=.normal\/ex=.ret)->
     (match bJ P fn e1 aq with
      |some _=>aa (m1,aq)
      |none=>ah)=aa (oE,ao)->CallsDIn ato 0 P f us.toArray u w (IL N ro ι w σ oE ao):=by
     intro ex e1 aq m1 h1 hex h;split at h
     ·rename_i v hv;cases h;refine callsDIn_of_wpSIn bV hb trivial λc0 cs pR=>?_;have bN:c0={c0 with mode:=u}:=by rw[<-pR]
      have:=aol hS hm (c0:=c0) (qQ:=cs) (Q:=bodyPostS P fn c0 cs (IL N ro ι w σ oE ao)) (a:={tmps:=us.toArray++aub (fn.ntmps- us.toArray.size) atC,defers:=[]}) h1 hN hi (yp hr (by omega)) rfl (rT.of hu) ?_
      ·rw[<-bN]at this;exact this
      ·intro a1 w1 cq u1 fc i1 l1 dc d1 p1 yo;obtain⟨x,k1,k2⟩:=tE hv i1 dc;have:bodyPostS P fn c0 cs (IL N ro ι w σ oE ao) .ret a1 ({c0 with mode:=u1}::cs) w1:=⟨d1.nil,u1,rfl,x,k1,cq,yo.settle,i1,l1⟩;rcases hex with rfl|rfl<;>exact this
     ·cases h
    split at h
    ·rename_i h1;exact key h1 (.inl rfl) h
    ·rename_i h1;exact key h1 (.inr rfl) h
    ·cases h
  ·cases h
 ·cases h
theorem KE(hS:ir P S m)(hC:eF P S)(hm:bZ S)(hk:bF S):eF P (lY P S) where
 call:=by
  intro N ro f args σ v ao h hN ι us w hi hr;simp only[lY,OC]at h;split at h
  ·rename_i Ym e1 aq h1;split at h
   ·rename_i v' h2;cases h;refine Tw hS hC hm hk h1 hN hi hr λts w' aG u' i1 l1 dc hu=>?_;rw[show u'=_ from hu];obtain⟨u,k1,k2⟩:=tE h2 i1 dc;exact⟨u,k1,aG,k2,i1,l1⟩
   ·cases h
  ·cases h
 b_:=by
  intro N ro f args σ v ao h hN ι us w hi hr;simp only[lY,VC]at h;split at h
  ·rename_i h1;cases h;refine Tw hS hC hm hk h1 hN hi hr λts w' aG u' i1 l1 dc hu=>?_;obtain⟨x,rfl,hx⟩:=hu;exact⟨aG,⟨x,rfl,hx⟩,i1,l1⟩
  ·cases h
 wP:=by
  intro N ro f args mo σ oE ao h hN ι us u w hu hi hr;exact agq hS hm h hN hu hi hr
 na:=by
  intro ro f args mo σ oE ao h;simp only[lY,BF]at h;split at h
  ·rename_i fn bV;split at h
   ·cases h
   ·rename_i Ea;exact⟨fn,bV,by simpa only[atD,Bool.not_eq_false]using Ea⟩
  ·cases h
theorem adn(hD:∀m S,ir P S m->eF P S->bZ S->bF S->O3 P S):∀n,ir P (ev P n) n/\eF P (ev P n)/\bZ (ev P n)/\bF (ev P n)
 |0=>by
  refine⟨?_,⟨?_,?_,?_,?_⟩,?_,⟨?_,?_,?_⟩⟩
  ·intro N ro rd fn c e df σ cr h;cases h
  ·intro N ro f args σ v ao h;cases h
  ·intro N ro f args σ v ao h;cases h
  ·intro N ro f args m σ m' ao h;cases h
  ·intro ro f args m σ m' ao h;cases h
  ·intro ro rd fn c e df σ cr h;cases h
  ·intro ro f args σ v ao h;cases h
  ·intro ro f args σ v ao h;cases h
  ·intro ro f args m σ m' ao h;cases h
 |n+1=>by
  obtain⟨h1,h2,h3,h4⟩:=adn hD n;exact⟨Tt h1 h2 h3 h4 (hD n _ h1 h2 h3 h4),KE h1 h2 h3 h4,Mc h3 h4,D8 h3 h4⟩
end Go.Ev
namespace Go.Ev
variable{P:Program}{N ro m:Nat}{ι:Io}{w:World}{σ:St}{e:Env}{a:Act}{S:Self}{F:Fence}{rd:Option Nat}{Q:Exit->Act->World->Prop}
theorem qv{ρ AV:Operand->IV}{o:Oper}(h:∀x∈o.op.operands,ρ x=AV x):av P ro ρ o σ=av P ro AV o σ:=by
 obtain⟨dst,op,type,pos,after,guard⟩:=o
 have ado:∀ps:Array (Nat×Operand),(∀x∈(ps.toList.map (·.2)),ρ x=AV x)->(ps.toList.map λ(i,x)=>(i,ρ x))=(ps.toList.map λ(i,x)=>(i,AV x)):=λps hp=>
  auV λp hm=>by
   obtain⟨i,x⟩:=p;simp only[hp x (List.mem_map.2 ⟨(i,x),hm,rfl⟩)]
 cases op<;>simp only[Op.operands]at h<;>unfold av<;>dsimp only
 case move x=>rw[h x (by simp)]
 case assign x=>rw[h x (by simp)]
 case pick c x y=>rw[h c (by simp),h x (by simp),h y (by simp)]
 case box t x=>rw[h x (by simp)]
 case build t ps=>rw[ado ps λx hx=>h x (by simpa using hx)]
 case buildSlice t n ps=>rw[ado ps λx hx=>h x (by simpa using hx)]
 case load t x=>rw[h x (by simp)]
 case store t x y=>rw[h x (by simp),h y (by simp)]
 case nilCheck x=>rw[h x (by simp)]
 case binOp op t x y yT=>rw[h x (by simp),h y (by simp)]
 case unOp op t x=>rw[h x (by simp)]
 case convert s d x=>rw[h x (by simp)]
 case makeInterface t x=>rw[h x (by simp)]
 case makeFunc fn first captured=>
  rw[auV (l:=first.toList) λx hx=>h x (by simp at hx;simp[hx]),auV (l:=captured.toList) λx hx=>h x (by simp at hx;simp[hx])]
 case makeMap t r=>cases r with|none=>rfl|some x=>dsimp only;rw[h x (by simp)]
 case makeSlice t x y=>rw[h x (by simp),h y (by simp)]
 case slice t x lo hi mx=>
  have e1:lo.map ρ=lo.map AV:=by cases lo with|none=>rfl|some y=>simp only[atl,h y (by simp)]
  have e2:hi.map ρ=hi.map AV:=by cases hi with|none=>rfl|some y=>simp only[atl,h y (by simp)]
  have e3:mx.map ρ=mx.map AV:=by cases mx with|none=>rfl|some y=>simp only[atl,h y (by simp)]
  rw[h x (by simp),e1,e2,e3]
 case fieldAddr t x f=>rw[h x (by simp)]
 case field t x f=>rw[h x (by simp)]
 case indexAddr t x y=>rw[h x (by simp),h y (by simp)]
 case index t x y=>rw[h x (by simp),h y (by simp)]
 case lookup t x y ok=>rw[h x (by simp),h y (by simp)]
 case mapUpdate t x y z=>rw[h x (by simp),h y (by simp),h z (by simp)]
 case insert t x y z=>rw[h x (by simp),h y (by simp),h z (by simp)]
 case mapEntry t x y=>rw[h x (by simp),h y (by simp)]
 case entryStore t x y z=>rw[h x (by simp),h y (by simp),h z (by simp)]
 case range t x=>rw[h x (by simp)]
 case next x s=>rw[h x (by simp)]
 case entry x=>rw[h x (by simp)]
 case extract x i=>rw[h x (by simp)]
 case typeAssert x xt t ok=>rw[h x (by simp)]
 case panic x=>rw[h x (by simp)]
 case call c=>
  have ha:c.args.toList.map ρ=c.args.toList.map AV:=auV λx hx=>h x (by simp[avA];right;simpa using hx);rw[ha];cases hc:c.callee with
  |value f=>dsimp only;rw[h f (by simp[avA,hc])]
  |invoke r m=>dsimp only;rw[h r (by simp[avA,hc])]
  |builtin b=>rfl
 case defer c=>
  have ha:c.args.toList.map ρ=c.args.toList.map AV:=auV λx hx=>h x (by simp[avA];right;simpa using hx);rw[ha];cases hc:c.callee with
  |value f=>dsimp only;rw[h f (by simp[avA,hc])]
  |invoke r m=>rfl
  |builtin b=>rfl
structure Gn(Fr:Nat->Prop)(ι:Io)(cur:Nat->Option Ob)(w:World):Prop where
 mem:∀b c,ι.m b=aa c->∃e f,w.heap[b]?=aa (.cells c e f)
 sep:∀b c id,ι.m b=aa c->¬Own ι id b
 jc:∀id b,Own ι id b->b<w.heap.size
 inj:∀i j b,Own ι i b->Own ι j b->i=j
 fresh:∀id,Fr id->∀e,ι id e=ah
 obj:∀id o,cur id=aa o->kZ ι w id o
theorem Gn.inv{Fr:Nat->Prop}{cur:Nat->Option Ob}(h:Gn Fr ι cur w)(sub:∀id o,σ.at id=aa o->cur id=aa o)(fr:∀id,σ.n<=id->id<N->Fr id)(wf:∀id,σ.n<=id->σ.at id=ah):Inv N ι σ w:=
 ⟨h.mem,h.sep,h.jc,λid h1 h2=>h.fresh id (fr id h1 h2),h.inj,λid o ho=>h.obj id o (sub id o ho),wf⟩
theorem VZ{id:Nat}{o:Ob}(h:kZ ι w id o):∃e l,ι id e=aa l:=by
 cases o with
 |cells cs ep mn=>obtain⟨_,⟨l,hl,_⟩,_⟩:=h;exact⟨_,l,hl⟩
 |map es c=>obtain⟨l,_,hl,_⟩:=h;exact⟨_,l,hl⟩
 |qq s p=>obtain⟨l,hl,_⟩:=h;exact⟨_,l,hl⟩
 |jO a b c d=>obtain⟨l,_,hl,_⟩:=h;exact⟨_,l,hl⟩
 |loop a b c d e f g h' i=>obtain⟨l,_,_,_,hl,_⟩:=h;exact⟨_,l,hl⟩
 |GK t=>obtain⟨l,hl,_⟩:=h;exact⟨_,l,hl⟩
def zn(cur:Nat->Option Ob)(σ ao:St)(id:Nat):Option Ob:=if(σ.at id).isSome\/(σ.n<=id/\id<ao.n)then ao.at id else cur id
structure zo(ro nk:Nat)(gH:Io)(w0:World)(eA:St)(Fr:Nat->Prop)(ι:Io)(cur:Nat->Option Ob)(w:World):Prop extends Gn Fr ι cur w where
 ext:Ext gH ι
 xX:∀b c,ι.m b=aa c->gH.m b=aa c\/w0.heap.size<=b
 own:∀id b,Own ι id b->Own gH id b\/w0.heap.size<=b
 AL:∀id,eA.at id=ah->(id<eA.n\/nk<=id)->∀e,ι id e=gH id e
 dead:∀id,eA.at id=ah->(id<eA.n\/nk<=id)->cur id=ah
 wE:∀id,id<ro->id<eA.n->cur id=eA.at id
 os:w.os=w0.os
 tape:w.tape=w0.tape
 output:w.output=w0.output
 size:w0.heap.size<=w.heap.size
 frame:∀b,b<w0.heap.size->(∀id,Own gH id b->id<ro\/eA.at id=ah)->w.heap[b]?=w0.heap[b]?
theorem zo.start{nk:Nat}(h:Inv N ι σ w)(hnk:nk<=N):zo ro nk ι w σ (λid=>σ.n<=id/\id<N) ι σ.at w:=
 {mem:=h.mem,sep:=h.sep,jc:=h.jc,inj:=h.inj,fresh:=λid hid=>h.fresh id hid.1 hid.2,obj:=h.obj,ext:=Ext.refl _,xX:=λ_ _ h=>.inl h,own:=λ_ _ h=>.inl h,
  AL:=λ_ _ _ _=>rfl,dead:=λ_ h _=>h,wE:=λ_ _ _=>rfl,os:=rfl,tape:=rfl,output:=rfl,size:=asR _,frame:=λ_ _ _=>rfl}
theorem zo.step{nk N' ga:Nat}{gH aG:Io}{w0 w':World}{eA ao:St}{Fr:Nat->Prop}{cur:Nat->Option Ob}(h:zo ro nk gH w0 eA Fr ι cur w)(O9:∀id,eA.n<=id->id<nk->∀e,gH id e=ah)
 (sub:∀id o,σ.at id=aa o->cur id=aa o)(tF:∀id,σ.n<=id->id<ao.n->eA.n<=id/\id<nk)(cF:∀id,id<ro->(σ.at id).isSome=ab->id<ga)(wf:∀id,σ.n<=id->σ.at id=ah)
 (hi:Inv N' aG ao w')(hl:Le ga ι w σ aG w' ao):zo ro nk gH w0 eA (λid=>Fr id/\¬(σ.n<=id/\id<ao.n)) aG (zn cur σ ao) w':=by
 have Tx:∀id,cur id=ah->σ.at id=ah:=λid hc=>by
  cases hs:σ.at id with
  |none=>rfl
  |some o=>rw[sub id o hs]at hc;cases hc
 have out:∀id,¬(σ.n<=id/\id<ao.n)->id<σ.n\/ao.n<=id:=λid hn=>by omega
 have Eb:∀id,(id<eA.n\/nk<=id)->¬(σ.n<=id/\id<ao.n):=λid hh hn=>by have:=tF id hn.1 hn.2;omega
 exact{
  mem:=hi.mem,sep:=hi.sep,jc:=hi.jc,inj:=hi.inj
  fresh:=λid hid e=>by
   have hn:σ.at id=ah:=by
    cases hs:σ.at id with
    |none=>rfl
    |some o=>
     obtain⟨e',l,cu⟩:=VZ (h.obj id o (sub id o hs));rw[h.fresh id hid.1 e']at cu;cases cu
   rw[hl.AL id hn (out id hid.2) e,h.fresh id hid.1 e]
  obj:=λid o ho=>by
   unfold zn at ho;split at ho
   ·exact hi.obj id o ho
   ·rename_i hc
    have hn:σ.at id=ah:=by
     cases hs:σ.at id with
     |none=>rfl
     |some o=>exact absurd (.inl (by rw[hs];rfl)) hc
    have hr:¬(σ.n<=id/\id<ao.n):=λhx=>hc (.inr hx);refine(h.obj id o ho).keep hl.ext (λe=>hl.AL id hn (out id hr) e) λb hb=>?_;refine hl.frame b (h.jc id b hb) λbB jj=>.inr ?_;rw[h.inj bB id b jj hb];exact hn
  ext:=h.ext.trans hl.ext
  xX:=λb c hb=>(hl.xX b c hb).elim (λhb=>h.xX b c hb) (λhb=>.inr (atd h.size hb))
  own:=λid b hb=>(hl.own id b hb).elim (λhb=>h.own id b hb) (λhb=>.inr (atd h.size hb))
  AL:=λid hn hr e=>(hl.AL id (Tx id (h.dead id hn hr)) (out id (Eb id hr)) e).trans (h.AL id hn hr e)
  dead:=λid hn hr=>by
   unfold zn;rw[if_neg]
   ·exact h.dead id hn hr
   ·rw[Tx id (h.dead id hn hr)];intro hx;rcases hx with hx|hx
    ·cases hx
    ·exact Eb id hr hx
  wE:=λid hr hn=>by
   unfold zn;split
   ·rename_i hc;have hs:(σ.at id).isSome:=hc.resolve_right (Eb id (.inl hn));obtain⟨o,ho⟩:=Option.isSome_iff_exists.1 hs;have ai:id<σ.n:=avM λhle=>by rw[wf id hle]at ho;cases ho
    rw[hl.wE id (cF id hr hs) ai,ho,<-sub id o ho];exact h.wE id hr hn
   ·exact h.wE id hr hn
  os:=hl.os.trans h.os
  tape:=hl.tape.trans h.tape
  output:=hl.output.trans h.output
  size:=atd h.size hl.size
  frame:=λb hb hc=>by
   rw[hl.frame b (Nat.lt_of_lt_of_le hb h.size) ?_,h.frame b hb hc];intro id hid;cases hs:σ.at id with
   |none=>exact .inr rfl
   |some o=>
    have ai:id<σ.n:=avM λhle=>by rw[wf id hle]at hs;cases hs
    rcases h.own id b hid with ho|ho
    ·rcases hc id ho with hr|hd
     ·exact .inl (cF id hr (by rw[hs];rfl))
     ·right
      have hr:id<eA.n\/nk<=id:=by
       by_cases h1:id<eA.n
       ·exact .inl h1
       ·by_cases h2:id<nk
        ·obtain⟨e,l,cu,_⟩:=ho;rw[O9 id (by omega) h2 e]at cu;cases cu
        ·exact .inr (by omega)
      have:=sub id o hs;rw[h.dead id hd hr]at this;cases this
    ·omega}
theorem zo.fr{nk:Nat}{gH:Io}{w0:World}{eA:St}{Fr Fr':Nat->Prop}{cur:Nat->Option Ob}(h:zo ro nk gH w0 eA Fr ι cur w)(hf:∀id,Fr' id->Fr id):zo ro nk gH w0 eA Fr' ι cur w:=
 {h with fresh:=λid hid=>h.fresh id (hf id hid)}
theorem zo.fin{nk:Nat}{gH:Io}{w0:World}{eA:St}{Fr:Nat->Prop}{cur:Nat->Option Ob}{t:T Ob}(h:zo ro nk gH w0 eA Fr ι cur w)(hn:eA.n<=nk)(uP:∀id,nk<=id->id<N->Fr id)
 (sub:∀id o,t.get id=aa o->cur id=aa o)(wf:∀id,nk<=id->t.get id=ah)(hp:∀id,id<ro->id<eA.n->t.get id=eA.at id):
 Inv N ι ⟨nk,t⟩ w/\Le ro gH w0 eA ι w ⟨nk,t⟩:=by
 refine⟨h.toGn.inv sub uP wf,h.ext,h.own,h.AL,λid hn hr=>?_,hp,hn,h.os,h.tape,h.output,h.size,h.frame,h.xX⟩;have:=h.dead id hn hr;cases hs:t.get id with
 |none=>exact hs
 |some o=>rw[sub id o hs]at this;cases this
end Go.Ev
namespace Go.Ev
variable{P:Program}{S:Self}{ro:Nat}{ops:Array Oper}{pl:dX}[Sm]
def jx(ops:Array Oper)(i:Nat):Option Tmp:=(ops[i]?).bind (·.dst)
def Ar(ops:Array Oper)(i:Nat):List Nat:=(ops.toList.map (uW ops)).getD i []
def bc(pl:dX)(i:Nat):Kind:=pl.kinds.getD i .effect
def jy(pl:dX)(j i:Nat):Prop:=atb (pl.cd.getD j 0) i=ab
structure pT(ops:Array Oper)(pl:dX):Prop where
 back:∀(j:Nat) (o:Oper),ops[j]?=aa o->∀e∈o.after.toList,auF .any e=ab->e.on<j
 abA:∀j,j<ops.size->bc pl j=.load->∀t,jx ops j=aa t->t∉Ar ops j
 single:∀i j,i<j->j<ops.size->∀t,jx ops i=aa t->jx ops j≠aa t
 Yn:∀i j,i<j->j<ops.size->bc pl i=.load->∀t,jx ops j=aa t->t∉Ar ops i
 free:∀i j,i<j->j<ops.size->¬jy pl j i->(∀t,jx ops i=aa t->t∉Ar ops j)/\(∀t,jx ops j=aa t->t∉Ar ops i)/\adl (bc pl i) (bc pl j)=af
 bits:∀(j:Nat) (o:Oper),ops[j]?=aa o->∀i,jy pl j i->∃e∈o.after.toList,auF .any e=ab/\(e.on=i\/jy pl e.on i)
theorem tG{o:Oper}{l:List Nat}(h:writes o l=af):∀t,o.dst=aa t->t∉l:=by
 intro t ht hm;unfold writes at h;rw[ht]at h;simp[hm]at h
theorem Mh{f:Edge->Nat}{c:Edge->Bool}{i:Nat}:∀(l:List Edge) (s:Nat),atb (l.foldl (λs e=>if c e then awH s (f e)else s) s) i=ab->
 atb s i=ab\/∃e∈l,c e=ab/\atb (f e) i=ab
 |[],s,h=>.inl h
 |e::l,s,h=>by
  simp only[att]at h;rcases Mh l _ h with h|⟨e',ic,h1,h2⟩
  ·split at h
   ·rename_i hc;have:atb (s|||f e) i=ab:=h;rw[axW,atw]at this;rcases this with h|h
    ·exact .inl h
    ·exact .inr ⟨e,by simp,hc,h⟩
   ·exact .inl h
  ·exact .inr ⟨e',by simp[ic],h1,h2⟩
theorem Yo{a i:Nat}(h:atb (avZ 1 a) i=ab):a=i:=by
 have h':atb (1<<<a) i=ab:=h;rw[Nat.testBit_shiftLeft]at h';simp only[asN,decide_eq_true_eq]at h';have h2:=h'.2
 have:i- a=0:=by
  cases hk:i- a with
  |zero=>rfl
  |succ n=>rw[hk]at h2;simp[Nat.testBit_succ]at h2
 omega
theorem O_:∀(l:List Oper) (acc:List Nat),∃rest,l.foldl FH acc=acc++rest/\rest.length=l.length/\
 ∀(q:Nat) (o:Oper),l[q]?=aa o->∀i,atb ((acc++rest).getD (acc.length+q) 0) i=ab->
  ∃e∈o.after.toList,auF .any e=ab/\(e.on=i\/atb ((acc++rest).getD e.on 0) i=ab)
 |[],acc=>⟨[],by simp,rfl,λq o h=>by simp at h⟩
 |o::l,acc=>by
  obtain⟨rest,h1,h2,h3⟩:=O_ l (FH acc o);obtain⟨x,hx⟩:∃x,FH acc o=acc++[x]:=⟨_,rfl⟩
  have qT:x=o.after.toList.foldl (λs e=>if auF .any e then awH s (awH (avZ 1 e.on) (acc.getD e.on 0))else s) 0:=by
   have:acc++[x]=acc++[o.after.toList.foldl (λs e=>if auF .any e then awH s (awH (avZ 1 e.on) (acc.getD e.on 0))else s) 0]:=hx▸rfl;simpa using this
  rw[hx]at h1 h3;refine⟨x::rest,by rw[att,hx,h1];simp,by simp[h2],λq o' hq i hi=>?_⟩;have pU:acc++x::rest=acc++[x]++rest:=by simp
  cases q with
  |zero=>
   simp only[List.getElem?_cons_zero,asP]at hq;subst hq;have hg:(acc++x::rest).getD (acc.length+0) 0=x:=by simp
   rw[hg,qT]at hi;rcases Mh _ _ hi with hi|⟨e,he,hb,hi⟩
   ·simp at hi
   ·refine⟨e,he,hb,?_⟩;have da:atb (avZ 1 e.on|||acc.getD e.on 0) i=ab:=hi;rw[axW,atw]at da;rcases da with hi|hi
    ·exact .inl (Yo hi)
    ·right;by_cases hl:e.on<acc.length
     ·have:(acc++x::rest).getD e.on 0=acc.getD e.on 0:=by
       rw[auQ,auQ,List.getElem?_append_left hl]
      rw[this];exact hi
     ·rw[auQ,List.getElem?_eq_none (by omega)]at hi;simp at hi
  |succ q=>
   simp only[List.getElem?_cons_succ]at hq;rw[pU]at hi⊢
   have:=h3 q o' hq i (by
    have e1:(acc++[x]).length+q=acc.length+(q+1):=by simp;omega
    rw[e1];exact hi)
   exact this
theorem aeY{ops:Array Oper}{j:Nat}{o:Oper}(ho:ops[j]?=aa o){i:Nat}(h:atb ((Oy ops).getD j 0) i=ab):
 ∃e∈o.after.toList,auF .any e=ab/\(e.on=i\/atb ((Oy ops).getD e.on 0) i=ab):=by
 obtain⟨rest,h1,_,h3⟩:=O_ ops.toList [];have hb:Oy ops=rest:=by unfold Oy;rw[h1];simp
 rw[hb]at h⊢;have:=h3 j o (by simpa using ho) i (by simpa using h);simpa using this
theorem agr(h:(dG ops).ok=ab):pT ops (dG ops):=by
 have bg:∀(j:Nat) (o:Oper),ops[j]?=aa o->(o.after.toList.all λe=> !auF .any e||Nat.blt e.on j)=ab/\(!(bc (dG ops) j==.load)|| !writes o (Ar ops j))=ab/\
  ∀(i:Nat) (p:Oper),ops[i]?=aa p->i<j->AJ (dG ops).cd (dG ops).kinds (ops.toList.map (uW ops)) p i o j=ab:=by
  intro j o ho;have hm:(o,j)∈ops.toList.zipIdx:=atV.2 (by simpa using ho);unfold dG at h;dsimp only at h;rw[as6]at h;have:=h (o,j) hm;simp only[asN]at this;obtain⟨⟨h1,h2⟩,h3⟩:=this;refine⟨h1,h2,λi p hp nI=>?_⟩;rw[as6]at h3;have hm':(p,i)∈ops.toList.zipIdx:=atV.2 (by simpa using hp);have:=h3 (p,i) hm';have ai:Nat.blt i j=ab:=by simpa using nI
  simp only[ai,avI,au3]at this;exact this
 have fH:∀{j:Nat},j<ops.size->∃o,ops[j]?=aa o:=λhj=>⟨ops[_],atj hj⟩;have gl:∀{j:Nat} {o:Oper},ops[j]?=aa o->jx ops j=o.dst:=λho=>by unfold jx;rw[ho];rfl
 have pair:∀i j,i<j->j<ops.size->∃p o,ops[i]?=aa p/\ops[j]?=aa o/\AJ (dG ops).cd (dG ops).kinds (ops.toList.map (uW ops)) p i o j=ab:=λi j nI hj=>by
  obtain⟨o,ho⟩:=fH hj;obtain⟨p,hp⟩:=fH (show i<ops.size by omega);exact⟨p,o,hp,ho,(bg j o ho).2.2 i p hp nI⟩
 refine⟨λj o ho e he hb=>?_,λj hj hk t ht=>?_,λi j nI hj t hi hjt=>?_,λi j nI hj hk t ht=>?_,λi j nI hj Mi=>?_,λj o ho i hb=>aeY ho hb⟩
 ·have:=(as6.1 (bg j o ho).1) e he;rw[hb]at this;simpa using this
 ·obtain⟨o,ho⟩:=fH hj;have:=(bg j o ho).2.1;rw[hk]at this;simp only[beq_self_eq_true,avI,au3,atD]at this;rw[gl ho]at ht;exact tG this t ht
 ·obtain⟨p,o,hp,ho,Ec⟩:=pair i j nI hj;rw[gl hp]at hi;rw[gl ho]at hjt;unfold AJ at Ec;rw[hi,hjt]at Ec;simp at Ec
 ·obtain⟨p,o,hp,ho,Ec⟩:=pair i j nI hj;unfold AJ at Ec;simp only[asN]at Ec;have h2:=Ec.1.2;have cH:(dG ops).kinds.getD i .effect=.load:=hk;rw[cH]at h2;simp only[beq_self_eq_true,avI,au3,atD]at h2;rw[gl ho]at ht;exact tG h2 t ht
 ·obtain⟨p,o,hp,ho,Ec⟩:=pair i j nI hj;unfold AJ at Ec;simp only[asN]at Ec;have h3:=Ec.2
  have hb:atb ((dG ops).cd.getD j 0) i=af:=by
   cases hc:atb ((dG ops).cd.getD j 0) i with
   |false=>rfl
   |true=>exact absurd hc Mi
  rw[hb]at h3;simp only[au3,asN,atD]at h3;refine⟨λt ht=>?_,λt ht=>?_,h3.2⟩
  ·rw[gl hp]at ht;exact tG h3.1.1 t ht
  ·rw[gl ho]at ht;exact tG h3.1.2 t ht
end Go.Ev
namespace Go.Ev
variable{P:Program}{S:Nat->Self}{ro:Nat}{ops:Array Oper}{pl:dX}[Sm]
theorem kN(b:T Ob)(p:Piece)(id:Nat):(dB b p).get id=if p.lo<=id/\id<p.hi then(p.t.get id).or (b.get id)else b.get id:=by
 have aux:∀(l:List Nat) (b:T Ob),(l.foldl (λb id=>match p.t.get id with|some o=>b.set id o|none=>b) b).get id=if id∈l then(p.t.get id).or (b.get id)else b.get id:=by
  intro l;induction l with
  |nil=>intro b;simp
  |cons x l ih=>
   intro b;rw[att,ih];by_cases hx:x=id
   ·subst hx;cases hp:p.t.get x with
    |none=>simp
    |some o=>simp[T.gj]
   ·have hb:(match p.t.get x with|some o=>b.set x o|none=>b).get id=b.get id:=by
     cases p.t.get x with
     |none=>rfl
     |some o=>simp[T.gj,hx]
    rw[hb];have:id∈x::l↔id∈l:=by simp[Ne.symm hx]
    simp only[this]
 refine(aux (avb p.lo (p.hi- p.lo)) b).trans ?_
 have:id∈avb p.lo (p.hi- p.lo)↔p.lo<=id/\id<p.hi:=by
  rw[List.mem_range'_1];omega
 simp only[this]
theorem BO:∀(l:List Piece) (b:T Ob) (id:Nat) (o:Ob),(l.foldl dB b).get id=aa o->(∃p∈l,p.lo<=id/\id<p.hi/\p.t.get id=aa o)\/b.get id=aa o
 |[],b,id,o,h=>.inr h
 |p::l,b,id,o,h=>by
  rw[att]at h;rcases BO l _ id o h with⟨q,hq,h1⟩|h
  ·exact .inl ⟨q,by simp[hq],h1⟩
  ·rw[kN]at h;split at h
   ·rename_i hc;cases hp:p.t.get id with
    |none=>rw[hp]at h;exact .inr h
    |some x=>rw[hp]at h;exact .inl ⟨p,by simp,hc.1,hc.2,by rw[hp];exact h⟩
   ·exact .inr h
theorem Hx:∀(l:List Piece) (b:T Ob) (id:Nat),(∀p∈l,id<p.lo)->(l.foldl dB b).get id=b.get id
 |[],b,id,_=>rfl
 |p::l,b,id,h=>by
  rw[att,Hx l _ id (λq hq=>h q (by simp[hq])),kN,if_neg];have:=h p (by simp);omega
theorem Hy{aI:List Piece}{bits:Nat}{b:T Ob}{id:Nat}{o:Ob}(h:(seen aI bits b).get id=aa o):
 (∃p∈aI,atb bits p.j=ab/\p.lo<=id/\id<p.hi/\p.t.get id=aa o)\/b.get id=aa o:=by
 rcases BO _ _ _ _ h with⟨p,hp,h1⟩|h
 ·rw[atW]at hp;exact .inl ⟨p,hp.1,by simpa using hp.2,h1⟩
 ·exact .inr h
theorem abB{aI:List Piece}{bits:Nat}{b:T Ob}{id:Nat}(h:∀p∈aI,id<p.lo):(seen aI bits b).get id=b.get id:=
 Hx _ _ _ λp hp=>h p (atW.1 hp).1
inductive Stp(P:Program)(S:Self)(pl:dX)(ro:Nat)(ops:Array Oper)(o:Oper)(j:Nat)(d d':DS)(v:IV):Prop
 |skip (h:aQ o ops d.e=af) (hv:v=.undef) (hn:d'.n=d.n) (hp:d'.aI=d.aI) (hk:bc pl j≠.effect) (hb:d'.bs=d.bs)
 |FL (h:aQ o ops d.e=af) (hv:v=.undef) (hn:d'.n=d.n) (hp:d'.aI=d.aI) (hk:bc pl j=.effect) (i0:Nat) (b:T Ob) (rest:List (Nat×T Ob)) (gw:d.bs=(i0,b)::rest)
   (hb:d'.bs=(j,b)::d.bs) (hr:recheck P pl ops (pl.cd.getD j 0) d.e d.n d.aI b (ops.toList.zipIdx.take j)=ab)
 |pure (h:aQ o ops d.e=ab) (hk:bc pl j=.pure) (hn:d'.n=d.n) (hp:d'.aI=d.aI) (hb:d'.bs=d.bs) (σ:St) (he:av P 0 (ax d.e) o ⟨0,.lf⟩=aa (.val v σ)) (h0:σ.n=0)
 |alloc (h:aQ o ops d.e=ab) (hk:bc pl j=.alloc) (hb:d'.bs=d.bs) (σ:St) (he:av P 0 (ax d.e) o ⟨d.n,.lf⟩=aa (.val v σ)) (hn:d'.n=σ.n) (hp:d'.aI=⟨j,d.n,σ.n,σ.t⟩::d.aI)
 |load (h:aQ o ops d.e=ab) (hk:bc pl j=.load) (hn:d'.n=d.n) (hp:d'.aI=d.aI) (hb:d'.bs=d.bs) (i0:Nat) (b:T Ob) (rest:List (Nat×T Ob)) (gw:d.bs=(i0,b)::rest)
   (σ:St) (he:av P d.n (ax d.e) o ⟨d.n,seen d.aI (pl.cd.getD j 0) b⟩=aa (.val v σ)) (h0:σ.n=d.n)
   (hl:(atb (pl.cd.getD j 0) i0||mv P d.e o d.n v d.aI (pl.cd.getD j 0) rest)=ab)
 |call (h:aQ o ops d.e=ab) (hk:bc pl j=.call) (hb:d'.bs=d.bs) (i0:Nat) (b:T Ob) (rest:List (Nat×T Ob)) (gw:d.bs=(i0,b)::rest)
   (σ:St) (he:jP P S d.n d.e o ⟨d.n,seen d.aI (pl.cd.getD j 0) b⟩=aa (v,σ)) (hn:d'.n=σ.n) (hp:d'.aI=⟨j,d.n,σ.n,σ.t⟩::d.aI)
 |effect (h:aQ o ops d.e=ab) (hk:bc pl j=.effect) (i0:Nat) (b:T Ob) (rest:List (Nat×T Ob)) (gw:d.bs=(i0,b)::rest)
   (σ:St) (he:jP P S ro d.e o ⟨d.n,seen d.aI (pl.cd.getD j 0) b⟩=aa (v,σ)) (hn:d'.n=σ.n) (hb:d'.bs=(j,σ.t)::d.bs) (hp:d'.aI=d.aI.filter λp=> !atb (pl.cd.getD j 0) p.j)
   (hr:recheck P pl ops (pl.cd.getD j 0) d.e d'.n d'.aI σ.t (ops.toList.zipIdx.take j)=ab)
theorem Pa{U:Self}{o:Oper}{j:Nat}{d d':DS}(h:bR P U pl ro ops o j d=aa d'):∃v,d'.e=d.e.put o.dst v/\d.bs≠[]/\Stp P U pl ro ops o j d d' v:=by
 unfold bR at h;dsimp only at h;split at h
 ·cases h
 ·rename_i i0 b rest gw;have aW:d.bs≠[]:=by rw[gw];simp
  split at h
  ·rename_i hw;split at h
   ·rename_i hk;split at h
    ·rename_i v σ he;split at h
     ·rename_i h0;cases h;exact⟨v,rfl,aW,.pure hw hk rfl rfl rfl σ he h0⟩
     ·cases h
    ·cases h
   ·rename_i hk;split at h
    ·rename_i v σ he;cases h;exact⟨v,rfl,aW,.alloc hw hk rfl σ he rfl rfl⟩
    ·cases h
   ·rename_i hk;split at h
    ·rename_i v σ he;split at h
     ·rename_i hc;cases h;exact⟨v,rfl,aW,.load hw hk rfl rfl rfl i0 b rest gw σ he hc.1 hc.2⟩
     ·cases h
    ·cases h
   ·rename_i hk;split at h
    ·rename_i v σ he;cases h;exact⟨v,rfl,aW,.call hw hk rfl i0 b rest gw σ he rfl rfl⟩
    ·cases h
   ·rename_i hk;split at h
    ·rename_i v σ he;split at h
     ·rename_i hc;cases h;exact⟨v,rfl,aW,.effect hw hk i0 b rest gw σ he rfl rfl rfl hc⟩
     ·cases h
    ·cases h
  ·rename_i hw;have hw:aQ o ops d.e=af:=by simpa using hw
   split at h
   ·rename_i hk;split at h
    ·rename_i hc;cases h;exact⟨.undef,rfl,aW,.FL hw rfl rfl rfl hk i0 b rest gw rfl hc⟩
    ·cases h
   ·rename_i hk;cases h;exact⟨.undef,rfl,aW,.skip hw rfl rfl rfl hk rfl⟩
structure Tr(P:Program)(S:Nat->Self)(pl:dX)(ro:Nat)(ops:Array Oper)(D:Nat->DS):Prop where
 step:∀(j:Nat) (o:Oper),ops[j]?=aa o->bR P (S j) pl ro ops o j (D j)=aa (D (j+1))
def oF(P:Program)(S:Nat->Self)(pl:dX)(ro:Nat)(ops:Array Oper)(d:DS):Nat->DS
 |0=>d
 |j+1=>match ops[j]? with
  |some o=>(bR P (S j) pl ro ops o j (oF P S pl ro ops d j)).getD (oF P S pl ro ops d j)
  |none=>oF P S pl ro ops d j
theorem Mj{d0:DS}:∀{l:List Oper} {k:Nat} {d':DS},ops.toList.drop k=l->k<=ops.size->jh P S pl ro ops (l.zipIdx k) (oF P S pl ro ops d0 k)=aa d'->
 (∀(j:Nat) (o:Oper),k<=j->ops[j]?=aa o->bR P (S j) pl ro ops o j (oF P S pl ro ops d0 j)=aa (oF P S pl ro ops d0 (j+1)))/\d'=oF P S pl ro ops d0 ops.size
 |[],k,d',hl,hk,h=>by
  have hs:ops.size<=k:=by
   have:ops.toList.length<=k:=List.drop_eq_nil_iff.1 hl;simpa using this
  cases h;refine⟨λj o hj ho=>?_,by rw[show k=ops.size by omega]⟩;have:=(atI.1 ho).1;omega
 |o::l,k,d',hl,hk,h=>by
  have bz:ops[k]?=aa o:=by
   have:(ops.toList.drop k)[0]?=aa o:=by rw[hl];rfl
   simpa using this
  have gr:ops.toList.drop (k+1)=l:=by
   rw[<-avu (i:=1) (j:=k),hl];rfl
  have ai:=(atI.1 bz).1;rw[awi]at h;unfold jh at h;split at h
  ·rename_i d1 h1
   have AS:oF P S pl ro ops d0 (k+1)=d1:=by
    rw[oF,bz];simp only[h1,Option.getD_some]
   rw[<-AS]at h;obtain⟨h2,h3⟩:=Mj gr (by omega) h;refine⟨λj o' hj ho=>?_,h3⟩;rcases av5 hj with hj|rfl
   ·exact h2 j o' (by omega) ho
   ·rw[bz]at ho;cases ho;rw[h1,AS]
  ·cases h
theorem abC{d0 d':DS}(h:jh P S pl ro ops ops.toList.zipIdx d0=aa d'):Tr P S pl ro ops (oF P S pl ro ops d0)/\d'=oF P S pl ro ops d0 ops.size:=by
 obtain⟨h1,h2⟩:=Mj (k:=0) (by simp) (by omega) h;exact⟨⟨λj o ho=>h1 j o (by omega) ho⟩,h2⟩
section tr
variable{D:Nat->DS}(ht:Tr P S pl ro ops D)
include ht
theorem Tr.Pb{j:Nat}(hj:j<ops.size):∃o v,ops[j]?=aa o/\(D (j+1)).e=(D j).e.put o.dst v/\(D j).bs≠[]/\Stp P (S j) pl ro ops o j (D j) (D (j+1)) v:=by
 have ho:ops[j]?=aa ops[j]:=atj hj;obtain⟨v,h1,h2,h3⟩:=Pa (ht.step j _ ho);exact⟨_,v,ho,h1,h2,h3⟩
theorem Tr.Yp(hc:∀j,bZ (S j))(hk:∀j,bF (S j)){j:Nat}(hj:j<ops.size):(D j).n<=(D (j+1)).n:=
 Dm (hc j) (hk j) (ht.step j _ (atj hj))
theorem Tr.fR(hc:∀j,bZ (S j))(hk:∀j,bF (S j)){i j:Nat}(nI:i<=j)(hj:j<=ops.size):(D i).n<=(D j).n:=by
 induction j with
 |zero=>have:i=0:=by omega
        subst this;exact asR _
 |succ j ih=>
  rcases av5 nI with h|rfl
  ·exact atd (ih (by omega) (by omega)) (ht.Yp hc hk (by omega))
  ·exact asR _
theorem Tr.apart(hc:∀j,bZ (S j))(hk:∀j,bF (S j)){i j id:Nat}(hi:i<ops.size)(hj:j<ops.size)(h1:(D i).n<=id/\id<(D (i+1)).n)(h2:(D j).n<=id/\id<(D (j+1)).n):i=j:=by
 rcases Nat.lt_trichotomy i j with h|h|h
 ·have:=ht.fR hc hk (show i+1<=j from h) (by omega);omega
 ·exact h
 ·have:=ht.fR hc hk (show j+1<=i from h) (by omega);omega
theorem Tr.aeZ{j:Nat}(hj:j<ops.size):(D (j+1)).bs=(D j).bs\/(bc pl j=.effect/\∃b,(D (j+1)).bs=(j,b)::(D j).bs):=by
 obtain⟨o,v,_,_,_,h⟩:=ht.Pb hj;cases h with
 |skip _ _ _ _ _ hb=>exact .inl hb
 |FL _ _ _ _ hk _ b _ _ hb _=>exact .inr ⟨hk,b,hb⟩
 |pure _ _ _ _ hb=>exact .inl hb
 |alloc _ _ hb=>exact .inl hb
 |load _ _ _ _ hb=>exact .inl hb
 |call _ _ hb=>exact .inl hb
 |effect _ hk _ _ _ _ σ _ _ hb=>exact .inr ⟨hk,σ.t,hb⟩
theorem Tr.Mk{m j:Nat}(hm:m<=j)(hj:j<=ops.size):∃pre,(D j).bs=pre++(D m).bs/\∀x∈pre,m<=x.1/\x.1<j/\bc pl x.1=.effect:=by
 induction j with
 |zero=>have:m=0:=by omega
        subst this;exact⟨[],rfl,λ_ h=>by cases h⟩
 |succ j ih=>
  rcases av5 hm with h|rfl
  ·obtain⟨pre,h1,h2⟩:=ih (by omega) (by omega);rcases ht.aeZ (show j<ops.size by omega)with hb|⟨hk,b,hb⟩
   ·exact⟨pre,by rw[hb,h1],λx hx=>by have:=h2 x hx;exact⟨this.1,by omega,this.2.2⟩⟩
   ·refine⟨(j,b)::pre,by rw[hb,h1];rfl,λx hx=>?_⟩;rcases List.mem_cons.1 hx with rfl|hx
    ·exact⟨by omega,by omega,hk⟩
    ·have:=h2 x hx;exact⟨this.1,by omega,this.2.2⟩
  ·exact⟨[],rfl,λ_ h=>by cases h⟩
theorem Tr.Pc{m j:Nat}(hm:m<=j)(hj:j<=ops.size)(aW:∀i,m<=i->i<j->bc pl i≠.effect):(D j).bs=(D m).bs:=by
 obtain⟨pre,h1,h2⟩:=ht.Mk hm hj;cases pre with
 |nil=>exact h1
 |cons x pre=>have:=h2 x (by simp);exact absurd this.2.2 (aW x.1 this.1 this.2.1)
end tr
structure tH(ops:Array Oper)(D:Nat->DS)(A:Nat->Prop)(e:Env):Prop where
 n:e.n=(D 0).e.n
 put:∀j,A j->∀t,jx ops j=aa t->e.at t=(D (j+1)).e.at t
 cL:∀t,(∀j,A j->jx ops j≠aa t)->e.at t=(D 0).e.at t
theorem Yq{e:Env}{dst:Option Tmp}{v:IV}{t:Nat}(h:dst≠aa t):(e.put dst v).at t=e.at t:=by
 cases dst with
 |none=>rfl
 |some d=>
  rw[Env.c_,if_neg];intro hc;exact h (by rw[hc.2])
theorem tH.step{D:Nat->DS}{A:Nat->Prop}{e:Env}(ho:pT ops pl){j:Nat}{o:Oper}{v:IV}(h:tH ops D A e)(hA:∀i,A i->i<ops.size)(hj:ops[j]?=aa o)(hnj:¬A j)
 (hd:(D (j+1)).e=(D j).e.put o.dst v)(hold:∀t,jx ops j=aa t->(D j).e.at t=(D 0).e.at t)(hn:(D j).e.n=(D 0).e.n):tH ops D (λi=>A i\/i=j) (e.put o.dst v):=by
 have ai:=(atI.1 hj).1;have gl:jx ops j=o.dst:=by unfold jx;rw[hj];rfl
 have adp:∀i t,A i->jx ops i=aa t->o.dst≠aa t:=by
  intro i t hi hit;have Dp:=hA i hi;have aW:i≠j:=λhx=>hnj (hx▸hi);rw[<-gl];rcases Nat.lt_or_gt_of_ne aW with gk|gk
  ·exact ho.single i j gk ai t hit
  ·intro hc;exact ho.single j i gk Dp t hc hit
 refine⟨by rw[Env.nS];exact h.n,λi hi t hit=>?_,λt bC=>?_⟩
 ·rcases hi with hi|rfl
  ·rw[Yq (adp i t hi hit)];exact h.put i hi t hit
  ·rw[gl]at hit;rw[hd,hit,Env.c_,Env.c_,h.n,hn];split
   ·rfl
   ·rw[hold t (by rw[gl];exact hit)];refine h.cL t λi hi hc=>adp i t hi hc hit
 ·rw[Yq (by rw[<-gl];exact bC j (.inr rfl))];exact h.cL t λi hi=>bC i (.inl hi)
theorem Tr.env{D:Nat->DS}(ht:Tr P S pl ro ops D)(ho:pT ops pl):∀j,j<=ops.size->tH ops D (λi=>i<j) (D j).e
 |0,_=>⟨rfl,λi hi=>absurd hi (by omega),λt _=>rfl⟩
 |j+1,hj=>by
  obtain⟨o,v,h1,h2,_,_⟩:=ht.Pb (show j<ops.size by omega);have ih:=ht.env ho j (by omega);have:=tH.step (A:=λi=>i<j) (v:=v) ho ih (λi hi=>by omega) h1 (by omega) h2 (λt hd=>ih.cL t λi hi hc=>ho.single i j hi (by omega) t hc hd) ih.n;rw[<-h2]at this;refine⟨this.n,λi hi=>this.put i (by omega),λt bC=>this.cL t λi hi=>bC i (by omega)⟩
theorem ags(ho:pT ops pl):∀(j:Nat),j<ops.size->∀i,jy pl j i->i<j:=by
 intro j;induction j using Nat.strongRecOn with
 |_ j ih=>
  intro hj i hb;obtain⟨e,he,cN,h1⟩:=ho.bits j _ (atj hj) i hb;have ai:=ho.back j _ (atj hj) e he cN;rcases h1 with rfl|h1
  ·exact ai
  ·have:=ih e.on ai (by omega) i h1;omega
theorem Hz{D:Nat->DS}{A B:Nat->Prop}{e e':Env}(h:tH ops D A e)(h':tH ops D B e'){t:Nat}(hAB:∀i,jx ops i=aa t->(A i↔B i)):e.at t=e'.at t:=by
 by_cases hx:∃i,A i/\jx ops i=aa t
 ·obtain⟨i,hi,hd⟩:=hx;rw[h.put i hi t hd,h'.put i ((hAB i hd).1 hi) t hd]
 ·rw[h.cL t λi hi hd=>hx ⟨i,hi,hd⟩,h'.cL t λi hi hd=>hx ⟨i,(hAB i hd).2 hi,hd⟩]
theorem tI{e e':Env}{j:Nat}{o:Oper}(hj:ops[j]?=aa o)(h:∀t∈Ar ops j,e.at t=e'.at t)(hn:e.n=e'.n):
 (∀x∈o.op.operands,ax e x=ax e' x)/\aQ o ops e=aQ o ops e':=by
 have hr:Ar ops j=uW ops o:=by
  unfold Ar;rw[auQ,List.getElem?_map];have:ops.toList[j]?=aa o:=by simpa using hj
  rw[this];rfl
 rw[hr]at h;refine⟨λx hx=>?_,?_⟩
 ·cases x with
  |tmp t=>exact h t (by unfold uW;rw[as8];left;exact List.mem_filterMap.2 ⟨.tmp t,by simpa using hx,rfl⟩)
  |_=>rfl
 ·unfold aQ;cases hg:o.guard with
  |none=>rfl
  |some g=>
   obtain⟨i,want⟩:=g;dsimp only;cases hd:(ops[i]?).bind (·.dst)with
   |none=>rfl
   |some d=>
    dsimp only;rw[hn,h d (by unfold uW;rw[as8];right;rw[hg];dsimp only;rw[hd];simp)]
end Go.Ev
