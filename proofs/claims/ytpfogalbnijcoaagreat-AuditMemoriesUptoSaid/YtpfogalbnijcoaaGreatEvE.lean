/- Lemmas over the model, without conditions of their own: code and calls of the ideal machine are sound; regions that draw (1). -/
import Derived.Test.YtpfogalbnijcoaaGreatEvC
open Go.Fence renaming wide->asB,inRound->aw1
open Go.Code renaming roundsIn->axc
open Go.Instr renaming getLoop->aw2,endRound->awT,yield->axm,enterLoop->avE
open Go.Sem renaming run_bind->ar_,run_pure->asj
open Go.Result renaming andThen_ok->ar7
open List renaming foldl_cons->asG,range'->aus,drop_drop->auN,length_cons->asV,range'_succ->avH,range_eq_range'->awh,mapM_nil->av3,mapM_cons->at6,zipIdx_cons->avy,map_congr_left->aub,getD_eq_getElem?_getD->at4,mk_mem_zipIdx_iff_getElem?->atb,all_eq_true->asl,mem_filter->atc,mem_append->asn
open Go.LoopState renaming busy->axS
open Decidable renaming byContradiction->at2
open Go.Oper renaming semAt_eq->atO,uponIn_enter->avx
open Nat renaming le_trans->asq,le_refl->ar8,lt_of_not_le->au4,testBit->asp,lor->avZ,testBit_or->axd,shiftLeft->avf,lt_or_eq_of_le->avl
open Bool renaming false_eq_true->asA,not_eq_true'->asR,or_eq_true->asL,and_eq_true->ar4,not_true->au0,false_or->auj
open Go renaming undef->asQ
open Array renaming replicate->atp,getElem?_eq_getElem->asw,getElem?_eq_some_iff->asX
open Option renaming map_some->asy
open Go.Call renaming operands->auT
open Go.Region renaming binds->atT
open Option.some renaming injEq->ar6
open Option renaming some->aa,none->ah
open Bool renaming true->ab,false->af
set_option linter.all false
namespace Go.Ev
variable{P:Program}{N ro m:Nat}{ι:Io}{w:World}{σ:St}{e:Env}{a:Act}{S:Self}{F:Fence}{rd:Option Nat}{Q:Exit->Act->World->Prop}
def G5(ch:List PanicEntry):Ex->Exit
 |.normal=>.normal
 |.exit id=>.exit id
 |.goto l=>.goto l
 |.ret=>.ret
 |.bY _=>.panic ch
def Vq(ι:Io)(ch:List PanicEntry):Ex->Prop
 |.bY v=>∃u,ch=[{v:=u,recovered:=af}]/\Rv ι v u
 |_=>True
def oK(ι:Io):Option IV->FrameMode->Prop
 |none,u=>u=.returning
 |some v,u=>∃x,u=.panicking [{v:=x,recovered:=af}]/\Rv ι v x
def kr(F:Fence)(rd:Option Nat)(ι:Io):Prop:=(rd=ah/\F=asB)\/∃l loc,rd=aa l/\ι l 0=aa loc/\F=asB.inRound loc.b
theorem kr.mono{aG:Io}(gR:Ext ι aG)(h:kr F rd ι):kr F rd aG:=by
 rcases h with h|⟨l,loc,h1,h2,h3⟩
 ·exact .inl h
 ·exact .inr ⟨l,loc,h1,gR _ _ _ h2,h3⟩
theorem kr.fn(h:kr F rd ι)(f:FuncId):F.fn f:=by rcases h with⟨_,rfl⟩|⟨_,_,_,_,rfl⟩<;>trivial
theorem kr.depth(h:kr F rd ι){n:Nat}:F.depth.isSome=ab->1<=n:=by rcases h with⟨_,rfl⟩|⟨_,_,_,_,rfl⟩<;>(intro h;simp[asB,aw1]at h)
theorem kr.calls(h:kr F rd ι){f:FuncId}{us:Array Value}{R:Ending->World->Prop}(hc:CallsIn asB 0 P f us w R):CallsIn F (0- 1) P f us w R:=by
 rcases h with⟨_,rfl⟩|⟨_,_,_,_,rfl⟩<;>exact hc
theorem kr.inRound(h:kr F rd ι)(l:Nat):F.inRound l=asB.inRound l:=by rcases h with⟨_,rfl⟩|⟨_,_,_,_,rfl⟩<;>rfl
def ny(N ro:Nat)(ι:Io)(w:World)(σ:St)(cr:CR)(Q:Exit->Act->World->Prop):Prop:=
 ∀a' w' aG ch,Inv N aG cr.σ w'->Le ro ι w σ aG w' cr.σ->c9 aG cr.e a'.tmps->jX aG cr.df a'.defers->Vq aG ch cr.ex->Q (G5 ch cr.ex) a' w'
def Vs(F:Fence)(P:Program)(m:Nat)(c:Code)(Q:Exit->Act->World->Prop)(a:Act)(w:World):Prop:=
 match c with
 |.loop b=>axc F 0 P b Q m a w
 |c=>c.wpIn F 0 P Q a w
theorem Vs.wp{c:Code}(h:Vs F P m c Q a w):c.wpIn F 0 P Q a w:=by
 cases c<;>first|exact h|exact wpIn_loop_rounds _ h
def wL(N ro:Nat)(ι:Io)(w:World)(σ:St)(v:IV)(ao:St):Ending->World->Prop
 |.returned u,w'=>∃aG,Rv aG v u/\Inv N aG ao w'/\Le ro ι w σ aG w' ao
 |_,_=>False
def hZ(P:Program)(S:Self)(m:Nat):Prop:=∀N ro rd fn c e df σ cr,S.code ro rd fn c e df σ=aa cr->cr.σ.n<=N->∀F ι a w Q,kr F rd ι->Inv N ι σ w->c9 ι e a.tmps->jX ι df a.defers->
 ny N ro ι w σ cr Q->Vs F P m c Q a w
def Ns(N ro:Nat)(ι:Io)(w:World)(σ:St)(v:IV)(ao:St):Ending->World->Prop
 |.panicked ch,w'=>∃aG,Vq aG ch (.bY v)/\Inv N aG ao w'/\Le ro ι w σ aG w' ao
 |_,_=>False
def Ih(N ro:Nat)(ι:Io)(w:World)(σ:St)(m:Option IV)(ao:St):Ending->FrameMode->World->Prop
 |.returned _,u,w'=>∃aG,oK aG m (settle u)/\Inv N aG ao w'/\Le ro ι w σ aG w' ao
 |_,_,_=>False
structure eu(P:Program)(S:Self):Prop where
 call:∀N ro f args σ v ao,S.call ro f args σ=aa (v,ao)->ao.n<=N->∀ι us w,Inv N ι σ w->aC ι args us->CallsIn asB 0 P f us.toArray w (wL N ro ι w σ v ao)
 bY:∀N ro f args σ v ao,S.bY ro f args σ=aa (v,ao)->ao.n<=N->∀ι us w,Inv N ι σ w->aC ι args us->CallsIn asB 0 P f us.toArray w (Ns N ro ι w σ v ao)
 wx:∀N ro f args m σ m' ao,S.wx ro f args m σ=aa (m',ao)->ao.n<=N->∀ι us u w,oK ι m u->Inv N ι σ w->aC ι args us->CallsDIn asB 0 P f us.toArray u w (Ih N ro ι w σ m' ao)
 mF:∀ro f args m σ m' ao,S.wx ro f args m σ=aa (m',ao)->∃fn,P.funcs[f]?=aa fn/\(fn.body.isSome&&fn.name != "runtime.NumGoroutine")=ab
theorem ny.from{cr:CR}{cm:Io}{w1:World}{aq:St}(h:ny N ro ι w σ cr Q)(hi:Inv N ι σ w)(hl:Le ro ι w σ cm w1 aq)(hn:aq.n<=N):ny N ro cm w1 aq cr Q:=
 λa' w' aG ch h1 h2 h3 h4 h5=>h a' w' aG ch h1 (Le.trans (λid h1 h2=>hi.fresh id h1 (by omega)) hl h2) h3 h4 h5
theorem Le.then(hi:Inv N ι σ w){cm oD:Io}{w1 w2:World}{aq dm:St}(hn:aq.n<=N)(h:Le ro ι w σ cm w1 aq)(k:Le ro cm w1 aq oD w2 dm):Le ro ι w σ oD w2 dm:=
 Le.trans (λid h1 h2=>hi.fresh id h1 (by omega)) h k
theorem xW{l:Nat}{r:Loop}(h:w.heap[l]?=aa (.loop r)):(aw2 l).run P w=.ok r w:=by
 simp only[aw2,ar_,bU (P:=P) h (by simp),ar7,asj]
theorem heap_set{b:Nat}{o:Go.Obj}(h:b<w.heap.size):(w.heap.setIfInBounds b o)[b]?=aa o:=by simp[h]
theorem Lx:∀{ps:List Tmp} {args:List IV} {us:List Value} {e:Env} {ts:Array Value},c9 ι e ts->aC ι args us->
 c9 ι ((ps.zip args).foldl (λe (p,v)=>e.put (aa p) v) e) ((ps.zip us).foldl (λtmps (t,a)=>tmps.setIfInBounds t a) ts)
 |[],_,_,_,_,h,_=>h
 |p::ps,[],us,_,_,h,hr=>by rw[hr.of_nil];exact h
 |p::ps,v::args,us,e,ts,h,hr=>by
  obtain⟨u,ph,rfl,h1,h2⟩:=hr.sS;simp only[List.zip_cons_cons,asG];exact Lx (h.set h1 p) h2
theorem qZ{l:Nat}{loc:Loc}{st:LoopState}{Af:Option Code}{f:FuncId}{tm:T IV}{sQ:Nat}{ps:List Tmp}{nV bd:Code}{mc:Nat}(hi:Inv N ι σ w)(aE:σ.at l=aa (.loop st Af f tm sQ ps nV bd mc))(hl:ι l 0=aa loc):
 ∃ld ts f',ι mc 0=aa ld/\w.heap[loc.b]?=aa (.loop {state:=st,pending:=Af,fn:=f',tmps:=ts,params:=ps.toArray,assign:=nV,body:=bd,defers:=ld.b})/\c9 ι ⟨sQ,tm⟩ ts/\loc.b<w.heap.size:=by
 obtain⟨l',ld,ts,f',cq,hd,hh,hs,ht⟩:=hi.obj l _ aE;rw[hl]at cq;cases cq;exact⟨ld,ts,f',hd,hh,⟨hs.symm,ht⟩,hi.iO l _ ⟨0,loc,hl,rfl⟩⟩
theorem XC(s:LoopState)(h:s≠.busy):(s==axS)=af:=by cases s<;>first|rfl|exact absurd rfl h
theorem J6{l:Nat}{loc:Loc}{st lG:LoopState}{Af Fl:Option Code}{f f':FuncId}{tm:T IV}{sQ:Nat}{ps:List Tmp}{nV bd:Code}{mc:Nat}{ld:Loc}{ts:Array Value}(hi:Inv N ι σ w)(cB:ro<=l)
 (aE:σ.at l=aa (.loop st Af f tm sQ ps nV bd mc))(hl:ι l 0=aa loc)(hd:ι mc 0=aa ld)(he:c9 ι ⟨sQ,tm⟩ ts):
 let go:Go.Obj:=.loop {state:=lG,pending:=Fl,fn:=f',tmps:=ts,params:=ps.toArray,assign:=nV,body:=bd,defers:=ld.b}
 Inv N ι (σ.put l (.loop lG Fl f tm sQ ps nV bd mc)) {w with heap:=w.heap.setIfInBounds loc.b go}/\Le ro ι w σ ι {w with heap:=w.heap.setIfInBounds loc.b go} (σ.put l (.loop lG Fl f tm sQ ps nV bd mc)):=by
 intro go;have ai:=hi.iO l _ ⟨0,loc,hl,rfl⟩;exact hi.kF aE cB hl ⟨loc,ld,ts,f',hl,hd,heap_set ai,he.1.symm,he.2⟩
theorem Om{l:Nat}{R:Ending->World->Prop}{ex:Ex}{ch:List PanicEntry}(hx:¬ex.acB=ab){a:Act}{w:World}(h:∃v w',(awT l (xI ex)).run P w=.ok v w'/\R (.returned v) w'):roundPost P l R (G5 ch ex) a w:=by
 cases ex<;>first|exact h|exact absurd rfl hx
theorem aaJ(hS:hZ P S m)(hm:bX S){l:Nat}{loc:Loc}{args:List IV}{us:List Value}{v:IV}{ao:St}(h:AD S ro l args σ=aa (v,ao))(hN:ao.n<=N)(hF:kr F rd ι)(hi:Inv N ι σ w)
 (hl:ι l 0=aa loc)(hr:aC ι args us):
 ∃f' ts nV bd,(axm loc.b us.toArray).run P w=.ok (.round loc.b f' ts nV bd) w/\RoundIn F 0 P loc.b f' ts nV bd w (wL N ro ι w σ v ao):=by
 unfold AD at h;split at h
 ·rename_i state pending f tm sQ params assign body mc aE;split at h
  ·cases h
  ·rename_i hc;have bL:args.length=params.length:=at2 λhx=>hc (.inl hx);have gy:ro<=l:=at2 λhx=>hc (.inr (.inl hx));have hc3:state=.ready:=at2 λhx=>hc (.inr (.inr hx));simp only at h;split at h
   ·rename_i e1 aq h1;split at h
    ·rename_i aaK f1 tm1 afu params1 SQ acC afv qH;split at h
     ·rename_i ex e2 dm h2;split at h
      ·cases h
      rename_i hnp;split at h
      ·rename_i st3 arc f3 tm3 arK params3 aqU ard ann On;cases h;obtain⟨ld,ts,f',hd,hh,he,ai⟩:=qZ hi aE hl;have xX:dm.n<=N:=hN
       have dJ:aq.n<=N:=by
        have:=hm _ _ _ _ _ _ _ _ h2;simp only[St.nu]at this;omega
       have aT:us.toArray.size=params.toArray.size:=by simp[<-hr.1,bL]
       refine⟨f',(params.zip us).foldl (λtmps (t,a)=>tmps.setIfInBounds t a) ts,assign,body,?_,?_⟩
       ·have hz:((params.toArray.zip us.toArray).foldl (λtmps (t,a)=>tmps.setIfInBounds t a) ts)=(params.zip us).foldl (λtmps (t,a)=>tmps.setIfInBounds t a) ts:=by simp[List.zip_toArray]
        simp only[axm,ar_,xW hh,ar7,aT,ne_eq,not_true_eq_false,if_false,asj,hz]
       ·refine roundIn_of_wpIn (hF.fn f') ?_;rw[hF.inRound];refine(hS N ro (aa l) f assign _ [] σ _ h1 dJ (asB.inRound loc.b) ι {tmps:=_,defers:=[]} w _ (.inr ⟨l,loc,rfl,hl,rfl⟩) hi (Lx he hr) trivial ?_).wp;intro a1 w1 cm eS i1 l1 cY d1 p1;have qY:=l1.ext _ _ _ hl;obtain⟨ld1,ts1,f1',AM,xY,mh,dZ⟩:=qZ i1 qH qY;obtain⟨i2,l2⟩:=J6 (ro:=ro) (lG:=.busy) (Fl:=aaK) (f':=f1') i1 gy qH qY AM mh;refine⟨_,by simp only[Instr.beginRound,ar_,xW xY,ar7,eH (P:=P) xY (by simp),asj];rfl,?_⟩;refine(hS N ro (aa l) f body _ [] _ _ h2 xX (asB.inRound loc.b) cm a1 _ _ (.inr ⟨l,loc,rfl,qY,rfl⟩) i2 cY d1 ?_).wp;intro a2 w2 oD ch2 i3 l3 e2' d2 p2;refine Om hnp ?_;have eR:=l3.ext _ _ _ qY;obtain⟨ld2,ts2,f2',Ly,s8,C3,dY⟩:=qZ i3 On eR;obtain⟨i4,l4⟩:=J6 (ro:=ro) (lG:=if(xI ex).isNone then .ready else .done) (Fl:=xI ex) (f':=f2') i3 gy On eR Ly C3;refine⟨.bool (xI ex).isNone,_,by simp only[awT,ar_,xW s8,ar7,eH (P:=P) s8 (by simp),asj];rfl,oD,?_,?_,?_⟩
        ·exact .raw _
        ·exact i4
        ·have Oo:=Le.then i2 xX l3 l4;have l24:=Le.then i1 (by simp only[St.nu];exact dJ) l2 Oo;exact Le.then hi dJ l1 l24
      ·cases h
     ·cases h
    ·cases h
   ·cases h
 ·cases h
end Go.Ev
namespace Go.Ev
variable{P:Program}{N ro m:Nat}{ι:Io}{w:World}{σ:St}{e:Env}{a:Act}{S:Self}{F:Fence}{rd:Option Nat}{Q:Exit->Act->World->Prop}
theorem h_{ρ:Operand->IV}{o:Oper}{out:eC}(h:av P ro ρ o σ=aa out)(hd:∀d,out≠.SP d):∀c,o.op≠.defer c:=by
 intro c hc;unfold av at h;rw[hc]at h;dsimp only at h;split at h
 ·split at h
  ·cases h;exact hd _ rfl
  ·cases h
 ·cases h
theorem AN(hS:hZ P S m)(hC:eu P S)(hm:bX S){o:Oper}{v:IV}{ao:St}{next:Act->World->Prop}(h:jA P S ro e o σ=aa (v,ao))(hN:ao.n<=N)(hF:kr F rd ι)(hi:Inv N ι σ w)
 (he:c9 ι e a.tmps)(hQ:∀u w' aG,Rv aG v u->Inv N aG ao w'->Le ro ι w σ aG w' ao->next (a.put o.dst u) w'):o.wpIn F 0 P a w next Q:=by
 refine⟨λf _=>hF.fn f,?_⟩;unfold jA at h;split at h
 ·rename_i v1 aq h1;cases h;rw[atO _ _ _ (h_ h1 (by simp))];obtain⟨u,w',aG,hr,h2,h3,h4⟩:=oI hi he.eval h1 hN;rcases hr with hr|⟨hr,rfl⟩
  ·rw[hr,Oper.uponIn_value];exact hQ _ _ _ h2 h3 h4
  ·rw[hr,Oper.uponIn_skip];exact hQ _ _ _ h2 h3 h4
 ·rename_i f args h1;rw[atO _ _ _ (h_ h1 (by simp))];obtain⟨us,hr,h2⟩:=oI hi he.eval h1;rw[hr,avx];refine⟨hF.depth,(hF.calls (hC.call N ro f args σ v ao h hN ι us w hi h2)).mono λe w' hR=>?_⟩;cases e with
  |returned u=>obtain⟨aG,h3,h4,h5⟩:=hR;exact hQ _ _ _ h3 h4 h5
  |panicked chain=>exact hR.elim
  |outgrown=>exact hR.elim
 ·rename_i l args h1;rw[atO _ _ _ (h_ h1 (by simp))];obtain⟨loc,us,hl,hr,h2⟩:=oI hi he.eval h1;obtain⟨f',ts,nV,bd,h3,h4⟩:=aaJ (F:=F) hS hm h hN hF hi hl h2;rw[hr,h3,Oper.uponIn_round];refine⟨hF.depth,RoundIn.mono h4 λe w' hR=>?_⟩;cases e with
  |returned u=>obtain⟨aG,h3,h4,h5⟩:=hR;exact hQ _ _ _ h3 h4 h5
  |panicked chain=>exact hR.elim
  |outgrown=>exact hR.elim
 ·cases h
theorem Ii(hS:hZ P S m)(hC:eu P S)(hm:bX S)(hk:bF S){ops:Array Oper}:∀{l:List Oper} {k:Nat} {e:Env} {df:List Df} {σ:St} {cr:CR} {ι:Io} {a:Act} {w:World},
 ops.toList.drop k=l->yY P S ro rd ops l e df σ=aa cr->cr.σ.n<=N->kr F rd ι->Inv N ι σ w->c9 ι e a.tmps->jX ι df a.defers->ny N ro ι w σ cr Q->
 wpOpsIn F 0 P ops Q (aus k l.length) a w
 |[],k,e,df,σ,cr,ι,a,w,hl,h,hN,hF,hi,he,hd,hQ=>by
  cases h;exact hQ a w ι [] hi (Le.refl _ _ _ _) he hd trivial
 |o::rest,k,e,df,σ,cr,ι,a,w,hl,h,hN,hF,hi,he,hd,hQ=>by
  have gg:ops.toList.drop (k+1)=rest:=by
   rw[<-auN (i:=1) (j:=k),hl];rfl
  have bp:ops[k]?=aa o:=by
   have:(ops.toList.drop k)[0]?=aa o:=by rw[hl];rfl
   simpa using this
  simp only[asV,avH];rw[wpOpsIn_cons];unfold wpOpIn;rw[bp];simp only;unfold yY at h;rw[sq he];split at h
  ·rename_i hw;rw[if_pos hw];split at h
   ·rename_i v aq h1;have dJ:aq.n<=N:=asq (xV hm hk h) hN;refine AN hS hC hm h1 dJ hF hi he λu w' aG hv i1 l1=>?_;exact Ii hS hC hm hk gg h hN (hF.mono l1.ext) i1 ((he.mono l1.ext).put hv _) (hd.mono l1.ext|>λx=>by cases o.dst<;>exact x) (hQ.from hi l1 dJ)
   ·split at h
    ·rename_i d h1;split at h
     ·rename_i jC;have hrn:rd=ah:=by cases rd with|none=>rfl|some _=>cases jC
      have XD:F=asB:=by
       rcases hF with⟨_,h2⟩|⟨_,_,h2,_⟩
       ·exact h2
       ·rw[hrn]at h2;cases h2
      refine⟨λf _=>hF.fn f,?_⟩;obtain⟨dd,hr,xZ,c,hc⟩:=oI hi he.eval h1;have aaL:(o.semAt F.round a.eval)=execOp a.eval o:=by rw[XD];rfl
      rw[aaL,hr,Oper.uponIn_defer];refine Ii hS hC hm hk gg h hN hF hi ?_ ?_ hQ
      ·cases fY:o.dst with
       |none=>exact he
       |some t=>exact he.set rQ t
      ·cases o.dst<;>exact⟨xZ,hd⟩
     ·cases h
    ·rename_i f args h1;split at h
     ·rename_i v aq h2;cases h;refine⟨λf _=>hF.fn f,?_⟩;rw[atO _ _ _ (h_ h1 (by simp))];obtain⟨us,hr,h3⟩:=oI hi he.eval h1;rw[hr,avx];refine⟨hF.depth,(hF.calls (hC.bY N ro f args σ v aq h2 hN ι us w hi h3)).mono λed w' hR=>?_⟩;cases ed with
      |returned u=>exact hR.elim
      |outgrown=>exact hR.elim
      |panicked chain=>
       obtain⟨aG,h4,h5,h6⟩:=hR;exact hQ a w' aG chain h5 h6 (he.mono h6.ext) (hd.mono h6.ext) h4
     ·cases h
    ·rename_i v h1;cases h;refine⟨λf _=>hF.fn f,?_⟩;rw[atO _ _ _ (h_ h1 (by simp))];obtain⟨u,hr,h3⟩:=oI hi he.eval h1;rw[hr,Oper.uponIn_panic];exact hQ a w ι [{v:=u,recovered:=af}] hi (Le.refl _ _ _ _) he hd ⟨u,rfl,h3⟩
    ·cases h
  ·rename_i hw;rw[if_neg hw];exact⟨λf _=>hF.fn f,Ii hS hC hm hk gg h hN hF hi (he.put rQ _) (by cases o.dst<;>exact hd) hQ⟩
def Oq(P:Program)(S:Self):Prop:=∀N ro rd ops e df σ cr,NW P S ro ops e df σ=aa cr->cr.σ.n<=N->∀F ι a w Q id,kr F rd ι->Inv N ι σ w->c9 ι e a.tmps->jX ι df a.defers->
 ny N ro ι w σ cr Q->(Code.region id ops ab).wpIn F 0 P Q a w
theorem G6{x:IV}{b:Bool}{u:Value}(hx:x=.raw (.bool b))(h:Rv ι x u):u=.bool b:=by subst hx;cases h;rfl
theorem jX.append:∀{ds:List Df} {xs:List Deferred} {mj:List Df} {nX:List Deferred},jX ι ds xs->jX ι mj nX->jX ι (ds++mj) (xs++nX)
 |[],[],_,_,_,h=>h
 |_::_,_::_,_,_,h,h'=>⟨h.1,jX.append h.2 h'⟩
 |[],_::_,_,_,h,_=>h.elim
 |_::_,[],_,_,h,_=>h.elim
def Ot(rd:Option Nat)(σ:St):Option (Nat×St×List Df):=
 match rd with
 |none=>aa (σ.n,σ.add (.Gi af),[.Dq σ.n])
 |some l=>match σ.at l with
  |some (.loop _ _ _ _ _ _ _ _ mc)=>aa (mc,σ,[])
  |_=>ah
theorem aaM{mc:Nat}{aq:St}{mark:List Df}(h:Ot rd σ=aa (mc,aq,mark))(hN:aq.n<=N)(hF:kr F rd ι)(hi:Inv N ι σ w):
 ∃w1 cm ld marks,Inv N cm aq w1/\Le ro ι w σ cm w1 aq/\cm mc 0=aa ld/\jX cm mark marks/\
  ∀fn ts ps nV bd,(avE fn ts ps nV bd F.round).run P w=.ok (w1.heap.size,marks) {w1 with heap:=w1.heap.push (.loop {state:=.ready,pending:=ah,fn,tmps:=ts,params:=ps,assign:=nV,body:=bd,defers:=ld.b})}:=by
 unfold Ot at h;split at h
 ·cases h
  have XD:F.round=ah:=by
   rcases hF with⟨_,rfl⟩|⟨_,_,h,_⟩
   ·rfl
   ·cases h
  obtain⟨h1,h2⟩:=hi.DF (ro:=ro) (go:=.deferred (aa [])) (ob:=.Gi af) (by simp at hN;omega) ⟨_,cd _ _ _ _,by simp⟩;refine⟨_,_,⟨w.heap.size,1,1⟩,[{target:=.collected w.heap.size,args:= #[]}],h1,h2,cd _ _ _ _,⟨⟨_,cd _ _ _ _,rfl⟩,trivial⟩,λfn ts ps nV bd=>?_⟩;rw[XD];simp only[avE,ar_,run_newObj,ar7,asj]
 ·rename_i l;split at h
  ·rename_i aE;cases h;rcases hF with⟨h,_⟩|⟨l',loc,h,hl,rfl⟩
   ·cases h
   ·cases h;obtain⟨ld,ts,f',hd,hh,he,ai⟩:=qZ hi aE hl;refine⟨w,ι,ld,[],hi,Le.refl _ _ _ _,hd,trivial,λfn ts ps nV bd=>?_⟩;simp only[avE,aw1,ar_,xW hh,run_newObj,ar7,asj]
  ·cases h
theorem aaN(hS:hZ P S m)(hC:eu P S)(hm:bX S)(hk:bF S){fn:FuncId}{g:Operand}{ps:Array Tmp}{nV bd:Code}{df:List Df}{cr:CR}
 (h:vH P S ro rd fn (.rangeFunc g ps nV bd) e df σ=aa cr)(hN:cr.σ.n<=N)(hF:kr F rd ι)(hi:Inv N ι σ w)(he:c9 ι e a.tmps)(hd:jX ι df a.defers)(hQ:ny N ro ι w σ cr Q):
 (Code.rangeFunc g ps nV bd).wpIn F 0 P Q a w:=by
 unfold vH at h;dsimp only at h
 change(match Ot rd σ with
  |some (mc,σ,mark)=>_
  |none=>ah)=aa cr at h
 split at h
 ·rename_i mc aq mark oJ;split at h
  ·rename_i f args iA;split at h
   ·rename_i v3 vN acE;split at h
    ·rename_i st Af f3 tm sQ ps3 as3 bd3 ann On;split at h
     ·cases h
     ·rename_i hb;have cI:st≠.busy:=λhx=>hb (.inl hx);have fg:ro<=aq.n:=at2 λhx=>hb (.inr hx)
      have Ou:vN.n<=N:=by
       split at h
       ·cases h;exact hN
       ·have:=hm _ _ _ _ _ _ _ _ h;simp only[St.nu]at this;omega
      have xX:=hk.call _ _ _ _ _ _ acE;simp only[St.kY]at xX;obtain⟨w1,cm,ld,marks,i1,l1,AO,Ov,DL⟩:=aaM (P:=P) (ro:=ro) oJ (by omega) hF hi;refine wpIn_rangeFunc λfn' _=>?_;have j_:=i1.fresh aq.n (ar8 _) (by omega) 0;have jo:=kI (l:=⟨w1.heap.size,1,1⟩) j_
      obtain⟨i2,l2⟩:=i1.DF (ro:=ro) (go:=.loop {state:=.ready,pending:=ah,fn:=fn',tmps:=a.tmps,params:=ps,assign:=nV,body:=bd,defers:=ld.b}) (ob:=.loop .ready ah fn e.t e.n ps.toList nV bd mc) (by omega)
       ⟨⟨w1.heap.size,1,1⟩,ld,a.tmps,fn',cd _ _ _ _,jo _ _ _ AO,by simp,he.1.symm,λt=>((he.2 t).mono l1.ext).mono jo⟩
      have eR:dM cm aq.n 0 ⟨w1.heap.size,1,1⟩ aq.n 0=aa ⟨w1.heap.size,1,1⟩:=cd _ _ _ _;generalize DM:({w1 with heap:=w1.heap.push (.loop {state:=.ready,pending:=ah,fn:=fn',tmps:=a.tmps,params:=ps,assign:=nV,body:=bd,defers:=ld.b})}:World)=w2 at i2 l2;generalize dM cm aq.n 0 ⟨w1.heap.size,1,1⟩=oD at i2 l2 eR jo;obtain⟨d,er,dV⟩:=DH (w:=w2) (((he.mono l1.ext).mono jo).eval g) (aC.cons (.AA aq.n _ eR) aC.nil) iA;rcases dV with⟨f',as,vs,gV,hinv,gY,_⟩|⟨_,_,gV,_⟩
      ·cases gV;refine⟨w1.heap.size,marks,w2,d,w2,f,vs.toArray,w2,by rw[DL,DM],?_,λf' _=>hF.fn f',hinv,hF.depth,?_⟩
       ·simpa[resolve,rangeCall,Act.eval]using er
       ·refine(hF.calls (hC.call N ro f args _ _ _ acE Ou oD vs w2 i2 gY)).mono λed w3 hR=>?_;cases ed with
        |panicked chain=>exact hR.elim
        |outgrown=>exact hR.elim
        |returned u=>
         obtain⟨ι3,_,i3,l3⟩:=hR;have Gu:=l3.ext _ _ _ eR;obtain⟨ld3,ts3,f3',hd3,hh3,S4,DN⟩:=qZ i3 On Gu;obtain⟨i4,l4⟩:=J6 (ro:=ro) (lG:=.exhausted) (Fl:=Af) (f':=f3') i3 fg On Gu hd3 S4;refine⟨Af,_,by simp only[Instr.endLoop,ar_,xW hh3,ar7,XC st cI,asA,if_false,eH (P:=P) hh3 (by simp),asj];rfl,?_⟩;have l34:=Le.then i2 Ou l3 l4;have l24:=Le.then i1 (by simp only[St.kY];omega) l2 l34;have Oo:=Le.then hi (by omega) l1 l24;have e4:c9 ι3 e a.tmps:=he.mono Oo.ext;have d4:jX ι3 (mark++df) (marks++a.defers):=(Ov.mono l24.ext).append (hd.mono Oo.ext);split at h
         ·cases h;exact hQ _ _ _ [] i4 Oo e4 d4 trivial
         ·rename_i c;exact(hS N ro rd fn c e _ _ cr h hN F ι3 {a with defers:=marks++a.defers} _ Q (hF.mono Oo.ext) i4 e4 d4 (hQ.from hi Oo (by simp only[St.nu];exact Ou))).wp
      ·cases gV
    ·cases h
   ·cases h
  ·cases h
 ·cases h
theorem S5(hS:hZ P S m)(hC:eu P S)(hm:bX S)(hk:bF S)(hD:Oq P S):hZ P (lB P S) (m+1):=by
 intro N ro rd fn c e df σ cr h hN F ι a w Q hF hi he hd hQ;change vH P S ro rd fn c e df σ=aa cr at h;cases c<;>unfold vH at h<;>dsimp only at h
 case skip=>cases h;exact wpIn_skip (hQ a w ι [] hi (Le.refl _ _ _ _) he hd trivial)
 case label=>cases h;exact wpIn_label (hQ a w ι [] hi (Le.refl _ _ _ _) he hd trivial)
 case exit=>cases h;exact wpIn_exit (hQ a w ι [] hi (Le.refl _ _ _ _) he hd trivial)
 case goto=>cases h;exact wpIn_goto (hQ a w ι [] hi (Le.refl _ _ _ _) he hd trivial)
 case ret=>cases h;exact wpIn_ret (hQ a w ι [] hi (Le.refl _ _ _ _) he hd trivial)
 case refuse=>cases h
 case region id ops draw=>
  split at h
  ·rename_i Ic;subst Ic;exact hD N ro rd ops e df σ cr h hN F ι a w Q id hF hi he hd hQ
  ·rename_i Ic;have:draw=af:=by simpa using Ic
   subst this;refine wpIn_region ?_;have:=Ii (k:=0) hS hC hm hk (by simp) h hN hF hi he hd hQ;rw[awh];simpa using this
 case seq x y=>
  refine wpIn_seq ?_;split at h
  ·rename_i e1 wB aq h1;have dJ:aq.n<=N:=asq (hm _ _ _ _ _ _ _ _ h) hN;refine(hS N ro rd fn x e df σ _ h1 dJ F ι a w _ hF hi he hd ?_).wp;intro a1 w1 cm eS i1 l1 cY d1 p1;exact(hS N ro rd fn y _ _ _ _ h hN F cm a1 w1 Q (hF.mono l1.ext) i1 cY d1 (hQ.from hi l1 dJ)).wp
  ·rename_i bw;refine(hS N ro rd fn x e df σ _ h hN F ι a w _ hF hi he hd ?_).wp;intro a1 w1 cm eS i1 l1 cY d1 p1;have:=hQ a1 w1 cm eS i1 l1 cY d1 p1;cases hx:cr.ex with
   |normal=>exact absurd (by rw[h];cases cr;cases hx;rfl) (bw cr.e cr.df cr.σ)
   |exit id=>rw[hx]at this;exact this
   |goto l=>rw[hx]at this;exact this
   |ret=>rw[hx]at this;exact this
   |bY v=>rw[hx]at this;exact this
 case cond c x y=>
  split at h
  ·rename_i t ht;have hc:=G6 ht (he.eval c);exact wpIn_cond hc (hS N ro rd fn _ e df σ cr h hN F ι a w Q hF hi he hd hQ).wp
  ·cases h
 case block id x=>
  refine wpIn_block ?_;split at h
  ·rename_i bA e1 wB aq h1
   have dJ:aq.n<=N:=by
    split at h<;>(cases h;exact hN)
   refine(hS N ro rd fn x e df σ _ h1 dJ F ι a w _ hF hi he hd ?_).wp;intro a1 w1 cm eS i1 l1 cY d1 p1;simp only[G5,Exit.inBlock];split at h
   ·rename_i hid;cases h;rw[if_pos hid];exact hQ a1 w1 cm eS i1 l1 cY d1 p1
   ·rename_i hid;cases h;rw[if_neg hid];exact hQ a1 w1 cm eS i1 l1 cY d1 p1
  ·rename_i bw;refine(hS N ro rd fn x e df σ _ h hN F ι a w _ hF hi he hd ?_).wp;intro a1 w1 cm eS i1 l1 cY d1 p1;have:=hQ a1 w1 cm eS i1 l1 cY d1 p1;cases hx:cr.ex with
   |exit bA=>exact absurd (by rw[h];cases cr;cases hx;rfl) (bw bA cr.e cr.df cr.σ)
   |normal=>rw[hx]at this;exact this
   |goto l=>rw[hx]at this;exact this
   |ret=>rw[hx]at this;exact this
   |bY v=>rw[hx]at this;exact this
 case loop x=>
  show axc F 0 P x Q (m+1) a w;rw[roundsIn_succ];split at h
  ·rename_i e1 wB aq h1;have dJ:aq.n<=N:=asq (hm _ _ _ _ _ _ _ _ h) hN;refine(hS N ro rd fn x e df σ _ h1 dJ F ι a w _ hF hi he hd ?_).wp;intro a1 w1 cm eS i1 l1 cY d1 p1;exact hS N ro rd fn (.loop x) _ _ _ _ h hN F cm a1 w1 Q (hF.mono l1.ext) i1 cY d1 (hQ.from hi l1 dJ)
  ·rename_i bw;refine(hS N ro rd fn x e df σ _ h hN F ι a w _ hF hi he hd ?_).wp;intro a1 w1 cm eS i1 l1 cY d1 p1;have:=hQ a1 w1 cm eS i1 l1 cY d1 p1;cases hx:cr.ex with
   |normal=>exact absurd (by rw[h];cases cr;cases hx;rfl) (bw cr.e cr.df cr.σ)
   |exit id=>rw[hx]at this;exact this
   |goto l=>rw[hx]at this;exact this
   |ret=>rw[hx]at this;exact this
   |bY v=>rw[hx]at this;exact this
 case scope x=>
  refine Ig ?_;split at h
  ·cases h
  ·rename_i bw;refine(hS N ro rd fn x e df σ _ h hN F ι a w _ hF hi he hd ?_).wp;intro a1 w1 cm eS i1 l1 cY d1 p1;have:=hQ a1 w1 cm eS i1 l1 cY d1 p1;cases hx:cr.ex with
   |goto l=>exact absurd (by rw[h];cases cr;cases hx;rfl) (bw l cr.e cr.df cr.σ)
   |normal=>rw[hx]at this;exact this
   |exit id=>rw[hx]at this;exact this
   |ret=>rw[hx]at this;exact this
   |bY v=>rw[hx]at this;exact this
 case rangeFunc g params assign body=>
  exact aaN hS hC hm hk (by unfold vH;exact h) hN hF hi he hd hQ
end Go.Ev
namespace Go.Ev
variable{P:Program}{N ro m:Nat}{ι:Io}{w:World}{σ:St}{e:Env}{a:Act}{S:Self}{F:Fence}{rd:Option Nat}{Q:Exit->Act->World->Prop}
theorem S6{m:Option IV}{u:FrameMode}(h:oK ι m u):u≠.run:=by
 cases m with
 |none=>rw[show u=_ from h];simp
 |some v=>obtain⟨x,rfl,_⟩:=h;simp
theorem rR(hC:eu P S)(hk:bF S){fn:Func}{ts:Array Value}{R:Ending->World->Prop}:∀{df:List Df} {ds:List Deferred} {σ ao:St} {m m':Option IV} {u:FrameMode} {ι:Io} {w:World},fV S ro df m σ=aa (m',ao)->
 jX ι df ds->oK ι m u->Inv N ι σ w->ao.n<=N->
 (∀w' aG u',Inv N aG ao w'->Le ro ι w σ aG w' ao->oK aG m' u'->LeavesIn asB 0 P fn ts R [] u' w')->LeavesInM asB 0 P fn ts R ds u w
 |[],[],σ,ao,m,m',u,ι,w,h,_,hu,hi,_,hQ=>by
  cases h;exact hQ w ι u hi (Le.refl _ _ _ _) hu
 |.Dq id::df,d::ds,σ,ao,m,m',u,ι,w,h,hd,hu,hi,hn,hQ=>by
  unfold fV at h;obtain⟨⟨l,hl,rfl⟩,vO⟩:=hd;split at h
  ·rename_i aE;split at h
   ·rename_i cB;obtain⟨l',cq,hh⟩:=hi.obj id _ aE;rw[hl]at cq;cases cq;have ai:=hi.iO id _ ⟨0,l,hl,rfl⟩;obtain⟨i1,l1⟩:=hi.kF (ro:=ro) (go:=.deferred ah) (eK:=.Gi ab) aE cB hl ⟨l,hl,heap_set ai⟩;have mG:=kc hk h;simp only[St.nu]at mG;refine⟨S6 hu,.inl ⟨l.b,_,rfl,?_,rR hC hk h vO hu i1 hn λw' aG u' i2 l2 y8=>hQ w' aG u' i2 (Le.then hi (by simp only[St.nu];omega) l1 l2) y8⟩⟩;simp only[Instr.takeDeferred,ar_,bU (P:=P) hh (by simp),ar7,asA,if_false,eH (P:=P) hh (by simp),asj]
   ·cases h
  ·cases h
 |.call f args::df,d::ds,σ,ao,m,m',u,ι,w,h,hd,hu,hi,hn,hQ=>by
  unfold fV at h;obtain⟨⟨cap,us,vs,rfl,gY,fB⟩,vO⟩:=hd;split at h
  ·rename_i m1 aq h1;have mG:=kc hk h;have hc:=hC.wx N ro f args m σ m1 aq h1 (by omega) ι vs u w hu hi gY;refine⟨S6 hu,.inr ⟨by simp[asB],.func f,cap.toArray,f,vs.toArray,rfl,?_,λg _=>trivial,?_⟩⟩
   ·obtain⟨fn',bT,hb⟩:=hC.mF ro f args m σ m1 aq h1;simp only[invoke];rw[uY bT hb,fB];simp
   ·refine hc.mono λe u' w' hR=>?_;cases e with
    |returned v=>
     obtain⟨cm,x_,i1,l1⟩:=hR;exact rR hC hk h (vO.mono l1.ext) x_ i1 hn λw2 oD u2 i2 l2 q0=>hQ w2 oD u2 i2 (Le.then hi (by omega) l1 l2) q0
    |panicked chain=>exact hR.elim
    |outgrown=>exact hR.elim
  ·cases h
 |[],_::_,_,_,_,_,_,_,_,_,h,_,_,_,_=>h.elim
 |.Dq _::_,[],_,_,_,_,_,_,_,_,h,_,_,_,_=>h.elim
 |.call _ _::_,[],_,_,_,_,_,_,_,_,h,_,_,_,_=>h.elim
def Ai(P:Program)(e:Env)(σ:St)(r:ResultVar):Option IV:=
 match r with
 |.tmp t=>aa (e.at t)
 |.cell a t=>match e.at a with
  |.ptr id off ep ext=>match aN P t,σ.at id with
   |some s,aa (.cells cs ay mn)=>if s<=ext/\mn<=ep/\ep<=ay then partOf P t cs off else ah
   |_,_=>ah
  |_=>ah
def J7(ts:Array Value)(r:ResultVar):Sem Value:=
 match r with
 |.tmp t=>pure (ts.getD t asQ)
 |.cell a t=>do loadVar t (<-asAddr (ts.getD a asQ))
theorem afH{ts:Array Value}{r:ResultVar}{v:IV}(h:Ai P e σ r=aa v)(hi:Inv N ι σ w)(he:c9 ι e ts):∃u,(J7 ts r).run P w=.ok u w/\Rv ι v u:=by
 unfold Ai at h;unfold J7;cases r with
 |tmp t=>cases h;exact⟨_,by simp only[asj],he.2 t⟩
 |cell a t=>
  simp only at h⊢;have hr:=he.2 a;split at h
  ·rename_i id off ep ext hx;rw[hx]at hr;split at h
   ·rename_i s cs ay mn hs aE;split at h
    ·rename_i hc;obtain⟨ad,x,hu,h1,h2⟩:=Dt hi hs aE hc.1 hc.2.1 hc.2.2 h hr;refine⟨x,?_,h2⟩;rw[hu];simp only[asAddr,ar_,asj,ar7,h1]
    ·cases h
   ·cases h
  ·cases h
theorem S7{ts:Array Value}(hi:Inv N ι σ w)(he:c9 ι e ts):∀{rs:List ResultVar} {vs:List IV},rs.mapM (Ai P e σ)=aa vs->∃us,(rs.mapM (J7 ts)).run P w=.ok us w/\aC ι vs us
 |[],vs,h=>by
  simp only[av3]at h;cases h;exact⟨[],by simp only[av3,asj],aC.nil⟩
 |r::rs,vs,h=>by
  rw[at6]at h;cases h1:Ai P e σ r with
  |none=>rw[h1]at h;cases h
  |some v=>
   rw[h1]at h;cases h2:rs.mapM (Ai P e σ)with
   |none=>rw[h2]at h;cases h
   |some wy=>
    rw[h2]at h;cases h;obtain⟨u,k1,k2⟩:=afH h1 hi he;obtain⟨us,k3,k4⟩:=S7 hi he h2;exact⟨u::us,by simp only[at6,ar_,k1,ar7,k3,asj],aC.cons k2 k4⟩
theorem Vt(fn:Func)(ts:Array Value):results fn ts=(do
 let vs<-fn.results.mapM (J7 ts)
 pure (if h:vs.size=1 then vs[0]else .tuple vs)):=by
 unfold results
 have:(λr:ResultVar=>(match r with|.tmp t=>pure (ts.getD t asQ)|.cell a t=>do loadVar t (<-asAddr (ts.getD a asQ)):Sem Value))=J7 ts:=by
  funext r;cases r<;>rfl
 rw[<-this];rfl
theorem Sw{fn:Func}{v:IV}(h:bJ P fn e σ=aa v):∃vs,fn.results.toList.mapM (Ai P e σ)=aa vs/\((∃x,vs=[x]/\v=x)\/(vs.length≠1/\v=.az vs)):=by
 unfold bJ at h;dsimp only at h
 change(match fn.results.toList with
  |[r]=>Ai P e σ r
  |l=>match l.mapM (Ai P e σ)with
   |some vs=>aa (.az vs)
   |none=>ah)=aa v at h
 split at h
 ·rename_i r hl;exact⟨[v],by rw[hl,at6,h];rfl,.inl ⟨v,rfl,rfl⟩⟩
 ·rename_i hl;split at h
  ·rename_i vs gY;cases h;refine⟨vs,gY,.inr ⟨λhlen=>?_,rfl⟩⟩
   have qY:fn.results.toList.length=vs.length:=by
    clear hl hlen;generalize fn.results.toList=l at gY;induction l generalizing vs with
    |nil=>cases gY;rfl
    |cons r rs ih=>
     rw[at6]at gY;cases h1:Ai P e σ r with
     |none=>rw[h1]at gY;cases gY
     |some v=>
      rw[h1]at gY;cases h2:rs.mapM (Ai P e σ)with
      |none=>rw[h2]at gY;cases gY
      |some wy=>
       rw[h2]at gY;cases gY;simp[ih _ h2]
   cases hc:fn.results.toList with
   |nil=>rw[hc]at qY;simp at qY;omega
   |cons r rs=>
    cases rs with
    |nil=>exact hl r hc
    |cons r2 rs2=>rw[hc]at qY;simp at qY;omega
  ·cases h
theorem s9{fn:Func}{ts:Array Value}{v:IV}(h:bJ P fn e σ=aa v)(hi:Inv N ι σ w)(he:c9 ι e ts):∃u,(results fn ts).run P w=.ok u w/\Rv ι v u:=by
 obtain⟨vs,gY,h⟩:=Sw h;obtain⟨us,h1,h2⟩:=S7 hi he gY
 have hm:(fn.results.mapM (J7 ts)).run P w=.ok us.toArray w:=by
  rw[Array.mapM_eq_mapM_toList,Sem.run_map,h1];rfl
 rw[Vt];simp only[ar_,hm,ar7,asj];refine⟨_,rfl,?_⟩;rcases h with⟨x,rfl,rfl⟩|⟨hlen,rfl⟩
 ·obtain⟨u,rfl,hu⟩:=uC h2;simpa using hu
 ·have:¬us.toArray.size=1:=by rw[List.size_toArray,<-h2.1];exact hlen
  rw[dif_neg this];exact p5 h2
theorem Ow:∀{args:List IV} {us:List Value} {k:Nat} {e:Env} {ts:Array Value},c9 ι e ts->aC ι args us->
 c9 ι ((args.zipIdx k).foldl (λe (v,i)=>e.put (aa i) v) e) ((us.zipIdx k).foldl (λts (u,i)=>ts.setIfInBounds i u) ts)
 |[],us,k,e,ts,h,hr=>by rw[hr.of_nil];exact h
 |v::args,us,k,e,ts,h,hr=>by
  obtain⟨u,ph,rfl,h1,h2⟩:=hr.sS;simp only[avy,asG];exact Ow (h.set h1 k) h2
theorem Ij:∀(us:List Value) (k:Nat) (ts:Array Value),k+us.length<=ts.size->(us.zipIdx k).foldl (λts (u,i)=>ts.setIfInBounds i u) ts=(ts.toList.take k++us++ts.toList.drop (k+us.length)).toArray
 |[],k,ts,_=>by simp
 |u::us,k,ts,h=>by
  simp only[avy,asG];simp only[asV]at h;rw[Ij us (k+1) _ (by simp;omega)]
  congr 1
  simp only[Array.toList_setIfInBounds,asV]
  have h1:(ts.toList.set k u).take (k+1)=ts.toList.take k++[u]:=by
   have hk:k<ts.toList.length:=by simp;omega
   rw[List.take_add_one,List.getElem?_set_self hk];simp[List.take_set_of_le]
  have h2:(ts.toList.set k u).drop (k+1+us.length)=ts.toList.drop (k+(us.length+1)):=by
   rw[List.drop_set_of_lt (by omega)]
   congr 1
   omega
  rw[h1,h2];simp
theorem aee(n:Nat):c9 ι ⟨n,.lf⟩ (atp n asQ):=by
 refine⟨by simp,λt=>?_⟩
 have:(atp n asQ).getD t asQ=asQ:=by
  rw[Array.getD_eq_getD_getElem?,Array.getElem?_replicate];split<;>rfl
 rw[this];exact .raw _
theorem ya{args:List IV}{us:List Value}{n:Nat}(hr:aC ι args us)(hn:args.length<=n):
 c9 ι (args.zipIdx.foldl (λe (v,i)=>e.put (aa i) v) ⟨n,.lf⟩) (us.toArray++atp (n- us.toArray.size) asQ):=by
 have h:=Ow (k:=0) (aee (ι:=ι) n) hr;have hl:=hr.1;rw[Ij us 0 _ (by simp;omega)]at h
 have:(us.toArray++atp (n- us.toArray.size) asQ)=((atp n asQ).toList.take 0++us++(atp n asQ).toList.drop (0+us.length)).toArray:=by
  simp
 rw[this];exact h
theorem S8(hS:hZ P S m)(hC:eu P S)(hm:bX S)(hk:bF S){f:FuncId}{args:List IV}{XE:Func}{e':Env}{mo:Option IV}{ao:St}{us:List Value}{R:Ending->World->Prop}
 (h:AF P S ro f args σ=aa (XE,e',mo,ao))(hN:ao.n<=N)(hi:Inv N ι σ w)(hr:aC ι args us)
 (hQ:∀ts w' aG u',Inv N aG ao w'->Le ro ι w σ aG w' ao->c9 aG e' ts->oK aG mo u'->LeavesIn asB 0 P XE ts R [] u' w'):CallsIn asB 0 P f us.toArray w R:=by
 unfold AF at h;split at h
 ·rename_i fn bT;split at h
  ·rename_i c hb;split at h
   ·cases h
   ·rename_i hlen;simp only at h
    have key:∀{ex:Ex} {e1:Env} {df:List Df} {aq:St} {mi:Option IV},S.code ro ah f c (args.zipIdx.foldl (λe (v,i)=>e.put (aa i) v) ⟨fn.ntmps,.lf⟩) [] σ=aa ⟨ex,e1,df,aq⟩->
     (((ex=.normal\/ex=.ret)/\mi=ah)\/∃v,ex=.bY v/\mi=aa v)->
     (match fV S ro df mi aq with
      |some (m,σ)=>aa (fn,e1,m,σ)
      |none=>ah)=aa (XE,e',mo,ao)->CallsIn asB 0 P f us.toArray w R:=by
     intro ex e1 df aq mi h1 hex h;split at h
     ·rename_i m2 dm h2;obtain⟨rfl,rfl,rfl,rfl⟩:fn=XE/\e1=e'/\m2=mo/\dm=ao:=by cases h;exact⟨rfl,rfl,rfl,rfl⟩
      clear h;have mG:=kc hk h2;have dJ:aq.n<=N:=by omega
      refine callsIn_of_wp_marks bT hb trivial ?_;refine(hS N ro ah f c _ [] σ _ h1 dJ asB ι {tmps:=us.toArray++atp (fn.ntmps- us.toArray.size) asQ,defers:=[]} w _ (.inl ⟨rfl,rfl⟩) hi (ya hr (by omega)) trivial ?_).wp;intro a1 w1 cm eS i1 l1 cY d1 p1
      have:∀u,oK cm mi u->LeavesInM asB 0 P fn a1.tmps R a1.defers u w1:=λu hu=>
       rR hC hk h2 d1 hu i1 hN λw2 oD u2 i2 l2 q0=>hQ a1.tmps w2 oD u2 i2 (Le.then hi dJ l1 l2) (cY.mono l2.ext) q0
      rcases hex with⟨rfl|rfl,rfl⟩|⟨v,rfl,rfl⟩
      ·exact this _ rfl
      ·exact this _ rfl
      ·obtain⟨u,rfl,hu⟩:=p1;exact this _ ⟨u,rfl,hu⟩
     ·cases h
    split at h
    ·rename_i h1;exact key h1 (.inl ⟨.inl rfl,rfl⟩) h
    ·rename_i h1;exact key h1 (.inl ⟨.inr rfl,rfl⟩) h
    ·rename_i h1;exact key h1 (.inr ⟨_,rfl,rfl⟩) h
    ·cases h
  ·cases h
 ·cases h
def rl(ι:Io):Option IV->FrameMode->Prop
 |none,u=>u=.returning\/∃x,u=.panicking [{v:=x,recovered:=ab}]
 |some v,u=>∃x,u=.panicking [{v:=x,recovered:=af}]/\Rv ι v x
theorem rl.of{m:Option IV}{u:FrameMode}(h:oK ι m u):rl ι m u:=by
 cases m with
 |none=>exact .inl h
 |some v=>exact h
theorem rl.mono{aG:Io}(gR:Ext ι aG){m:Option IV}{u:FrameMode}(h:rl ι m u):rl aG m u:=by
 cases m with
 |none=>exact h
 |some v=>obtain⟨x,h1,h2⟩:=h;exact⟨x,h1,h2.mono gR⟩
theorem rl.settle{m:Option IV}{u:FrameMode}(h:rl ι m u):oK ι m (Go.settle u):=by
 cases m with
 |none=>
  rcases h with rfl|⟨x,rfl⟩
  ·rfl
  ·rfl
 |some v=>obtain⟨x,rfl,h2⟩:=h;exact⟨x,rfl,h2⟩
def Nt(N ro:Nat)(ι:Io)(w:World)(σ:St)(cr:CR)(m:Option IV)(c0:Frame)(qt:List Frame)(Q:Exit->Act->List Frame->World->Prop):Prop:=
 ∀a' w' aG u' ch,Inv N aG cr.σ w'->Le ro ι w σ aG w' cr.σ->c9 aG cr.e a'.tmps->jX aG cr.df a'.defers->Vq aG ch cr.ex->rl aG m u'->Q (G5 ch cr.ex) a' ({c0 with mode:=u'}::qt) w'
theorem xx{ops:Array Oper}{Q:Exit->Act->List Frame->World->Prop}{c0:Frame}{qt:List Frame}:∀{l:List Oper} {k:Nat} {e:Env} {σ:St} {e':Env} {mo nY:Option IV} {ao:St} {ι:Io} {a:Act} {u:FrameMode} {w:World},
 ops.toList.drop k=l->nU P ro ops l e mo σ=aa (e',nY,ao)->ao.n<=N->Inv N ι σ w->c9 ι e a.tmps->a.defers=[]->rl ι mo u->Nt N ro ι w σ ⟨.normal,e',[],ao⟩ nY c0 qt Q->
 wpOpsSIn asB 0 P ops Q (aus k l.length) a ({c0 with mode:=u}::qt) w
 |[],k,e,σ,e',mo,nY,ao,ι,a,u,w,hl,h,hN,hi,he,hd,hu,hQ=>by
  cases h;exact hQ a w ι u [] hi (Le.refl _ _ _ _) he (by rw[hd];trivial) trivial hu
 |o::rest,k,e,σ,e',mo,nY,ao,ι,a,u,w,hl,h,hN,hi,he,hd,hu,hQ=>by
  have gg:ops.toList.drop (k+1)=rest:=by
   rw[<-auN (i:=1) (j:=k),hl];rfl
  have bp:ops[k]?=aa o:=by
   have:(ops.toList.drop k)[0]?=aa o:=by rw[hl];rfl
   simpa using this
  simp only[asV,avH];unfold wpOpsSIn;rw[bp];simp only;refine⟨λf _=>trivial,?_⟩;have G7:∀v,(a.put o.dst v).defers=[]:=λv=>by cases o.dst<;>exact hd
  unfold nU at h;rw[sq he];split at h
  ·rename_i hw;rw[if_pos hw];split at h
   ·rename_i BC
    have hex:(execOp a.eval o).run P w=.ok .recover w:=by
     unfold mU at BC;split at BC
     ·rename_i fq;simp only[execOp,fq,resolve,ar_,asj,ar7,invoke,builtin]
     ·cases BC
    rw[hex];simp only;split at h
    ·rename_i v;obtain⟨x,rfl,hx⟩:=hu;simp only[recoverD];exact xx gg h hN hi (he.put hx _) (G7 _) (.inr ⟨x,rfl⟩) hQ
    ·have j_:recoverD ({c0 with mode:=u}::qt)=ah:=by
      rcases hu with rfl|⟨x,rfl⟩<;>rfl
     rw[j_];simp only;exact xx gg h hN hi (he.put (.raw _) _) (G7 _) hu hQ
   ·split at h
    ·rename_i v aq h1;have dJ:aq.n<=N:=asq (su h) hN;obtain⟨u1,w1,cm,hr,h2,h3,h4⟩:=oI hi he.eval h1 dJ;have hQ':Nt N ro cm w1 aq ⟨.normal,e',[],ao⟩ nY c0 qt Q:=λa' w' aG u' ch g1 g2 g3 g4 g5 g6=>hQ a' w' aG u' ch g1 (Le.then hi dJ h4 g2) g3 g4 g5 g6;rcases hr with hr|⟨hr,rfl⟩
     ·rw[hr];simp only;exact xx gg h hN h3 ((he.mono h4.ext).put h2 _) (G7 _) (hu.mono h4.ext) hQ'
     ·rw[hr];simp only;exact xx gg h hN h3 ((he.mono h4.ext).put h2 _) (G7 _) (hu.mono h4.ext) hQ'
    ·cases h
  ·rename_i hw;rw[if_neg hw];exact xx gg h hN hi (he.put rQ _) (G7 _) hu hQ
theorem ano(hS:hZ P S m)(hm:bX S){fn:FuncId}{c0:Frame}{qt:List Frame}:∀{c:Code} {Q:Exit->Act->List Frame->World->Prop} {e:Env} {mo nY:Option IV} {σ:St} {cr:CR} {ι:Io} {a:Act} {u:FrameMode} {w:World},
 yZ P S ro fn c e mo σ=aa (cr,nY)->cr.σ.n<=N->Inv N ι σ w->c9 ι e a.tmps->a.defers=[]->rl ι mo u->Nt N ro ι w σ cr nY c0 qt Q->c.wpSIn asB 0 P Q a ({c0 with mode:=u}::qt) w:=by
 intro c
 have other:∀{c:Code} {Q:Exit->Act->List Frame->World->Prop} {e:Env} {mo nY:Option IV} {σ:St} {cr:CR} {ι:Io} {a:Act} {u:FrameMode} {w:World},(match S.code ro ah fn c e [] σ with|some r=>aa (r,mo)|none=>ah)=aa (cr,nY)->
  cr.σ.n<=N->Inv N ι σ w->c9 ι e a.tmps->a.defers=[]->rl ι mo u->Nt N ro ι w σ cr nY c0 qt Q->c.wpSIn asB 0 P Q a ({c0 with mode:=u}::qt) w:=by
  intro c Q e mo nY σ cr ι a u w h hN hi he hd hu hQ;split at h
  ·rename_i h1;cases h;refine wpSIn_of_wpIn rfl ?_;refine(hS N ro ah fn c e [] σ _ h1 hN asB ι a w _ (.inl ⟨rfl,rfl⟩) hi he (by rw[hd];trivial) ?_).wp;intro a1 w1 cm eS i1 l1 e1 d1 p1;exact hQ a1 w1 cm u eS i1 l1 e1 d1 p1 (hu.mono l1.ext)
  ·cases h
 induction c with
 |seq x y ihx ihy=>
  intro Q e mo nY σ cr ι a u w h hN hi he hd hu hQ;unfold yZ at h;refine wpSIn_seq ?_;split at h
  ·rename_i e1 aq m1 h1;have dJ:aq.n<=N:=asq (G4 hm h) hN;refine ihx h1 dJ hi he hd hu ?_;intro a1 w1 cm u1 eS i1 l1 cY d1 p1 x_;exact ihy h hN i1 cY d1.nil x_ λa' w' aG u' ch g1 g2 g3 g4 g5 g6=>hQ a' w' aG u' ch g1 (Le.then hi dJ l1 g2) g3 g4 g5 g6
  ·cases h
  ·rename_i arL anp;refine ihx h hN hi he hd hu ?_;intro a1 w1 cm u1 eS i1 l1 cY d1 p1 x_;have:=hQ a1 w1 cm u1 eS i1 l1 cY d1 p1 x_;cases hx:cr.ex with
   |normal=>exact absurd (by rw[h];cases cr;cases hx;rfl) (anp cr.e cr.df cr.σ nY)
   |exit id=>rw[hx]at this;exact this
   |goto l=>rw[hx]at this;exact this
   |ret=>rw[hx]at this;exact this
   |bY v=>rw[hx]at this;exact this
 |region id ops draw=>
  intro Q e mo nY σ cr ι a u w h hN hi he hd hu hQ;unfold yZ at h;split at h
  ·rename_i hc
   have Ic:draw=af:=by
    cases draw with
    |false=>rfl
    |true=>simp at hc
   subst Ic;split at h
   ·rename_i h1;cases h;refine wpSIn_region ?_;have:=xx (k:=0) (by simp) h1 hN hi he hd hu hQ;rw[awh];simpa using this
   ·cases h
  ·exact other h hN hi he hd hu hQ
 |_=>
  intro Q e mo nY σ cr ι a u w h hN hi he hd hu hQ;unfold yZ at h;exact other h hN hi he hd hu hQ
theorem afI(hS:hZ P S m)(hm:bX S){f:FuncId}{args:List IV}{mo nY:Option IV}{ao:St}(h:Bu P S ro f args mo σ=aa (nY,ao))(hN:ao.n<=N){us:List Value}{u:FrameMode}(hu:oK ι mo u)(hi:Inv N ι σ w)(hr:aC ι args us):
 CallsDIn asB 0 P f us.toArray u w (Ih N ro ι w σ nY ao):=by
 unfold Bu at h;split at h
 ·rename_i fn bT;split at h
  ·cases h
  split at h
  ·rename_i c hb;split at h
   ·cases h
   ·rename_i hlen;simp only at h
    have key:∀{ex:Ex} {e1:Env} {aq:St} {m1:Option IV},yZ P S ro f c (args.zipIdx.foldl (λe (v,i)=>e.put (aa i) v) ⟨fn.ntmps,.lf⟩) mo σ=aa (⟨ex,e1,[],aq⟩,m1)->(ex=.normal\/ex=.ret)->
     (match bJ P fn e1 aq with
      |some _=>aa (m1,aq)
      |none=>ah)=aa (nY,ao)->CallsDIn asB 0 P f us.toArray u w (Ih N ro ι w σ nY ao):=by
     intro ex e1 aq m1 h1 hex h;split at h
     ·rename_i v hv;cases h;refine callsDIn_of_wpSIn bT hb trivial λc0 cs pj=>?_;have bL:c0={c0 with mode:=u}:=by rw[<-pj]
      have:=ano hS hm (c0:=c0) (qt:=cs) (Q:=bodyPostS P fn c0 cs (Ih N ro ι w σ nY ao)) (a:={tmps:=us.toArray++atp (fn.ntmps- us.toArray.size) asQ,defers:=[]}) h1 hN hi (ya hr (by omega)) rfl (rl.of hu) ?_
      ·rw[<-bL]at this;exact this
      ·intro a1 w1 cm u1 eS i1 l1 cY d1 p1 x_;obtain⟨x,k1,k2⟩:=s9 hv i1 cY;have:bodyPostS P fn c0 cs (Ih N ro ι w σ nY ao) .ret a1 ({c0 with mode:=u1}::cs) w1:=⟨d1.nil,u1,rfl,x,k1,cm,x_.settle,i1,l1⟩;rcases hex with rfl|rfl<;>exact this
     ·cases h
    split at h
    ·rename_i h1;exact key h1 (.inl rfl) h
    ·rename_i h1;exact key h1 (.inr rfl) h
    ·cases h
  ·cases h
 ·cases h
theorem J8(hS:hZ P S m)(hC:eu P S)(hm:bX S)(hk:bF S):eu P (lB P S) where
 call:=by
  intro N ro f args σ v ao h hN ι us w hi hr;simp only[lB,NX]at h;split at h
  ·rename_i XE e1 aq h1;split at h
   ·rename_i v' h2;cases h;refine S8 hS hC hm hk h1 hN hi hr λts w' aG u' i1 l1 cY hu=>?_;rw[show u'=_ from hu];obtain⟨u,k1,k2⟩:=s9 h2 i1 cY;exact⟨u,k1,aG,k2,i1,l1⟩
   ·cases h
  ·cases h
 bY:=by
  intro N ro f args σ v ao h hN ι us w hi hr;simp only[lB,U8]at h;split at h
  ·rename_i h1;cases h;refine S8 hS hC hm hk h1 hN hi hr λts w' aG u' i1 l1 cY hu=>?_;obtain⟨x,rfl,hx⟩:=hu;exact⟨aG,⟨x,rfl,hx⟩,i1,l1⟩
  ·cases h
 wx:=by
  intro N ro f args mo σ nY ao h hN ι us u w hu hi hr;exact afI hS hm h hN hu hi hr
 mF:=by
  intro ro f args mo σ nY ao h;simp only[lB,Bu]at h;split at h
  ·rename_i fn bT;split at h
   ·cases h
   ·rename_i DO;exact⟨fn,bT,by simpa only[asR,Bool.not_eq_false]using DO⟩
  ·cases h
theorem acF(hD:∀m S,hZ P S m->eu P S->bX S->bF S->Oq P S):∀n,hZ P (ev P n) n/\eu P (ev P n)/\bX (ev P n)/\bF (ev P n)
 |0=>by
  refine⟨?_,⟨?_,?_,?_,?_⟩,?_,⟨?_,?_,?_⟩⟩
  ·intro N ro rd fn c e df σ cr h;cases h
  ·intro N ro f args σ v ao h;cases h
  ·intro N ro f args σ v ao h;cases h
  ·intro N ro f args m σ m' ao h;cases h
  ·intro ro f args m σ m' ao h;cases h
  ·intro ro rd fn c e df σ cr h;cases h
  ·intro ro f args σ v ao h;cases h
  ·intro ro f args σ v ao h;cases h
  ·intro ro f args m σ m' ao h;cases h
 |n+1=>by
  obtain⟨h1,h2,h3,h4⟩:=acF hD n;exact⟨S5 h1 h2 h3 h4 (hD n _ h1 h2 h3 h4),J8 h1 h2 h3 h4,Lv h3 h4,DJ h3 h4⟩
end Go.Ev
namespace Go.Ev
variable{P:Program}{N ro m:Nat}{ι:Io}{w:World}{σ:St}{e:Env}{a:Act}{S:Self}{F:Fence}{rd:Option Nat}{Q:Exit->Act->World->Prop}
theorem p6{ρ AP:Operand->IV}{o:Oper}(h:∀x∈o.op.operands,ρ x=AP x):av P ro ρ o σ=av P ro AP o σ:=by
 obtain⟨dst,op,type,pos,after,guard⟩:=o
 have acG:∀ps:Array (Nat×Operand),(∀x∈(ps.toList.map (·.2)),ρ x=AP x)->(ps.toList.map λ(i,x)=>(i,ρ x))=(ps.toList.map λ(i,x)=>(i,AP x)):=λps hp=>
  aub λp hm=>by
   obtain⟨i,x⟩:=p;simp only[hp x (List.mem_map.2 ⟨(i,x),hm,rfl⟩)]
 cases op<;>simp only[Op.operands]at h<;>unfold av<;>dsimp only
 case move x=>rw[h x (by simp)]
 case assign x=>rw[h x (by simp)]
 case pick c x y=>rw[h c (by simp),h x (by simp),h y (by simp)]
 case box t x=>rw[h x (by simp)]
 case build t ps=>rw[acG ps λx hx=>h x (by simpa using hx)]
 case buildSlice t n ps=>rw[acG ps λx hx=>h x (by simpa using hx)]
 case load t x=>rw[h x (by simp)]
 case store t x y=>rw[h x (by simp),h y (by simp)]
 case nilCheck x=>rw[h x (by simp)]
 case binOp op t x y yT=>rw[h x (by simp),h y (by simp)]
 case unOp op t x=>rw[h x (by simp)]
 case convert s d x=>rw[h x (by simp)]
 case makeInterface t x=>rw[h x (by simp)]
 case makeFunc fn first captured=>
  rw[aub (l:=first.toList) λx hx=>h x (by simp at hx;simp[hx]),aub (l:=captured.toList) λx hx=>h x (by simp at hx;simp[hx])]
 case makeMap t r=>cases r with|none=>rfl|some x=>dsimp only;rw[h x (by simp)]
 case makeSlice t x y=>rw[h x (by simp),h y (by simp)]
 case slice t x lo hi mx=>
  have e1:lo.map ρ=lo.map AP:=by cases lo with|none=>rfl|some y=>simp only[asy,h y (by simp)]
  have e2:hi.map ρ=hi.map AP:=by cases hi with|none=>rfl|some y=>simp only[asy,h y (by simp)]
  have e3:mx.map ρ=mx.map AP:=by cases mx with|none=>rfl|some y=>simp only[asy,h y (by simp)]
  rw[h x (by simp),e1,e2,e3]
 case fieldAddr t x f=>rw[h x (by simp)]
 case field t x f=>rw[h x (by simp)]
 case indexAddr t x y=>rw[h x (by simp),h y (by simp)]
 case index t x y=>rw[h x (by simp),h y (by simp)]
 case lookup t x y ok=>rw[h x (by simp),h y (by simp)]
 case mapUpdate t x y z=>rw[h x (by simp),h y (by simp),h z (by simp)]
 case insert t x y z=>rw[h x (by simp),h y (by simp),h z (by simp)]
 case mapEntry t x y=>rw[h x (by simp),h y (by simp)]
 case entryStore t x y z=>rw[h x (by simp),h y (by simp),h z (by simp)]
 case range t x=>rw[h x (by simp)]
 case next x s=>rw[h x (by simp)]
 case entry x=>rw[h x (by simp)]
 case extract x i=>rw[h x (by simp)]
 case typeAssert x xt t ok=>rw[h x (by simp)]
 case panic x=>rw[h x (by simp)]
 case call c=>
  have ha:c.args.toList.map ρ=c.args.toList.map AP:=aub λx hx=>h x (by simp[auT];right;simpa using hx);rw[ha];cases hc:c.callee with
  |value f=>dsimp only;rw[h f (by simp[auT,hc])]
  |invoke r m=>dsimp only;rw[h r (by simp[auT,hc])]
  |builtin b=>rfl
 case defer c=>
  have ha:c.args.toList.map ρ=c.args.toList.map AP:=aub λx hx=>h x (by simp[auT];right;simpa using hx);rw[ha];cases hc:c.callee with
  |value f=>dsimp only;rw[h f (by simp[auT,hc])]
  |invoke r m=>rfl
  |builtin b=>rfl
structure Gn(Fr:Nat->Prop)(ι:Io)(cur:Nat->Option Ob)(w:World):Prop where
 mem:∀b c,ι.m b=aa c->∃e f,w.heap[b]?=aa (.cells c e f)
 sep:∀b c id,ι.m b=aa c->¬Own ι id b
 iO:∀id b,Own ι id b->b<w.heap.size
 inj:∀i j b,Own ι i b->Own ι j b->i=j
 fresh:∀id,Fr id->∀e,ι id e=ah
 obj:∀id o,cur id=aa o->kH ι w id o
theorem Gn.inv{Fr:Nat->Prop}{cur:Nat->Option Ob}(h:Gn Fr ι cur w)(sub:∀id o,σ.at id=aa o->cur id=aa o)(fr:∀id,σ.n<=id->id<N->Fr id)(wf:∀id,σ.n<=id->σ.at id=ah):Inv N ι σ w:=
 ⟨h.mem,h.sep,h.iO,λid h1 h2=>h.fresh id (fr id h1 h2),h.inj,λid o ho=>h.obj id o (sub id o ho),wf⟩
theorem Vu{id:Nat}{o:Ob}(h:kH ι w id o):∃e l,ι id e=aa l:=by
 cases o with
 |cells cs ep mn=>obtain⟨_,⟨l,hl,_⟩,_⟩:=h;exact⟨_,l,hl⟩
 |map es c=>obtain⟨l,_,hl,_⟩:=h;exact⟨_,l,hl⟩
 |pY s p=>obtain⟨l,hl,_⟩:=h;exact⟨_,l,hl⟩
 |jz a b c d=>obtain⟨l,_,hl,_⟩:=h;exact⟨_,l,hl⟩
 |loop a b c d e f g h' i=>obtain⟨l,_,_,_,hl,_⟩:=h;exact⟨_,l,hl⟩
 |Gi t=>obtain⟨l,hl,_⟩:=h;exact⟨_,l,hl⟩
def zh(cur:Nat->Option Ob)(σ ao:St)(id:Nat):Option Ob:=if(σ.at id).isSome\/(σ.n<=id/\id<ao.n)then ao.at id else cur id
structure zi(ro nk:Nat)(gz:Io)(w0:World)(ef:St)(Fr:Nat->Prop)(ι:Io)(cur:Nat->Option Ob)(w:World):Prop extends Gn Fr ι cur w where
 ext:Ext gz ι
 xJ:∀b c,ι.m b=aa c->gz.m b=aa c\/w0.heap.size<=b
 own:∀id b,Own ι id b->Own gz id b\/w0.heap.size<=b
 AG:∀id,ef.at id=ah->(id<ef.n\/nk<=id)->∀e,ι id e=gz id e
 dead:∀id,ef.at id=ah->(id<ef.n\/nk<=id)->cur id=ah
 wg:∀id,id<ro->id<ef.n->cur id=ef.at id
 os:w.os=w0.os
 tape:w.tape=w0.tape
 output:w.output=w0.output
 size:w0.heap.size<=w.heap.size
 frame:∀b,b<w0.heap.size->(∀id,Own gz id b->id<ro\/ef.at id=ah)->w.heap[b]?=w0.heap[b]?
theorem zi.start{nk:Nat}(h:Inv N ι σ w)(hnk:nk<=N):zi ro nk ι w σ (λid=>σ.n<=id/\id<N) ι σ.at w:=
 {mem:=h.mem,sep:=h.sep,iO:=h.iO,inj:=h.inj,fresh:=λid hid=>h.fresh id hid.1 hid.2,obj:=h.obj,ext:=Ext.refl _,xJ:=λ_ _ h=>.inl h,own:=λ_ _ h=>.inl h,
  AG:=λ_ _ _ _=>rfl,dead:=λ_ h _=>h,wg:=λ_ _ _=>rfl,os:=rfl,tape:=rfl,output:=rfl,size:=ar8 _,frame:=λ_ _ _=>rfl}
theorem zi.step{nk N' fQ:Nat}{gz aG:Io}{w0 w':World}{ef ao:St}{Fr:Nat->Prop}{cur:Nat->Option Ob}(h:zi ro nk gz w0 ef Fr ι cur w)(Ox:∀id,ef.n<=id->id<nk->∀e,gz id e=ah)
 (sub:∀id o,σ.at id=aa o->cur id=aa o)(s_:∀id,σ.n<=id->id<ao.n->ef.n<=id/\id<nk)(cB:∀id,id<ro->(σ.at id).isSome=ab->id<fQ)(wf:∀id,σ.n<=id->σ.at id=ah)
 (hi:Inv N' aG ao w')(hl:Le fQ ι w σ aG w' ao):zi ro nk gz w0 ef (λid=>Fr id/\¬(σ.n<=id/\id<ao.n)) aG (zh cur σ ao) w':=by
 have S9:∀id,cur id=ah->σ.at id=ah:=λid hc=>by
  cases hs:σ.at id with
  |none=>rfl
  |some o=>rw[sub id o hs]at hc;cases hc
 have out:∀id,¬(σ.n<=id/\id<ao.n)->id<σ.n\/ao.n<=id:=λid hn=>by omega
 have DP:∀id,(id<ef.n\/nk<=id)->¬(σ.n<=id/\id<ao.n):=λid hh hn=>by have:=s_ id hn.1 hn.2;omega
 exact{
  mem:=hi.mem,sep:=hi.sep,iO:=hi.iO,inj:=hi.inj
  fresh:=λid hid e=>by
   have hn:σ.at id=ah:=by
    cases hs:σ.at id with
    |none=>rfl
    |some o=>
     obtain⟨e',l,cq⟩:=Vu (h.obj id o (sub id o hs));rw[h.fresh id hid.1 e']at cq;cases cq
   rw[hl.AG id hn (out id hid.2) e,h.fresh id hid.1 e]
  obj:=λid o ho=>by
   unfold zh at ho;split at ho
   ·exact hi.obj id o ho
   ·rename_i hc
    have hn:σ.at id=ah:=by
     cases hs:σ.at id with
     |none=>rfl
     |some o=>exact absurd (.inl (by rw[hs];rfl)) hc
    have hr:¬(σ.n<=id/\id<ao.n):=λhx=>hc (.inr hx);refine(h.obj id o ho).keep hl.ext (λe=>hl.AG id hn (out id hr) e) λb hb=>?_;refine hl.frame b (h.iO id b hb) λbA iY=>.inr ?_;rw[h.inj bA id b iY hb];exact hn
  ext:=h.ext.trans hl.ext
  xJ:=λb c hb=>(hl.xJ b c hb).elim (λhb=>h.xJ b c hb) (λhb=>.inr (asq h.size hb))
  own:=λid b hb=>(hl.own id b hb).elim (λhb=>h.own id b hb) (λhb=>.inr (asq h.size hb))
  AG:=λid hn hr e=>(hl.AG id (S9 id (h.dead id hn hr)) (out id (DP id hr)) e).trans (h.AG id hn hr e)
  dead:=λid hn hr=>by
   unfold zh;rw[if_neg]
   ·exact h.dead id hn hr
   ·rw[S9 id (h.dead id hn hr)];intro hx;rcases hx with hx|hx
    ·cases hx
    ·exact DP id hr hx
  wg:=λid hr hn=>by
   unfold zh;split
   ·rename_i hc;have hs:(σ.at id).isSome:=hc.resolve_right (DP id (.inl hn));obtain⟨o,ho⟩:=Option.isSome_iff_exists.1 hs;have ai:id<σ.n:=au4 λhle=>by rw[wf id hle]at ho;cases ho
    rw[hl.wg id (cB id hr hs) ai,ho,<-sub id o ho];exact h.wg id hr hn
   ·exact h.wg id hr hn
  os:=hl.os.trans h.os
  tape:=hl.tape.trans h.tape
  output:=hl.output.trans h.output
  size:=asq h.size hl.size
  frame:=λb hb hc=>by
   rw[hl.frame b (Nat.lt_of_lt_of_le hb h.size) ?_,h.frame b hb hc];intro id hid;cases hs:σ.at id with
   |none=>exact .inr rfl
   |some o=>
    have ai:id<σ.n:=au4 λhle=>by rw[wf id hle]at hs;cases hs
    rcases h.own id b hid with ho|ho
    ·rcases hc id ho with hr|hd
     ·exact .inl (cB id hr (by rw[hs];rfl))
     ·right
      have hr:id<ef.n\/nk<=id:=by
       by_cases h1:id<ef.n
       ·exact .inl h1
       ·by_cases h2:id<nk
        ·obtain⟨e,l,cq,_⟩:=ho;rw[Ox id (by omega) h2 e]at cq;cases cq
        ·exact .inr (by omega)
      have:=sub id o hs;rw[h.dead id hd hr]at this;cases this
    ·omega}
theorem zi.fr{nk:Nat}{gz:Io}{w0:World}{ef:St}{Fr Fr':Nat->Prop}{cur:Nat->Option Ob}(h:zi ro nk gz w0 ef Fr ι cur w)(hf:∀id,Fr' id->Fr id):zi ro nk gz w0 ef Fr' ι cur w:=
 {h with fresh:=λid hid=>h.fresh id (hf id hid)}
theorem zi.fin{nk:Nat}{gz:Io}{w0:World}{ef:St}{Fr:Nat->Prop}{cur:Nat->Option Ob}{t:T Ob}(h:zi ro nk gz w0 ef Fr ι cur w)(hn:ef.n<=nk)(uj:∀id,nk<=id->id<N->Fr id)
 (sub:∀id o,t.get id=aa o->cur id=aa o)(wf:∀id,nk<=id->t.get id=ah)(hp:∀id,id<ro->id<ef.n->t.get id=ef.at id):
 Inv N ι ⟨nk,t⟩ w/\Le ro gz w0 ef ι w ⟨nk,t⟩:=by
 refine⟨h.toGn.inv sub uj wf,h.ext,h.own,h.AG,λid hn hr=>?_,hp,hn,h.os,h.tape,h.output,h.size,h.frame,h.xJ⟩;have:=h.dead id hn hr;cases hs:t.get id with
 |none=>exact hs
 |some o=>rw[sub id o hs]at this;cases this
end Go.Ev
namespace Go.Ev
variable{P:Program}{S:Self}{ro:Nat}{ops:Array Oper}{pl:dR}[Sm]
def jg(ops:Array Oper)(i:Nat):Option Tmp:=(ops[i]?).bind (·.dst)
def Aj(ops:Array Oper)(i:Nat):List Nat:=(ops.toList.map (uz ops)).getD i []
def bc(pl:dR)(i:Nat):Kind:=pl.kinds.getD i .effect
def jh(pl:dR)(j i:Nat):Prop:=asp (pl.b_.getD j 0) i=ab
structure pn(ops:Array Oper)(pl:dR):Prop where
 back:∀(j:Nat) (o:Oper),ops[j]?=aa o->∀e∈o.after.toList,atT .any e=ab->e.on<j
 aaO:∀j,j<ops.size->bc pl j=.load->∀t,jg ops j=aa t->t∉Aj ops j
 single:∀i j,i<j->j<ops.size->∀t,jg ops i=aa t->jg ops j≠aa t
 XF:∀i j,i<j->j<ops.size->bc pl i=.load->∀t,jg ops j=aa t->t∉Aj ops i
 free:∀i j,i<j->j<ops.size->¬jh pl j i->(∀t,jg ops i=aa t->t∉Aj ops j)/\(∀t,jg ops j=aa t->t∉Aj ops i)/\acD (bc pl i) (bc pl j)=af
 bits:∀(j:Nat) (o:Oper),ops[j]?=aa o->∀i,jh pl j i->∃e∈o.after.toList,atT .any e=ab/\(e.on=i\/jh pl e.on i)
theorem ta{o:Oper}{l:List Nat}(h:writes o l=af):∀t,o.dst=aa t->t∉l:=by
 intro t ht hm;unfold writes at h;rw[ht]at h;simp[hm]at h
theorem Lz{f:Edge->Nat}{c:Edge->Bool}{i:Nat}:∀(l:List Edge) (s:Nat),asp (l.foldl (λs e=>if c e then avZ s (f e)else s) s) i=ab->
 asp s i=ab\/∃e∈l,c e=ab/\asp (f e) i=ab
 |[],s,h=>.inl h
 |e::l,s,h=>by
  simp only[asG]at h;rcases Lz l _ h with h|⟨e',gV,h1,h2⟩
  ·split at h
   ·rename_i hc;have:asp (s|||f e) i=ab:=h;rw[axd,asL]at this;rcases this with h|h
    ·exact .inl h
    ·exact .inr ⟨e,by simp,hc,h⟩
   ·exact .inl h
  ·exact .inr ⟨e',by simp[gV],h1,h2⟩
theorem XG{a i:Nat}(h:asp (avf 1 a) i=ab):a=i:=by
 have h':asp (1<<<a) i=ab:=h;rw[Nat.testBit_shiftLeft]at h';simp only[ar4,decide_eq_true_eq]at h';have h2:=h'.2
 have:i- a=0:=by
  cases hk:i- a with
  |zero=>rfl
  |succ n=>rw[hk]at h2;simp[Nat.testBit_succ]at h2
 omega
theorem Oy:∀(l:List Oper) (acc:List Nat),∃rest,l.foldl Fi acc=acc++rest/\rest.length=l.length/\
 ∀(q:Nat) (o:Oper),l[q]?=aa o->∀i,asp ((acc++rest).getD (acc.length+q) 0) i=ab->
  ∃e∈o.after.toList,atT .any e=ab/\(e.on=i\/asp ((acc++rest).getD e.on 0) i=ab)
 |[],acc=>⟨[],by simp,rfl,λq o h=>by simp at h⟩
 |o::l,acc=>by
  obtain⟨rest,h1,h2,h3⟩:=Oy l (Fi acc o);obtain⟨x,hx⟩:∃x,Fi acc o=acc++[x]:=⟨_,rfl⟩
  have qv:x=o.after.toList.foldl (λs e=>if atT .any e then avZ s (avZ (avf 1 e.on) (acc.getD e.on 0))else s) 0:=by
   have:acc++[x]=acc++[o.after.toList.foldl (λs e=>if atT .any e then avZ s (avZ (avf 1 e.on) (acc.getD e.on 0))else s) 0]:=hx▸rfl;simpa using this
  rw[hx]at h1 h3;refine⟨x::rest,by rw[asG,hx,h1];simp,by simp[h2],λq o' hq i hi=>?_⟩;have BD:acc++x::rest=acc++[x]++rest:=by simp
  cases q with
  |zero=>
   simp only[List.getElem?_cons_zero,ar6]at hq;subst hq;have hg:(acc++x::rest).getD (acc.length+0) 0=x:=by simp
   rw[hg,qv]at hi;rcases Lz _ _ hi with hi|⟨e,he,hb,hi⟩
   ·simp at hi
   ·refine⟨e,he,hb,?_⟩;have cW:asp (avf 1 e.on|||acc.getD e.on 0) i=ab:=hi;rw[axd,asL]at cW;rcases cW with hi|hi
    ·exact .inl (XG hi)
    ·right;by_cases hl:e.on<acc.length
     ·have:(acc++x::rest).getD e.on 0=acc.getD e.on 0:=by
       rw[at4,at4,List.getElem?_append_left hl]
      rw[this];exact hi
     ·rw[at4,List.getElem?_eq_none (by omega)]at hi;simp at hi
  |succ q=>
   simp only[List.getElem?_cons_succ]at hq;rw[BD]at hi⊢
   have:=h3 q o' hq i (by
    have e1:(acc++[x]).length+q=acc.length+(q+1):=by simp;omega
    rw[e1];exact hi)
   exact this
theorem aef{ops:Array Oper}{j:Nat}{o:Oper}(ho:ops[j]?=aa o){i:Nat}(h:asp ((NT ops).getD j 0) i=ab):
 ∃e∈o.after.toList,atT .any e=ab/\(e.on=i\/asp ((NT ops).getD e.on 0) i=ab):=by
 obtain⟨rest,h1,_,h3⟩:=Oy ops.toList [];have hb:NT ops=rest:=by unfold NT;rw[h1];simp
 rw[hb]at h⊢;have:=h3 j o (by simpa using ho) i (by simpa using h);simpa using this
theorem afJ(h:(dx ops).ok=ab):pn ops (dx ops):=by
 have bz:∀(j:Nat) (o:Oper),ops[j]?=aa o->(o.after.toList.all λe=> !atT .any e||Nat.blt e.on j)=ab/\(!(bc (dx ops) j==.load)|| !writes o (Aj ops j))=ab/\
  ∀(i:Nat) (p:Oper),ops[i]?=aa p->i<j->AE (dx ops).b_ (dx ops).kinds (ops.toList.map (uz ops)) p i o j=ab:=by
  intro j o ho;have hm:(o,j)∈ops.toList.zipIdx:=atb.2 (by simpa using ho);unfold dx at h;dsimp only at h;rw[asl]at h;have:=h (o,j) hm;simp only[ar4]at this;obtain⟨⟨h1,h2⟩,h3⟩:=this;refine⟨h1,h2,λi p hp mX=>?_⟩;rw[asl]at h3;have hm':(p,i)∈ops.toList.zipIdx:=atb.2 (by simpa using hp);have:=h3 (p,i) hm';have ai:Nat.blt i j=ab:=by simpa using mX
  simp only[ai,au0,auj]at this;exact this
 have fq:∀{j:Nat},j<ops.size->∃o,ops[j]?=aa o:=λhj=>⟨ops[_],asw hj⟩;have fY:∀{j:Nat} {o:Oper},ops[j]?=aa o->jg ops j=o.dst:=λho=>by unfold jg;rw[ho];rfl
 have pair:∀i j,i<j->j<ops.size->∃p o,ops[i]?=aa p/\ops[j]?=aa o/\AE (dx ops).b_ (dx ops).kinds (ops.toList.map (uz ops)) p i o j=ab:=λi j mX hj=>by
  obtain⟨o,ho⟩:=fq hj;obtain⟨p,hp⟩:=fq (show i<ops.size by omega);exact⟨p,o,hp,ho,(bz j o ho).2.2 i p hp mX⟩
 refine⟨λj o ho e he hb=>?_,λj hj hk t ht=>?_,λi j mX hj t hi hjt=>?_,λi j mX hj hk t ht=>?_,λi j mX hj LA=>?_,λj o ho i hb=>aef ho hb⟩
 ·have:=(asl.1 (bz j o ho).1) e he;rw[hb]at this;simpa using this
 ·obtain⟨o,ho⟩:=fq hj;have:=(bz j o ho).2.1;rw[hk]at this;simp only[beq_self_eq_true,au0,auj,asR]at this;rw[fY ho]at ht;exact ta this t ht
 ·obtain⟨p,o,hp,ho,DQ⟩:=pair i j mX hj;rw[fY hp]at hi;rw[fY ho]at hjt;unfold AE at DQ;rw[hi,hjt]at DQ;simp at DQ
 ·obtain⟨p,o,hp,ho,DQ⟩:=pair i j mX hj;unfold AE at DQ;simp only[ar4]at DQ;have h2:=DQ.1.2;have cC:(dx ops).kinds.getD i .effect=.load:=hk;rw[cC]at h2;simp only[beq_self_eq_true,au0,auj,asR]at h2;rw[fY ho]at ht;exact ta h2 t ht
 ·obtain⟨p,o,hp,ho,DQ⟩:=pair i j mX hj;unfold AE at DQ;simp only[ar4]at DQ;have h3:=DQ.2
  have hb:asp ((dx ops).b_.getD j 0) i=af:=by
   cases hc:asp ((dx ops).b_.getD j 0) i with
   |false=>rfl
   |true=>exact absurd hc LA
  rw[hb]at h3;simp only[auj,ar4,asR]at h3;refine⟨λt ht=>?_,λt ht=>?_,h3.2⟩
  ·rw[fY hp]at ht;exact ta h3.1.1 t ht
  ·rw[fY ho]at ht;exact ta h3.1.2 t ht
end Go.Ev
namespace Go.Ev
variable{P:Program}{S:Nat->Self}{ro:Nat}{ops:Array Oper}{pl:dR}[Sm]
theorem ku(b:T Ob)(p:Piece)(id:Nat):(dt b p).get id=if p.lo<=id/\id<p.hi then(p.t.get id).or (b.get id)else b.get id:=by
 have aux:∀(l:List Nat) (b:T Ob),(l.foldl (λb id=>match p.t.get id with|some o=>b.set id o|none=>b) b).get id=if id∈l then(p.t.get id).or (b.get id)else b.get id:=by
  intro l;induction l with
  |nil=>intro b;simp
  |cons x l ih=>
   intro b;rw[asG,ih];by_cases hx:x=id
   ·subst hx;cases hp:p.t.get x with
    |none=>simp
    |some o=>simp[T.fW]
   ·have hb:(match p.t.get x with|some o=>b.set x o|none=>b).get id=b.get id:=by
     cases p.t.get x with
     |none=>rfl
     |some o=>simp[T.fW,hx]
    rw[hb];have:id∈x::l↔id∈l:=by simp[Ne.symm hx]
    simp only[this]
 refine(aux (aus p.lo (p.hi- p.lo)) b).trans ?_
 have:id∈aus p.lo (p.hi- p.lo)↔p.lo<=id/\id<p.hi:=by
  rw[List.mem_range'_1];omega
 simp only[this]
theorem BE:∀(l:List Piece) (b:T Ob) (id:Nat) (o:Ob),(l.foldl dt b).get id=aa o->(∃p∈l,p.lo<=id/\id<p.hi/\p.t.get id=aa o)\/b.get id=aa o
 |[],b,id,o,h=>.inr h
 |p::l,b,id,o,h=>by
  rw[asG]at h;rcases BE l _ id o h with⟨q,hq,h1⟩|h
  ·exact .inl ⟨q,by simp[hq],h1⟩
  ·rw[ku]at h;split at h
   ·rename_i hc;cases hp:p.t.get id with
    |none=>rw[hp]at h;exact .inr h
    |some x=>rw[hp]at h;exact .inl ⟨p,by simp,hc.1,hc.2,by rw[hp];exact h⟩
   ·exact .inr h
theorem G8:∀(l:List Piece) (b:T Ob) (id:Nat),(∀p∈l,id<p.lo)->(l.foldl dt b).get id=b.get id
 |[],b,id,_=>rfl
 |p::l,b,id,h=>by
  rw[asG,G8 l _ id (λq hq=>h q (by simp[hq])),ku,if_neg];have:=h p (by simp);omega
theorem G9{aH:List Piece}{bits:Nat}{b:T Ob}{id:Nat}{o:Ob}(h:(seen aH bits b).get id=aa o):
 (∃p∈aH,asp bits p.j=ab/\p.lo<=id/\id<p.hi/\p.t.get id=aa o)\/b.get id=aa o:=by
 rcases BE _ _ _ _ h with⟨p,hp,h1⟩|h
 ·rw[atc]at hp;exact .inl ⟨p,hp.1,by simpa using hp.2,h1⟩
 ·exact .inr h
theorem aaP{aH:List Piece}{bits:Nat}{b:T Ob}{id:Nat}(h:∀p∈aH,id<p.lo):(seen aH bits b).get id=b.get id:=
 G8 _ _ _ λp hp=>h p (atc.1 hp).1
inductive Stp(P:Program)(S:Self)(pl:dR)(ro:Nat)(ops:Array Oper)(o:Oper)(j:Nat)(d d':DS)(v:IV):Prop
 |skip (h:aO o ops d.e=af) (hv:v=.undef) (hn:d'.n=d.n) (hp:d'.aH=d.aH) (hk:bc pl j≠.effect) (hb:d'.bs=d.bs)
 |Fm (h:aO o ops d.e=af) (hv:v=.undef) (hn:d'.n=d.n) (hp:d'.aH=d.aH) (hk:bc pl j=.effect) (i0:Nat) (b:T Ob) (rest:List (Nat×T Ob)) (gk:d.bs=(i0,b)::rest)
   (hb:d'.bs=(j,b)::d.bs) (hr:recheck P pl ops (pl.b_.getD j 0) d.e d.n d.aH b (ops.toList.zipIdx.take j)=ab)
 |pure (h:aO o ops d.e=ab) (hk:bc pl j=.pure) (hn:d'.n=d.n) (hp:d'.aH=d.aH) (hb:d'.bs=d.bs) (σ:St) (he:av P 0 (ax d.e) o ⟨0,.lf⟩=aa (.val v σ)) (h0:σ.n=0)
 |alloc (h:aO o ops d.e=ab) (hk:bc pl j=.alloc) (hb:d'.bs=d.bs) (σ:St) (he:av P 0 (ax d.e) o ⟨d.n,.lf⟩=aa (.val v σ)) (hn:d'.n=σ.n) (hp:d'.aH=⟨j,d.n,σ.n,σ.t⟩::d.aH)
 |load (h:aO o ops d.e=ab) (hk:bc pl j=.load) (hn:d'.n=d.n) (hp:d'.aH=d.aH) (hb:d'.bs=d.bs) (i0:Nat) (b:T Ob) (rest:List (Nat×T Ob)) (gk:d.bs=(i0,b)::rest)
   (σ:St) (he:av P d.n (ax d.e) o ⟨d.n,seen d.aH (pl.b_.getD j 0) b⟩=aa (.val v σ)) (h0:σ.n=d.n)
   (hl:(asp (pl.b_.getD j 0) i0||lT P d.e o d.n v d.aH (pl.b_.getD j 0) rest)=ab)
 |call (h:aO o ops d.e=ab) (hk:bc pl j=.call) (hb:d'.bs=d.bs) (i0:Nat) (b:T Ob) (rest:List (Nat×T Ob)) (gk:d.bs=(i0,b)::rest)
   (σ:St) (he:jA P S d.n d.e o ⟨d.n,seen d.aH (pl.b_.getD j 0) b⟩=aa (v,σ)) (hn:d'.n=σ.n) (hp:d'.aH=⟨j,d.n,σ.n,σ.t⟩::d.aH)
 |effect (h:aO o ops d.e=ab) (hk:bc pl j=.effect) (i0:Nat) (b:T Ob) (rest:List (Nat×T Ob)) (gk:d.bs=(i0,b)::rest)
   (σ:St) (he:jA P S ro d.e o ⟨d.n,seen d.aH (pl.b_.getD j 0) b⟩=aa (v,σ)) (hn:d'.n=σ.n) (hb:d'.bs=(j,σ.t)::d.bs) (hp:d'.aH=d.aH.filter λp=> !asp (pl.b_.getD j 0) p.j)
   (hr:recheck P pl ops (pl.b_.getD j 0) d.e d'.n d'.aH σ.t (ops.toList.zipIdx.take j)=ab)
theorem Oz{U:Self}{o:Oper}{j:Nat}{d d':DS}(h:bQ P U pl ro ops o j d=aa d'):∃v,d'.e=d.e.put o.dst v/\d.bs≠[]/\Stp P U pl ro ops o j d d' v:=by
 unfold bQ at h;dsimp only at h;split at h
 ·cases h
 ·rename_i i0 b rest gk;have aZ:d.bs≠[]:=by rw[gk];simp
  split at h
  ·rename_i hw;split at h
   ·rename_i hk;split at h
    ·rename_i v σ he;split at h
     ·rename_i h0;cases h;exact⟨v,rfl,aZ,.pure hw hk rfl rfl rfl σ he h0⟩
     ·cases h
    ·cases h
   ·rename_i hk;split at h
    ·rename_i v σ he;cases h;exact⟨v,rfl,aZ,.alloc hw hk rfl σ he rfl rfl⟩
    ·cases h
   ·rename_i hk;split at h
    ·rename_i v σ he;split at h
     ·rename_i hc;cases h;exact⟨v,rfl,aZ,.load hw hk rfl rfl rfl i0 b rest gk σ he hc.1 hc.2⟩
     ·cases h
    ·cases h
   ·rename_i hk;split at h
    ·rename_i v σ he;cases h;exact⟨v,rfl,aZ,.call hw hk rfl i0 b rest gk σ he rfl rfl⟩
    ·cases h
   ·rename_i hk;split at h
    ·rename_i v σ he;split at h
     ·rename_i hc;cases h;exact⟨v,rfl,aZ,.effect hw hk i0 b rest gk σ he rfl rfl rfl hc⟩
     ·cases h
    ·cases h
  ·rename_i hw;have hw:aO o ops d.e=af:=by simpa using hw
   split at h
   ·rename_i hk;split at h
    ·rename_i hc;cases h;exact⟨.undef,rfl,aZ,.Fm hw rfl rfl rfl hk i0 b rest gk rfl hc⟩
    ·cases h
   ·rename_i hk;cases h;exact⟨.undef,rfl,aZ,.skip hw rfl rfl rfl hk rfl⟩
structure Tr(P:Program)(S:Nat->Self)(pl:dR)(ro:Nat)(ops:Array Oper)(D:Nat->DS):Prop where
 step:∀(j:Nat) (o:Oper),ops[j]?=aa o->bQ P (S j) pl ro ops o j (D j)=aa (D (j+1))
def nZ(P:Program)(S:Nat->Self)(pl:dR)(ro:Nat)(ops:Array Oper)(d:DS):Nat->DS
 |0=>d
 |j+1=>match ops[j]? with
  |some o=>(bQ P (S j) pl ro ops o j (nZ P S pl ro ops d j)).getD (nZ P S pl ro ops d j)
  |none=>nZ P S pl ro ops d j
theorem LB{d0:DS}:∀{l:List Oper} {k:Nat} {d':DS},ops.toList.drop k=l->k<=ops.size->iW P S pl ro ops (l.zipIdx k) (nZ P S pl ro ops d0 k)=aa d'->
 (∀(j:Nat) (o:Oper),k<=j->ops[j]?=aa o->bQ P (S j) pl ro ops o j (nZ P S pl ro ops d0 j)=aa (nZ P S pl ro ops d0 (j+1)))/\d'=nZ P S pl ro ops d0 ops.size
 |[],k,d',hl,hk,h=>by
  have hs:ops.size<=k:=by
   have:ops.toList.length<=k:=List.drop_eq_nil_iff.1 hl;simpa using this
  cases h;refine⟨λj o hj ho=>?_,by rw[show k=ops.size by omega]⟩;have:=(asX.1 ho).1;omega
 |o::l,k,d',hl,hk,h=>by
  have bp:ops[k]?=aa o:=by
   have:(ops.toList.drop k)[0]?=aa o:=by rw[hl];rfl
   simpa using this
  have gg:ops.toList.drop (k+1)=l:=by
   rw[<-auN (i:=1) (j:=k),hl];rfl
  have ai:=(asX.1 bp).1;rw[avy]at h;unfold iW at h;split at h
  ·rename_i d1 h1
   have AM:nZ P S pl ro ops d0 (k+1)=d1:=by
    rw[nZ,bp];simp only[h1,Option.getD_some]
   rw[<-AM]at h;obtain⟨h2,h3⟩:=LB gg (by omega) h;refine⟨λj o' hj ho=>?_,h3⟩;rcases avl hj with hj|rfl
   ·exact h2 j o' (by omega) ho
   ·rw[bp]at ho;cases ho;rw[h1,AM]
  ·cases h
theorem aaQ{d0 d':DS}(h:iW P S pl ro ops ops.toList.zipIdx d0=aa d'):Tr P S pl ro ops (nZ P S pl ro ops d0)/\d'=nZ P S pl ro ops d0 ops.size:=by
 obtain⟨h1,h2⟩:=LB (k:=0) (by simp) (by omega) h;exact⟨⟨λj o ho=>h1 j o (by omega) ho⟩,h2⟩
section tr
variable{D:Nat->DS}(ht:Tr P S pl ro ops D)
include ht
theorem Tr.OA{j:Nat}(hj:j<ops.size):∃o v,ops[j]?=aa o/\(D (j+1)).e=(D j).e.put o.dst v/\(D j).bs≠[]/\Stp P (S j) pl ro ops o j (D j) (D (j+1)) v:=by
 have ho:ops[j]?=aa ops[j]:=asw hj;obtain⟨v,h1,h2,h3⟩:=Oz (ht.step j _ ho);exact⟨_,v,ho,h1,h2,h3⟩
theorem Tr.XH(hc:∀j,bX (S j))(hk:∀j,bF (S j)){j:Nat}(hj:j<ops.size):(D j).n<=(D (j+1)).n:=
 C2 (hc j) (hk j) (ht.step j _ (asw hj))
theorem Tr.fG(hc:∀j,bX (S j))(hk:∀j,bF (S j)){i j:Nat}(mX:i<=j)(hj:j<=ops.size):(D i).n<=(D j).n:=by
 induction j with
 |zero=>have:i=0:=by omega
        subst this;exact ar8 _
 |succ j ih=>
  rcases avl mX with h|rfl
  ·exact asq (ih (by omega) (by omega)) (ht.XH hc hk (by omega))
  ·exact ar8 _
theorem Tr.apart(hc:∀j,bX (S j))(hk:∀j,bF (S j)){i j id:Nat}(hi:i<ops.size)(hj:j<ops.size)(h1:(D i).n<=id/\id<(D (i+1)).n)(h2:(D j).n<=id/\id<(D (j+1)).n):i=j:=by
 rcases Nat.lt_trichotomy i j with h|h|h
 ·have:=ht.fG hc hk (show i+1<=j from h) (by omega);omega
 ·exact h
 ·have:=ht.fG hc hk (show j+1<=i from h) (by omega);omega
theorem Tr.aeg{j:Nat}(hj:j<ops.size):(D (j+1)).bs=(D j).bs\/(bc pl j=.effect/\∃b,(D (j+1)).bs=(j,b)::(D j).bs):=by
 obtain⟨o,v,_,_,_,h⟩:=ht.OA hj;cases h with
 |skip _ _ _ _ _ hb=>exact .inl hb
 |Fm _ _ _ _ hk _ b _ _ hb _=>exact .inr ⟨hk,b,hb⟩
 |pure _ _ _ _ hb=>exact .inl hb
 |alloc _ _ hb=>exact .inl hb
 |load _ _ _ _ hb=>exact .inl hb
 |call _ _ hb=>exact .inl hb
 |effect _ hk _ _ _ _ σ _ _ hb=>exact .inr ⟨hk,σ.t,hb⟩
theorem Tr.LC{m j:Nat}(hm:m<=j)(hj:j<=ops.size):∃pre,(D j).bs=pre++(D m).bs/\∀x∈pre,m<=x.1/\x.1<j/\bc pl x.1=.effect:=by
 induction j with
 |zero=>have:m=0:=by omega
        subst this;exact⟨[],rfl,λ_ h=>by cases h⟩
 |succ j ih=>
  rcases avl hm with h|rfl
  ·obtain⟨pre,h1,h2⟩:=ih (by omega) (by omega);rcases ht.aeg (show j<ops.size by omega)with hb|⟨hk,b,hb⟩
   ·exact⟨pre,by rw[hb,h1],λx hx=>by have:=h2 x hx;exact⟨this.1,by omega,this.2.2⟩⟩
   ·refine⟨(j,b)::pre,by rw[hb,h1];rfl,λx hx=>?_⟩;rcases List.mem_cons.1 hx with rfl|hx
    ·exact⟨by omega,by omega,hk⟩
    ·have:=h2 x hx;exact⟨this.1,by omega,this.2.2⟩
  ·exact⟨[],rfl,λ_ h=>by cases h⟩
theorem Tr.OB{m j:Nat}(hm:m<=j)(hj:j<=ops.size)(aZ:∀i,m<=i->i<j->bc pl i≠.effect):(D j).bs=(D m).bs:=by
 obtain⟨pre,h1,h2⟩:=ht.LC hm hj;cases pre with
 |nil=>exact h1
 |cons x pre=>have:=h2 x (by simp);exact absurd this.2.2 (aZ x.1 this.1 this.2.1)
end tr
structure tb(ops:Array Oper)(D:Nat->DS)(A:Nat->Prop)(e:Env):Prop where
 n:e.n=(D 0).e.n
 put:∀j,A j->∀t,jg ops j=aa t->e.at t=(D (j+1)).e.at t
 cH:∀t,(∀j,A j->jg ops j≠aa t)->e.at t=(D 0).e.at t
theorem XI{e:Env}{dst:Option Tmp}{v:IV}{t:Nat}(h:dst≠aa t):(e.put dst v).at t=e.at t:=by
 cases dst with
 |none=>rfl
 |some d=>
  rw[Env.cV,if_neg];intro hc;exact h (by rw[hc.2])
theorem tb.step{D:Nat->DS}{A:Nat->Prop}{e:Env}(ho:pn ops pl){j:Nat}{o:Oper}{v:IV}(h:tb ops D A e)(hA:∀i,A i->i<ops.size)(hj:ops[j]?=aa o)(hnj:¬A j)
 (hd:(D (j+1)).e=(D j).e.put o.dst v)(hold:∀t,jg ops j=aa t->(D j).e.at t=(D 0).e.at t)(hn:(D j).e.n=(D 0).e.n):tb ops D (λi=>A i\/i=j) (e.put o.dst v):=by
 have ai:=(asX.1 hj).1;have fY:jg ops j=o.dst:=by unfold jg;rw[hj];rfl
 have acH:∀i t,A i->jg ops i=aa t->o.dst≠aa t:=by
  intro i t hi hit;have yb:=hA i hi;have aZ:i≠j:=λhx=>hnj (hx▸hi);rw[<-fY];rcases Nat.lt_or_gt_of_ne aZ with fX|fX
  ·exact ho.single i j fX ai t hit
  ·intro hc;exact ho.single j i fX yb t hc hit
 refine⟨by rw[Env.nu];exact h.n,λi hi t hit=>?_,λt bw=>?_⟩
 ·rcases hi with hi|rfl
  ·rw[XI (acH i t hi hit)];exact h.put i hi t hit
  ·rw[fY]at hit;rw[hd,hit,Env.cV,Env.cV,h.n,hn];split
   ·rfl
   ·rw[hold t (by rw[fY];exact hit)];refine h.cH t λi hi hc=>acH i t hi hc hit
 ·rw[XI (by rw[<-fY];exact bw j (.inr rfl))];exact h.cH t λi hi=>bw i (.inl hi)
theorem Tr.env{D:Nat->DS}(ht:Tr P S pl ro ops D)(ho:pn ops pl):∀j,j<=ops.size->tb ops D (λi=>i<j) (D j).e
 |0,_=>⟨rfl,λi hi=>absurd hi (by omega),λt _=>rfl⟩
 |j+1,hj=>by
  obtain⟨o,v,h1,h2,_,_⟩:=ht.OA (show j<ops.size by omega);have ih:=ht.env ho j (by omega);have:=tb.step (A:=λi=>i<j) (v:=v) ho ih (λi hi=>by omega) h1 (by omega) h2 (λt hd=>ih.cH t λi hi hc=>ho.single i j hi (by omega) t hc hd) ih.n;rw[<-h2]at this;refine⟨this.n,λi hi=>this.put i (by omega),λt bw=>this.cH t λi hi=>bw i (by omega)⟩
theorem afK(ho:pn ops pl):∀(j:Nat),j<ops.size->∀i,jh pl j i->i<j:=by
 intro j;induction j using Nat.strongRecOn with
 |_ j ih=>
  intro hj i hb;obtain⟨e,he,cI,h1⟩:=ho.bits j _ (asw hj) i hb;have ai:=ho.back j _ (asw hj) e he cI;rcases h1 with rfl|h1
  ·exact ai
  ·have:=ih e.on ai (by omega) i h1;omega
theorem G_{D:Nat->DS}{A B:Nat->Prop}{e e':Env}(h:tb ops D A e)(h':tb ops D B e'){t:Nat}(hAB:∀i,jg ops i=aa t->(A i↔B i)):e.at t=e'.at t:=by
 by_cases hx:∃i,A i/\jg ops i=aa t
 ·obtain⟨i,hi,hd⟩:=hx;rw[h.put i hi t hd,h'.put i ((hAB i hd).1 hi) t hd]
 ·rw[h.cH t λi hi hd=>hx ⟨i,hi,hd⟩,h'.cH t λi hi hd=>hx ⟨i,(hAB i hd).2 hi,hd⟩]
theorem tc{e e':Env}{j:Nat}{o:Oper}(hj:ops[j]?=aa o)(h:∀t∈Aj ops j,e.at t=e'.at t)(hn:e.n=e'.n):
 (∀x∈o.op.operands,ax e x=ax e' x)/\aO o ops e=aO o ops e':=by
 have hr:Aj ops j=uz ops o:=by
  unfold Aj;rw[at4,List.getElem?_map];have:ops.toList[j]?=aa o:=by simpa using hj
  rw[this];rfl
 rw[hr]at h;refine⟨λx hx=>?_,?_⟩
 ·cases x with
  |tmp t=>exact h t (by unfold uz;rw[asn];left;exact List.mem_filterMap.2 ⟨.tmp t,by simpa using hx,rfl⟩)
  |_=>rfl
 ·unfold aO;cases hg:o.guard with
  |none=>rfl
  |some g=>
   obtain⟨i,want⟩:=g;dsimp only;cases hd:(ops[i]?).bind (·.dst)with
   |none=>rfl
   |some d=>
    dsimp only;rw[hn,h d (by unfold uz;rw[asn];right;rw[hg];dsimp only;rw[hd];simp)]
end Go.Ev
