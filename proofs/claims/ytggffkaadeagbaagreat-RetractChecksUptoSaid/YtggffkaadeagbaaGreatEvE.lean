/- Lemmas over the model, without conditions of their own: code and calls of the ideal machine are sound; regions that draw (1). -/
import Derived.Test.YtggffkaadeagbaaGreatEvC
open Go.Fence renaming wide->arb,inRound->avE
open Go.Code renaming roundsIn->avQ
open Go.Instr renaming getLoop->avF,endRound->avx,yield->av0,enterLoop->aui
open Go.Sem renaming run_bind->aqM,run_pure->aqV
open Go.Result renaming andThen_ok->aqJ
open List renaming foldl_cons->arh,range'->as0,drop_drop->atm,length_cons->ary,range'_succ->aul,range_eq_range'->auW,mapM_nil->auH,mapM_cons->asG,zipIdx_cons->auc,map_congr_left->asJ,getD_eq_getElem?_getD->asE,mk_mem_zipIdx_iff_getElem?->arM,all_eq_true->aqW,mem_filter->arN,mem_append->aqX
open Go.LoopState renaming busy->awv
open Decidable renaming byContradiction->asC
open Go.Oper renaming semAt_eq->asp,uponIn_enter->aub
open Nat renaming le_trans->aq2,le_refl->aqK,lt_of_not_le->atE,testBit->aq0,lor->auD,testBit_or->avR,shiftLeft->atQ,lt_or_eq_of_le->atX
open Bool renaming false_eq_true->ara,not_eq_true'->aru,or_eq_true->arl,and_eq_true->aqG,not_true->atA,false_or->asR
open Go renaming undef->art
open Array renaming replicate->arZ,getElem?_eq_getElem->aq7,getElem?_eq_some_iff->arA
open Option renaming map_some->aq9
open Go.Call renaming operands->att
open Go.Region renaming binds->ast
open Option.some renaming injEq->aqH
set_option linter.all false
namespace Go.Ev
variable{P:Program}{N ro m:Nat}{ι:Io}{w:World}{σ:St}{e:Env}{a:Act}{S:Self}{F:Fence}{rd:Option Nat}{Q:Exit→Act→World→Prop}
def Gq(ch:List PanicEntry):Ex→Exit
 |.normal=>.normal
 |.exit id=>.exit id
 |.goto l=>.goto l
 |.ret=>.ret
 |.bU _=>.panic ch
def Ux(ι:Io)(ch:List PanicEntry):Ex→Prop
 |.bU v=>∃u,ch=[{v:=u,recovered:=false}]∧Rv ι v u
 |_=>True
def oq(ι:Io):Option IV→FrameMode→Prop
 |none,u=>u=.returning
 |some v,u=>∃x,u=.panicking [{v:=x,recovered:=false}]∧Rv ι v x
def jX(F:Fence)(rd:Option Nat)(ι:Io):Prop:=(rd=none∧F=arb)∨∃l loc,rd=some l∧ι l 0=some loc∧F=arb.inRound loc.b
theorem jX.mono{aC:Io}(gJ:Ext ι aC)(h:jX F rd ι):jX F rd aC:=by
 rcases h with h|⟨l,loc,h1,h2,h3⟩
 ·exact .inl h
 ·exact .inr ⟨l,loc,h1,gJ _ _ _ h2,h3⟩
theorem jX.fn(h:jX F rd ι)(f:FuncId):F.fn f:=by rcases h with⟨_,rfl⟩|⟨_,_,_,_,rfl⟩<;>trivial
theorem jX.depth(h:jX F rd ι){n:Nat}:F.depth.isSome=true→1≤n:=by rcases h with⟨_,rfl⟩|⟨_,_,_,_,rfl⟩<;>(intro h;simp[arb,avE]at h)
theorem jX.calls(h:jX F rd ι){f:FuncId}{us:Array Value}{R:Ending→World→Prop}(hc:CallsIn arb 0 P f us w R):CallsIn F (0- 1) P f us w R:=by
 rcases h with⟨_,rfl⟩|⟨_,_,_,_,rfl⟩<;>exact hc
theorem jX.inRound(h:jX F rd ι)(l:Nat):F.inRound l=arb.inRound l:=by rcases h with⟨_,rfl⟩|⟨_,_,_,_,rfl⟩<;>rfl
def mW(N ro:Nat)(ι:Io)(w:World)(σ:St)(cr:CR)(Q:Exit→Act→World→Prop):Prop:=
 ∀a' w' aC ch,Inv N aC cr.σ w'→Le ro ι w σ aC w' cr.σ→cZ aC cr.e a'.tmps→jJ aC cr.df a'.defers→Ux aC ch cr.ex→Q (Gq ch cr.ex) a' w'
def Uy(F:Fence)(P:Program)(m:Nat)(c:Code)(Q:Exit→Act→World→Prop)(a:Act)(w:World):Prop:=
 match c with
 |.loop b=>avQ F 0 P b Q m a w
 |c=>c.wpIn F 0 P Q a w
theorem Uy.wp{c:Code}(h:Uy F P m c Q a w):c.wpIn F 0 P Q a w:=by
 cases c<;>first|exact h|exact wpIn_loop_rounds _ h
def vR(N ro:Nat)(ι:Io)(w:World)(σ:St)(v:IV)(ah:St):Ending→World→Prop
 |.returned u,w'=>∃aC,Rv aC v u∧Inv N aC ah w'∧Le ro ι w σ aC w' ah
 |_,_=>False
def gU(P:Program)(S:Self)(m:Nat):Prop:=∀N ro rd fn c e df σ cr,S.code ro rd fn c e df σ=some cr→cr.σ.n≤N→∀F ι a w Q,jX F rd ι→Inv N ι σ w→cZ ι e a.tmps→jJ ι df a.defers→
 mW N ro ι w σ cr Q→Uy F P m c Q a w
def MR(N ro:Nat)(ι:Io)(w:World)(σ:St)(v:IV)(ah:St):Ending→World→Prop
 |.panicked ch,w'=>∃aC,Ux aC ch (.bU v)∧Inv N aC ah w'∧Le ro ι w σ aC w' ah
 |_,_=>False
def HE(N ro:Nat)(ι:Io)(w:World)(σ:St)(m:Option IV)(ah:St):Ending→FrameMode→World→Prop
 |.returned _,u,w'=>∃aC,oq aC m (settle u)∧Inv N aC ah w'∧Le ro ι w σ aC w' ah
 |_,_,_=>False
structure ek(P:Program)(S:Self):Prop where
 call:∀N ro f args σ v ah,S.call ro f args σ=some (v,ah)→ah.n≤N→∀ι us w,Inv N ι σ w→ax ι args us→CallsIn arb 0 P f us.toArray w (vR N ro ι w σ v ah)
 bU:∀N ro f args σ v ah,S.bU ro f args σ=some (v,ah)→ah.n≤N→∀ι us w,Inv N ι σ w→ax ι args us→CallsIn arb 0 P f us.toArray w (MR N ro ι w σ v ah)
 vF:∀N ro f args m σ m' ah,S.vF ro f args m σ=some (m',ah)→ah.n≤N→∀ι us u w,oq ι m u→Inv N ι σ w→ax ι args us→CallsDIn arb 0 P f us.toArray u w (HE N ro ι w σ m' ah)
 mb:∀ro f args m σ m' ah,S.vF ro f args m σ=some (m',ah)→∃fn,P.funcs[f]?=some fn∧(fn.body.isSome&&fn.name != "runtime.NumGoroutine")=true
theorem mW.from{cr:CR}{b_:Io}{w1:World}{ai:St}(h:mW N ro ι w σ cr Q)(hi:Inv N ι σ w)(hl:Le ro ι w σ b_ w1 ai)(hn:ai.n≤N):mW N ro b_ w1 ai cr Q:=
 fun a' w' aC ch h1 h2 h3 h4 h5=>h a' w' aC ch h1 (Le.trans (fun id h1 h2=>hi.fresh id h1 (by omega)) hl h2) h3 h4 h5
theorem Le.then(hi:Inv N ι σ w){b_ od:Io}{w1 w2:World}{ai dc:St}(hn:ai.n≤N)(h:Le ro ι w σ b_ w1 ai)(k:Le ro b_ w1 ai od w2 dc):Le ro ι w σ od w2 dc:=
 Le.trans (fun id h1 h2=>hi.fresh id h1 (by omega)) h k
theorem w_{l:Nat}{r:Loop}(h:w.heap[l]?=some (.loop r)):(avF l).run P w=.ok r w:=by
 simp only[avF,aqM,bP (P:=P) h (by simp),aqJ,aqV]
theorem heap_set{b:Nat}{o:Go.Obj}(h:b<w.heap.size):(w.heap.setIfInBounds b o)[b]?=some o:=by simp[h]
theorem KU:∀{ps:List Tmp} {args:List IV} {us:List Value} {e:Env} {ts:Array Value},cZ ι e ts→ax ι args us→
 cZ ι ((ps.zip args).foldl (fun e (p,v)=>e.put (some p) v) e) ((ps.zip us).foldl (fun tmps (t,a)=>tmps.setIfInBounds t a) ts)
 |[],_,_,_,_,h,_=>h
 |p::ps,[],us,_,_,h,hr=>by rw[hr.of_nil];exact h
 |p::ps,v::args,us,e,ts,h,hr=>by
  obtain⟨u,oM,rfl,h1,h2⟩:=hr.sb;simp only[List.zip_cons_cons,arh];exact KU (h.set h1 p) h2
theorem qA{l:Nat}{loc:Loc}{st:LoopState}{zd:Option Code}{f:FuncId}{tm:T IV}{r_:Nat}{ps:List Tmp}{nB bd:Code}{lX:Nat}(hi:Inv N ι σ w)(aA:σ.at l=some (.loop st zd f tm r_ ps nB bd lX))(hl:ι l 0=some loc):
 ∃ld ts f',ι lX 0=some ld∧w.heap[loc.b]?=some (.loop {state:=st,pending:=zd,fn:=f',tmps:=ts,params:=ps.toArray,assign:=nB,body:=bd,defers:=ld.b})∧cZ ι ⟨r_,tm⟩ ts∧loc.b<w.heap.size:=by
 obtain⟨l',ld,ts,f',cd,hd,hh,hs,ht⟩:=hi.obj l _ aA;rw[hl]at cd;cases cd;exact⟨ld,ts,f',hd,hh,⟨hs.symm,ht⟩,hi.iw l _ ⟨0,loc,hl,rfl⟩⟩
theorem WH(s:LoopState)(h:s≠.busy):(s==awv)=false:=by cases s<;>first|rfl|exact absurd rfl h
theorem Jw{l:Nat}{loc:Loc}{st lr:LoopState}{zd ED:Option Code}{f f':FuncId}{tm:T IV}{r_:Nat}{ps:List Tmp}{nB bd:Code}{lX:Nat}{ld:Loc}{ts:Array Value}(hi:Inv N ι σ w)(cx:ro≤l)
 (aA:σ.at l=some (.loop st zd f tm r_ ps nB bd lX))(hl:ι l 0=some loc)(hd:ι lX 0=some ld)(he:cZ ι ⟨r_,tm⟩ ts):
 let go:Go.Obj:=.loop {state:=lr,pending:=ED,fn:=f',tmps:=ts,params:=ps.toArray,assign:=nB,body:=bd,defers:=ld.b}
 Inv N ι (σ.put l (.loop lr ED f tm r_ ps nB bd lX)) {w with heap:=w.heap.setIfInBounds loc.b go}∧Le ro ι w σ ι {w with heap:=w.heap.setIfInBounds loc.b go} (σ.put l (.loop lr ED f tm r_ ps nB bd lX)):=by
 intro go;have aa:=hi.iw l _ ⟨0,loc,hl,rfl⟩;exact hi.kg aA cx hl ⟨loc,ld,ts,f',hl,hd,heap_set aa,he.1.symm,he.2⟩
theorem NL{l:Nat}{R:Ending→World→Prop}{ex:Ex}{ch:List PanicEntry}(hx:¬ex.abE=true){a:Act}{w:World}(h:∃v w',(avx l (wQ ex)).run P w=.ok v w'∧R (.returned v) w'):roundPost P l R (Gq ch ex) a w:=by
 cases ex<;>first|exact h|exact absurd rfl hx
theorem ZT(hS:gU P S m)(hm:bS S){l:Nat}{loc:Loc}{args:List IV}{us:List Value}{v:IV}{ah:St}(h:zA S ro l args σ=some (v,ah))(hN:ah.n≤N)(hF:jX F rd ι)(hi:Inv N ι σ w)
 (hl:ι l 0=some loc)(hr:ax ι args us):
 ∃f' ts nB bd,(av0 loc.b us.toArray).run P w=.ok (.round loc.b f' ts nB bd) w∧RoundIn F 0 P loc.b f' ts nB bd w (vR N ro ι w σ v ah):=by
 unfold zA at h;split at h
 ·rename_i state pending f tm r_ params assign body lX aA;split at h
  ·cases h
  ·rename_i hc;have bH:args.length=params.length:=asC fun hx=>hc (.inl hx);have gm:ro≤l:=asC fun hx=>hc (.inr (.inl hx));have hc3:state=.ready:=asC fun hx=>hc (.inr (.inr hx));simp only at h;split at h
   ·rename_i e1 ai h1;split at h
    ·rename_i ZU f1 tm1 aev params1 RU abF aew qi;split at h
     ·rename_i ex e2 dc h2;split at h
      ·cases h
      rename_i hnp;split at h
      ·rename_i st3 apP f3 tm3 aqm params3 apw apQ aml NN;cases h;obtain⟨ld,ts,f',hd,hh,he,aa⟩:=qA hi aA hl;have xc:dc.n≤N:=hN
       have dD:ai.n≤N:=by
        have:=hm _ _ _ _ _ _ _ _ h2;simp only[St.mU]at this;omega
       have aL:us.toArray.size=params.toArray.size:=by simp[←hr.1,bH]
       refine⟨f',(params.zip us).foldl (fun tmps (t,a)=>tmps.setIfInBounds t a) ts,assign,body,?_,?_⟩
       ·have hz:((params.toArray.zip us.toArray).foldl (fun tmps (t,a)=>tmps.setIfInBounds t a) ts)=(params.zip us).foldl (fun tmps (t,a)=>tmps.setIfInBounds t a) ts:=by simp[List.zip_toArray]
        simp only[av0,aqM,w_ hh,aqJ,aL,ne_eq,not_true_eq_false,if_false,aqV,hz]
       ·refine roundIn_of_wpIn (hF.fn f') ?_;rw[hF.inRound];refine(hS N ro (some l) f assign _ [] σ _ h1 dD (arb.inRound loc.b) ι {tmps:=_,defers:=[]} w _ (.inr ⟨l,loc,rfl,hl,rfl⟩) hi (KU he hr) trivial ?_).wp;intro a1 w1 b_ eO i1 l1 cV d1 p1;have qz:=l1.ext _ _ _ hl;obtain⟨ld1,ts1,f1',zK,xf,l5,dY⟩:=qA i1 qi qz;obtain⟨i2,l2⟩:=Jw (ro:=ro) (lr:=.busy) (ED:=ZU) (f':=f1') i1 gm qi qz zK l5;refine⟨_,by simp only[Instr.beginRound,aqM,w_ xf,aqJ,eD (P:=P) xf (by simp),aqV];rfl,?_⟩;refine(hS N ro (some l) f body _ [] _ _ h2 xc (arb.inRound loc.b) b_ a1 _ _ (.inr ⟨l,loc,rfl,qz,rfl⟩) i2 cV d1 ?_).wp;intro a2 w2 od ch2 i3 l3 e2' d2 p2;refine NL hnp ?_;have eN:=l3.ext _ _ _ qz;obtain⟨ld2,ts2,f2',KV,sw,Ce,dX⟩:=qA i3 NN eN;obtain⟨i4,l4⟩:=Jw (ro:=ro) (lr:=if(wQ ex).isNone then .ready else .done) (ED:=wQ ex) (f':=f2') i3 gm NN eN KV Ce;refine⟨.bool (wQ ex).isNone,_,by simp only[avx,aqM,w_ sw,aqJ,eD (P:=P) sw (by simp),aqV];rfl,od,?_,?_,?_⟩
        ·exact .raw _
        ·exact i4
        ·have NO:=Le.then i2 xc l3 l4;have l24:=Le.then i1 (by simp only[St.mU];exact dD) l2 NO;exact Le.then hi dD l1 l24
      ·cases h
     ·cases h
    ·cases h
   ·cases h
 ·cases h
end Go.Ev
namespace Go.Ev
variable{P:Program}{N ro m:Nat}{ι:Io}{w:World}{σ:St}{e:Env}{a:Act}{S:Self}{F:Fence}{rd:Option Nat}{Q:Exit→Act→World→Prop}
theorem gV{ρ:Operand→IV}{o:Oper}{out:ey}(h:ak P ro ρ o σ=some out)(hd:∀d,out≠.RT d):∀c,o.op≠.defer c:=by
 intro c hc;unfold ak at h;rw[hc]at h;dsimp only at h;split at h
 ·split at h
  ·cases h;exact hd _ rfl
  ·cases h
 ·cases h
theorem zL(hS:gU P S m)(hC:ek P S)(hm:bS S){o:Oper}{v:IV}{ah:St}{next:Act→World→Prop}(h:jn P S ro e o σ=some (v,ah))(hN:ah.n≤N)(hF:jX F rd ι)(hi:Inv N ι σ w)
 (he:cZ ι e a.tmps)(hQ:∀u w' aC,Rv aC v u→Inv N aC ah w'→Le ro ι w σ aC w' ah→next (a.put o.dst u) w'):o.wpIn F 0 P a w next Q:=by
 refine⟨fun f _=>hF.fn f,?_⟩;unfold jn at h;split at h
 ·rename_i v1 ai h1;cases h;rw[asp _ _ _ (gV h1 (by simp))];obtain⟨u,w',aC,hr,h2,h3,h4⟩:=oj hi he.eval h1 hN;rcases hr with hr|⟨hr,rfl⟩
  ·rw[hr,Oper.uponIn_value];exact hQ _ _ _ h2 h3 h4
  ·rw[hr,Oper.uponIn_skip];exact hQ _ _ _ h2 h3 h4
 ·rename_i f args h1;rw[asp _ _ _ (gV h1 (by simp))];obtain⟨us,hr,h2⟩:=oj hi he.eval h1;rw[hr,aub];refine⟨hF.depth,(hF.calls (hC.call N ro f args σ v ah h hN ι us w hi h2)).mono fun e w' hR=>?_⟩;cases e with
  |returned u=>obtain⟨aC,h3,h4,h5⟩:=hR;exact hQ _ _ _ h3 h4 h5
  |panicked chain=>exact hR.elim
  |outgrown=>exact hR.elim
 ·rename_i l args h1;rw[asp _ _ _ (gV h1 (by simp))];obtain⟨loc,us,hl,hr,h2⟩:=oj hi he.eval h1;obtain⟨f',ts,nB,bd,h3,h4⟩:=ZT (F:=F) hS hm h hN hF hi hl h2;rw[hr,h3,Oper.uponIn_round];refine⟨hF.depth,RoundIn.mono h4 fun e w' hR=>?_⟩;cases e with
  |returned u=>obtain⟨aC,h3,h4,h5⟩:=hR;exact hQ _ _ _ h3 h4 h5
  |panicked chain=>exact hR.elim
  |outgrown=>exact hR.elim
 ·cases h
theorem HF(hS:gU P S m)(hC:ek P S)(hm:bS S)(hk:bB S){ops:Array Oper}:∀{l:List Oper} {k:Nat} {e:Env} {df:List Df} {σ:St} {cr:CR} {ι:Io} {a:Act} {w:World},
 ops.toList.drop k=l→xW P S ro rd ops l e df σ=some cr→cr.σ.n≤N→jX F rd ι→Inv N ι σ w→cZ ι e a.tmps→jJ ι df a.defers→mW N ro ι w σ cr Q→
 wpOpsIn F 0 P ops Q (as0 k l.length) a w
 |[],k,e,df,σ,cr,ι,a,w,hl,h,hN,hF,hi,he,hd,hQ=>by
  cases h;exact hQ a w ι [] hi (Le.refl _ _ _ _) he hd trivial
 |o::rest,k,e,df,σ,cr,ι,a,w,hl,h,hN,hF,hi,he,hd,hQ=>by
  have fY:ops.toList.drop (k+1)=rest:=by
   rw[←atm (i:=1) (j:=k),hl];rfl
  have bo:ops[k]?=some o:=by
   have:(ops.toList.drop k)[0]?=some o:=by rw[hl];rfl
   simpa using this
  simp only[ary,aul];rw[wpOpsIn_cons];unfold wpOpIn;rw[bo];simp only;unfold xW at h;rw[rJ he];split at h
  ·rename_i hw;rw[if_pos hw];split at h
   ·rename_i v ai h1;have dD:ai.n≤N:=aq2 (w9 hm hk h) hN;refine zL hS hC hm h1 dD hF hi he fun u w' aC hv i1 l1=>?_;exact HF hS hC hm hk fY h hN (hF.mono l1.ext) i1 ((he.mono l1.ext).put hv _) (hd.mono l1.ext|>fun x=>by cases o.dst<;>exact x) (hQ.from hi l1 dD)
   ·split at h
    ·rename_i d h1;split at h
     ·rename_i jq;have hrn:rd=none:=by cases rd with|none=>rfl|some _=>cases jq
      have WI:F=arb:=by
       rcases hF with⟨_,h2⟩|⟨_,_,h2,_⟩
       ·exact h2
       ·rw[hrn]at h2;cases h2
      refine⟨fun f _=>hF.fn f,?_⟩;obtain⟨dd,hr,xg,c,hc⟩:=oj hi he.eval h1;have ZV:(o.semAt F.round a.eval)=execOp a.eval o:=by rw[WI];rfl
      rw[ZV,hr,Oper.uponIn_defer];refine HF hS hC hm hk fY h hN hF hi ?_ ?_ hQ
      ·cases fS:o.dst with
       |none=>exact he
       |some t=>exact he.set q_ t
      ·cases o.dst<;>exact⟨xg,hd⟩
     ·cases h
    ·rename_i f args h1;split at h
     ·rename_i v ai h2;cases h;refine⟨fun f _=>hF.fn f,?_⟩;rw[asp _ _ _ (gV h1 (by simp))];obtain⟨us,hr,h3⟩:=oj hi he.eval h1;rw[hr,aub];refine⟨hF.depth,(hF.calls (hC.bU N ro f args σ v ai h2 hN ι us w hi h3)).mono fun ed w' hR=>?_⟩;cases ed with
      |returned u=>exact hR.elim
      |outgrown=>exact hR.elim
      |panicked chain=>
       obtain⟨aC,h4,h5,h6⟩:=hR;exact hQ a w' aC chain h5 h6 (he.mono h6.ext) (hd.mono h6.ext) h4
     ·cases h
    ·rename_i v h1;cases h;refine⟨fun f _=>hF.fn f,?_⟩;rw[asp _ _ _ (gV h1 (by simp))];obtain⟨u,hr,h3⟩:=oj hi he.eval h1;rw[hr,Oper.uponIn_panic];exact hQ a w ι [{v:=u,recovered:=false}] hi (Le.refl _ _ _ _) he hd ⟨u,rfl,h3⟩
    ·cases h
  ·rename_i hw;rw[if_neg hw];exact⟨fun f _=>hF.fn f,HF hS hC hm hk fY h hN hF hi (he.put q_ _) (by cases o.dst<;>exact hd) hQ⟩
def NP(P:Program)(S:Self):Prop:=∀N ro rd ops e df σ cr,Nk P S ro ops e df σ=some cr→cr.σ.n≤N→∀F ι a w Q id,jX F rd ι→Inv N ι σ w→cZ ι e a.tmps→jJ ι df a.defers→
 mW N ro ι w σ cr Q→(Code.region id ops true).wpIn F 0 P Q a w
theorem Gr{x:IV}{b:Bool}{u:Value}(hx:x=.raw (.bool b))(h:Rv ι x u):u=.bool b:=by subst hx;cases h;rfl
theorem jJ.append:∀{ds:List Df} {xs:List Deferred} {l6:List Df} {nD:List Deferred},jJ ι ds xs→jJ ι l6 nD→jJ ι (ds++l6) (xs++nD)
 |[],[],_,_,_,h=>h
 |_::_,_::_,_,_,h,h'=>⟨h.1,jJ.append h.2 h'⟩
 |[],_::_,_,_,h,_=>h.elim
 |_::_,[],_,_,h,_=>h.elim
def NQ(rd:Option Nat)(σ:St):Option (Nat×St×List Df):=
 match rd with
 |none=>some (σ.n,σ.add (.FE false),[.CG σ.n])
 |some l=>match σ.at l with
  |some (.loop _ _ _ _ _ _ _ _ lX)=>some (lX,σ,[])
  |_=>none
theorem ZW{lX:Nat}{ai:St}{mark:List Df}(h:NQ rd σ=some (lX,ai,mark))(hN:ai.n≤N)(hF:jX F rd ι)(hi:Inv N ι σ w):
 ∃w1 b_ ld marks,Inv N b_ ai w1∧Le ro ι w σ b_ w1 ai∧b_ lX 0=some ld∧jJ b_ mark marks∧
  ∀fn ts ps nB bd,(aui fn ts ps nB bd F.round).run P w=.ok (w1.heap.size,marks) {w1 with heap:=w1.heap.push (.loop {state:=.ready,pending:=none,fn,tmps:=ts,params:=ps,assign:=nB,body:=bd,defers:=ld.b})}:=by
 unfold NQ at h;split at h
 ·cases h
  have WI:F.round=none:=by
   rcases hF with⟨_,rfl⟩|⟨_,_,h,_⟩
   ·rfl
   ·cases h
  obtain⟨h1,h2⟩:=hi.CV (ro:=ro) (go:=.deferred (some [])) (ob:=.FE false) (by simp at hN;omega) ⟨_,bX _ _ _ _,by simp⟩;refine⟨_,_,⟨w.heap.size,1,1⟩,[{target:=.collected w.heap.size,args:= #[]}],h1,h2,bX _ _ _ _,⟨⟨_,bX _ _ _ _,rfl⟩,trivial⟩,fun fn ts ps nB bd=>?_⟩;rw[WI];simp only[aui,aqM,run_newObj,aqJ,aqV]
 ·rename_i l;split at h
  ·rename_i aA;cases h;rcases hF with⟨h,_⟩|⟨l',loc,h,hl,rfl⟩
   ·cases h
   ·cases h;obtain⟨ld,ts,f',hd,hh,he,aa⟩:=qA hi aA hl;refine⟨w,ι,ld,[],hi,Le.refl _ _ _ _,hd,trivial,fun fn ts ps nB bd=>?_⟩;simp only[aui,avE,aqM,w_ hh,run_newObj,aqJ,aqV]
  ·cases h
theorem ZX(hS:gU P S m)(hC:ek P S)(hm:bS S)(hk:bB S){fn:FuncId}{g:Operand}{ps:Array Tmp}{nB bd:Code}{df:List Df}{cr:CR}
 (h:uX P S ro rd fn (.rangeFunc g ps nB bd) e df σ=some cr)(hN:cr.σ.n≤N)(hF:jX F rd ι)(hi:Inv N ι σ w)(he:cZ ι e a.tmps)(hd:jJ ι df a.defers)(hQ:mW N ro ι w σ cr Q):
 (Code.rangeFunc g ps nB bd).wpIn F 0 P Q a w:=by
 unfold uX at h;dsimp only at h
 change(match NQ rd σ with
  |some (lX,σ,mark)=>_
  |none=>none)=some cr at h
 split at h
 ·rename_i lX ai mark om;split at h
  ·rename_i f args ij;split at h
   ·rename_i v3 u7 abH;split at h
    ·rename_i st zd f3 tm r_ ps3 as3 bd3 aml NN;split at h
     ·cases h
     ·rename_i hb;have cD:st≠.busy:=fun hx=>hb (.inl hx);have e_:ro≤ai.n:=asC fun hx=>hb (.inr hx)
      have NR:u7.n≤N:=by
       split at h
       ·cases h;exact hN
       ·have:=hm _ _ _ _ _ _ _ _ h;simp only[St.mU]at this;omega
      have xc:=hk.call _ _ _ _ _ _ abH;simp only[St.kK]at xc;obtain⟨w1,b_,ld,marks,i1,l1,zM,NS,C2⟩:=ZW (P:=P) (ro:=ro) om (by omega) hF hi;refine wpIn_rangeFunc fun fn' _=>?_;have jP:=i1.fresh ai.n (aqK _) (by omega) 0;have jb:=kj (l:=⟨w1.heap.size,1,1⟩) jP
      obtain⟨i2,l2⟩:=i1.CV (ro:=ro) (go:=.loop {state:=.ready,pending:=none,fn:=fn',tmps:=a.tmps,params:=ps,assign:=nB,body:=bd,defers:=ld.b}) (ob:=.loop .ready none fn e.t e.n ps.toList nB bd lX) (by omega)
       ⟨⟨w1.heap.size,1,1⟩,ld,a.tmps,fn',bX _ _ _ _,jb _ _ _ zM,by simp,he.1.symm,fun t=>((he.2 t).mono l1.ext).mono jb⟩
      have eN:dG b_ ai.n 0 ⟨w1.heap.size,1,1⟩ ai.n 0=some ⟨w1.heap.size,1,1⟩:=bX _ _ _ _;generalize NT:({w1 with heap:=w1.heap.push (.loop {state:=.ready,pending:=none,fn:=fn',tmps:=a.tmps,params:=ps,assign:=nB,body:=bd,defers:=ld.b})}:World)=w2 at i2 l2;generalize dG b_ ai.n 0 ⟨w1.heap.size,1,1⟩=od at i2 l2 eN jb;obtain⟨d,ej,dU⟩:=CZ (w:=w2) (((he.mono l1.ext).mono jb).eval g) (ax.cons (.zy ai.n _ eN) ax.nil) ij;rcases dU with⟨f',as,vs,gO,hinv,gR,_⟩|⟨_,_,gO,_⟩
      ·cases gO;refine⟨w1.heap.size,marks,w2,d,w2,f,vs.toArray,w2,by rw[C2,NT],?_,fun f' _=>hF.fn f',hinv,hF.depth,?_⟩
       ·simpa[resolve,rangeCall,Act.eval]using ej
       ·refine(hF.calls (hC.call N ro f args _ _ _ abH NR od vs w2 i2 gR)).mono fun ed w3 hR=>?_;cases ed with
        |panicked chain=>exact hR.elim
        |outgrown=>exact hR.elim
        |returned u=>
         obtain⟨ι3,_,i3,l3⟩:=hR;have FM:=l3.ext _ _ _ eN;obtain⟨ld3,ts3,f3',hd3,hh3,Sd,C3⟩:=qA i3 NN FM;obtain⟨i4,l4⟩:=Jw (ro:=ro) (lr:=.exhausted) (ED:=zd) (f':=f3') i3 e_ NN FM hd3 Sd;refine⟨zd,_,by simp only[Instr.endLoop,aqM,w_ hh3,aqJ,WH st cD,ara,if_false,eD (P:=P) hh3 (by simp),aqV];rfl,?_⟩;have l34:=Le.then i2 NR l3 l4;have l24:=Le.then i1 (by simp only[St.kK];omega) l2 l34;have NO:=Le.then hi (by omega) l1 l24;have e4:cZ ι3 e a.tmps:=he.mono NO.ext;have d4:jJ ι3 (mark++df) (marks++a.defers):=(NS.mono l24.ext).append (hd.mono NO.ext);split at h
         ·cases h;exact hQ _ _ _ [] i4 NO e4 d4 trivial
         ·rename_i c;exact(hS N ro rd fn c e _ _ cr h hN F ι3 {a with defers:=marks++a.defers} _ Q (hF.mono NO.ext) i4 e4 d4 (hQ.from hi NO (by simp only[St.mU];exact NR))).wp
      ·cases gO
    ·cases h
   ·cases h
  ·cases h
 ·cases h
theorem Se(hS:gU P S m)(hC:ek P S)(hm:bS S)(hk:bB S)(hD:NP P S):gU P (lj P S) (m+1):=by
 intro N ro rd fn c e df σ cr h hN F ι a w Q hF hi he hd hQ;change uX P S ro rd fn c e df σ=some cr at h;cases c<;>unfold uX at h<;>dsimp only at h
 case skip=>cases h;exact wpIn_skip (hQ a w ι [] hi (Le.refl _ _ _ _) he hd trivial)
 case label=>cases h;exact wpIn_label (hQ a w ι [] hi (Le.refl _ _ _ _) he hd trivial)
 case exit=>cases h;exact wpIn_exit (hQ a w ι [] hi (Le.refl _ _ _ _) he hd trivial)
 case goto=>cases h;exact wpIn_goto (hQ a w ι [] hi (Le.refl _ _ _ _) he hd trivial)
 case ret=>cases h;exact wpIn_ret (hQ a w ι [] hi (Le.refl _ _ _ _) he hd trivial)
 case refuse=>cases h
 case region id ops draw=>
  split at h
  ·rename_i HB;subst HB;exact hD N ro rd ops e df σ cr h hN F ι a w Q id hF hi he hd hQ
  ·rename_i HB;have:draw=false:=by simpa using HB
   subst this;refine wpIn_region ?_;have:=HF (k:=0) hS hC hm hk (by simp) h hN hF hi he hd hQ;rw[auW];simpa using this
 case seq x y=>
  refine wpIn_seq ?_;split at h
  ·rename_i e1 vI ai h1;have dD:ai.n≤N:=aq2 (hm _ _ _ _ _ _ _ _ h) hN;refine(hS N ro rd fn x e df σ _ h1 dD F ι a w _ hF hi he hd ?_).wp;intro a1 w1 b_ eO i1 l1 cV d1 p1;exact(hS N ro rd fn y _ _ _ _ h hN F b_ a1 w1 Q (hF.mono l1.ext) i1 cV d1 (hQ.from hi l1 dD)).wp
  ·rename_i bx;refine(hS N ro rd fn x e df σ _ h hN F ι a w _ hF hi he hd ?_).wp;intro a1 w1 b_ eO i1 l1 cV d1 p1;have:=hQ a1 w1 b_ eO i1 l1 cV d1 p1;cases hx:cr.ex with
   |normal=>exact absurd (by rw[h];cases cr;cases hx;rfl) (bx cr.e cr.df cr.σ)
   |exit id=>rw[hx]at this;exact this
   |goto l=>rw[hx]at this;exact this
   |ret=>rw[hx]at this;exact this
   |bU v=>rw[hx]at this;exact this
 case cond c x y=>
  split at h
  ·rename_i t ht;have hc:=Gr ht (he.eval c);exact wpIn_cond hc (hS N ro rd fn _ e df σ cr h hN F ι a w Q hF hi he hd hQ).wp
  ·cases h
 case block id x=>
  refine wpIn_block ?_;split at h
  ·rename_i br e1 vI ai h1
   have dD:ai.n≤N:=by
    split at h<;>(cases h;exact hN)
   refine(hS N ro rd fn x e df σ _ h1 dD F ι a w _ hF hi he hd ?_).wp;intro a1 w1 b_ eO i1 l1 cV d1 p1;simp only[Gq,Exit.inBlock];split at h
   ·rename_i hid;cases h;rw[if_pos hid];exact hQ a1 w1 b_ eO i1 l1 cV d1 p1
   ·rename_i hid;cases h;rw[if_neg hid];exact hQ a1 w1 b_ eO i1 l1 cV d1 p1
  ·rename_i bx;refine(hS N ro rd fn x e df σ _ h hN F ι a w _ hF hi he hd ?_).wp;intro a1 w1 b_ eO i1 l1 cV d1 p1;have:=hQ a1 w1 b_ eO i1 l1 cV d1 p1;cases hx:cr.ex with
   |exit br=>exact absurd (by rw[h];cases cr;cases hx;rfl) (bx br cr.e cr.df cr.σ)
   |normal=>rw[hx]at this;exact this
   |goto l=>rw[hx]at this;exact this
   |ret=>rw[hx]at this;exact this
   |bU v=>rw[hx]at this;exact this
 case loop x=>
  show avQ F 0 P x Q (m+1) a w;rw[roundsIn_succ];split at h
  ·rename_i e1 vI ai h1;have dD:ai.n≤N:=aq2 (hm _ _ _ _ _ _ _ _ h) hN;refine(hS N ro rd fn x e df σ _ h1 dD F ι a w _ hF hi he hd ?_).wp;intro a1 w1 b_ eO i1 l1 cV d1 p1;exact hS N ro rd fn (.loop x) _ _ _ _ h hN F b_ a1 w1 Q (hF.mono l1.ext) i1 cV d1 (hQ.from hi l1 dD)
  ·rename_i bx;refine(hS N ro rd fn x e df σ _ h hN F ι a w _ hF hi he hd ?_).wp;intro a1 w1 b_ eO i1 l1 cV d1 p1;have:=hQ a1 w1 b_ eO i1 l1 cV d1 p1;cases hx:cr.ex with
   |normal=>exact absurd (by rw[h];cases cr;cases hx;rfl) (bx cr.e cr.df cr.σ)
   |exit id=>rw[hx]at this;exact this
   |goto l=>rw[hx]at this;exact this
   |ret=>rw[hx]at this;exact this
   |bU v=>rw[hx]at this;exact this
 case scope x=>
  refine HD ?_;split at h
  ·cases h
  ·rename_i bx;refine(hS N ro rd fn x e df σ _ h hN F ι a w _ hF hi he hd ?_).wp;intro a1 w1 b_ eO i1 l1 cV d1 p1;have:=hQ a1 w1 b_ eO i1 l1 cV d1 p1;cases hx:cr.ex with
   |goto l=>exact absurd (by rw[h];cases cr;cases hx;rfl) (bx l cr.e cr.df cr.σ)
   |normal=>rw[hx]at this;exact this
   |exit id=>rw[hx]at this;exact this
   |ret=>rw[hx]at this;exact this
   |bU v=>rw[hx]at this;exact this
 case rangeFunc g params assign body=>
  exact ZX hS hC hm hk (by unfold uX;exact h) hN hF hi he hd hQ
end Go.Ev
namespace Go.Ev
variable{P:Program}{N ro m:Nat}{ι:Io}{w:World}{σ:St}{e:Env}{a:Act}{S:Self}{F:Fence}{rd:Option Nat}{Q:Exit→Act→World→Prop}
theorem Sf{m:Option IV}{u:FrameMode}(h:oq ι m u):u≠.run:=by
 cases m with
 |none=>rw[show u=_ from h];simp
 |some v=>obtain⟨x,rfl,_⟩:=h;simp
theorem ra(hC:ek P S)(hk:bB S){fn:Func}{ts:Array Value}{R:Ending→World→Prop}:∀{df:List Df} {ds:List Deferred} {σ ah:St} {m m':Option IV} {u:FrameMode} {ι:Io} {w:World},fP S ro df m σ=some (m',ah)→
 jJ ι df ds→oq ι m u→Inv N ι σ w→ah.n≤N→
 (∀w' aC u',Inv N aC ah w'→Le ro ι w σ aC w' ah→oq aC m' u'→LeavesIn arb 0 P fn ts R [] u' w')→LeavesInM arb 0 P fn ts R ds u w
 |[],[],σ,ah,m,m',u,ι,w,h,_,hu,hi,_,hQ=>by
  cases h;exact hQ w ι u hi (Le.refl _ _ _ _) hu
 |.CG id::df,d::ds,σ,ah,m,m',u,ι,w,h,hd,hu,hi,hn,hQ=>by
  unfold fP at h;obtain⟨⟨l,hl,rfl⟩,u9⟩:=hd;split at h
  ·rename_i aA;split at h
   ·rename_i cx;obtain⟨l',cd,hh⟩:=hi.obj id _ aA;rw[hl]at cd;cases cd;have aa:=hi.iw id _ ⟨0,l,hl,rfl⟩;obtain⟨i1,l1⟩:=hi.kg (ro:=ro) (go:=.deferred none) (eE:=.FE true) aA cx hl ⟨l,hl,heap_set aa⟩;have mc:=jR hk h;simp only[St.mU]at mc;refine⟨Sf hu,.inl ⟨l.b,_,rfl,?_,ra hC hk h u9 hu i1 hn fun w' aC u' i2 l2 x_=>hQ w' aC u' i2 (Le.then hi (by simp only[St.mU];omega) l1 l2) x_⟩⟩;simp only[Instr.takeDeferred,aqM,bP (P:=P) hh (by simp),aqJ,ara,if_false,eD (P:=P) hh (by simp),aqV]
   ·cases h
  ·cases h
 |.call f args::df,d::ds,σ,ah,m,m',u,ι,w,h,hd,hu,hi,hn,hQ=>by
  unfold fP at h;obtain⟨⟨cap,us,vs,rfl,gR,fw⟩,u9⟩:=hd;split at h
  ·rename_i m1 ai h1;have mc:=jR hk h;have hc:=hC.vF N ro f args m σ m1 ai h1 (by omega) ι vs u w hu hi gR;refine⟨Sf hu,.inr ⟨by simp[arb],.func f,cap.toArray,f,vs.toArray,rfl,?_,fun g _=>trivial,?_⟩⟩
   ·obtain⟨fn',bO,hb⟩:=hC.mb ro f args m σ m1 ai h1;simp only[invoke];rw[uw bO hb,fw];simp
   ·refine hc.mono fun e u' w' hR=>?_;cases e with
    |returned v=>
     obtain⟨b_,xh,i1,l1⟩:=hR;exact ra hC hk h (u9.mono l1.ext) xh i1 hn fun w2 od u2 i2 l2 qB=>hQ w2 od u2 i2 (Le.then hi (by omega) l1 l2) qB
    |panicked chain=>exact hR.elim
    |outgrown=>exact hR.elim
  ·cases h
 |[],_::_,_,_,_,_,_,_,_,_,h,_,_,_,_=>h.elim
 |.CG _::_,[],_,_,_,_,_,_,_,_,h,_,_,_,_=>h.elim
 |.call _ _::_,[],_,_,_,_,_,_,_,_,h,_,_,_,_=>h.elim
def zh(P:Program)(e:Env)(σ:St)(r:ResultVar):Option IV:=
 match r with
 |.tmp t=>some (e.at t)
 |.cell a t=>match e.at a with
  |.ptr id off ep ext=>match aH P t,σ.at id with
   |some s,some (.cells cs au mn)=>if s≤ext∧mn≤ep∧ep≤au then partOf P t cs off else none
   |_,_=>none
  |_=>none
def Jy(ts:Array Value)(r:ResultVar):Sem Value:=
 match r with
 |.tmp t=>pure (ts.getD t art)
 |.cell a t=>do loadVar t (←asAddr (ts.getD a art))
theorem aeI{ts:Array Value}{r:ResultVar}{v:IV}(h:zh P e σ r=some v)(hi:Inv N ι σ w)(he:cZ ι e ts):∃u,(Jy ts r).run P w=.ok u w∧Rv ι v u:=by
 unfold zh at h;unfold Jy;cases r with
 |tmp t=>cases h;exact⟨_,by simp only[aqV],he.2 t⟩
 |cell a t=>
  simp only at h⊢;have hr:=he.2 a;split at h
  ·rename_i id off ep ext hx;rw[hx]at hr;split at h
   ·rename_i s cs au mn hs aA;split at h
    ·rename_i hc;obtain⟨ad,x,hu,h1,h2⟩:=CJ hi hs aA hc.1 hc.2.1 hc.2.2 h hr;refine⟨x,?_,h2⟩;rw[hu];simp only[asAddr,aqM,aqV,aqJ,h1]
    ·cases h
   ·cases h
  ·cases h
theorem Sg{ts:Array Value}(hi:Inv N ι σ w)(he:cZ ι e ts):∀{rs:List ResultVar} {vs:List IV},rs.mapM (zh P e σ)=some vs→∃us,(rs.mapM (Jy ts)).run P w=.ok us w∧ax ι vs us
 |[],vs,h=>by
  simp only[auH]at h;cases h;exact⟨[],by simp only[auH,aqV],ax.nil⟩
 |r::rs,vs,h=>by
  rw[asG]at h;cases h1:zh P e σ r with
  |none=>rw[h1]at h;cases h
  |some v=>
   rw[h1]at h;cases h2:rs.mapM (zh P e σ)with
   |none=>rw[h2]at h;cases h
   |some vG=>
    rw[h2]at h;cases h;obtain⟨u,k1,k2⟩:=aeI h1 hi he;obtain⟨us,k3,k4⟩:=Sg hi he h2;exact⟨u::us,by simp only[asG,aqM,k1,aqJ,k3,aqV],ax.cons k2 k4⟩
theorem Uz(fn:Func)(ts:Array Value):results fn ts=(do
 let vs←fn.results.mapM (Jy ts)
 pure (if h:vs.size=1 then vs[0]else .tuple vs)):=by
 unfold results
 have:(fun r:ResultVar=>(match r with|.tmp t=>pure (ts.getD t art)|.cell a t=>do loadVar t (←asAddr (ts.getD a art)):Sem Value))=Jy ts:=by
  funext r;cases r<;>rfl
 rw[←this];rfl
theorem RB{fn:Func}{v:IV}(h:bE P fn e σ=some v):∃vs,fn.results.toList.mapM (zh P e σ)=some vs∧((∃x,vs=[x]∧v=x)∨(vs.length≠1∧v=.av vs)):=by
 unfold bE at h;dsimp only at h
 change(match fn.results.toList with
  |[r]=>zh P e σ r
  |l=>match l.mapM (zh P e σ)with
   |some vs=>some (.av vs)
   |none=>none)=some v at h
 split at h
 ·rename_i r hl;exact⟨[v],by rw[hl,asG,h];rfl,.inl ⟨v,rfl,rfl⟩⟩
 ·rename_i hl;split at h
  ·rename_i vs gR;cases h;refine⟨vs,gR,.inr ⟨fun hlen=>?_,rfl⟩⟩
   have qz:fn.results.toList.length=vs.length:=by
    clear hl hlen;generalize fn.results.toList=l at gR;induction l generalizing vs with
    |nil=>cases gR;rfl
    |cons r rs ih=>
     rw[asG]at gR;cases h1:zh P e σ r with
     |none=>rw[h1]at gR;cases gR
     |some v=>
      rw[h1]at gR;cases h2:rs.mapM (zh P e σ)with
      |none=>rw[h2]at gR;cases gR
      |some vG=>
       rw[h2]at gR;cases gR;simp[ih _ h2]
   cases hc:fn.results.toList with
   |nil=>rw[hc]at qz;simp at qz;omega
   |cons r rs=>
    cases rs with
    |nil=>exact hl r hc
    |cons r2 rs2=>rw[hc]at qz;simp at qz;omega
  ·cases h
theorem sx{fn:Func}{ts:Array Value}{v:IV}(h:bE P fn e σ=some v)(hi:Inv N ι σ w)(he:cZ ι e ts):∃u,(results fn ts).run P w=.ok u w∧Rv ι v u:=by
 obtain⟨vs,gR,h⟩:=RB h;obtain⟨us,h1,h2⟩:=Sg hi he gR
 have hm:(fn.results.mapM (Jy ts)).run P w=.ok us.toArray w:=by
  rw[Array.mapM_eq_mapM_toList,Sem.run_map,h1];rfl
 rw[Uz];simp only[aqM,hm,aqJ,aqV];refine⟨_,rfl,?_⟩;rcases h with⟨x,rfl,rfl⟩|⟨hlen,rfl⟩
 ·obtain⟨u,rfl,hu⟩:=tS h2;simpa using hu
 ·have:¬us.toArray.size=1:=by rw[List.size_toArray,←h2.1];exact hlen
  rw[dif_neg this];exact pG h2
theorem NU:∀{args:List IV} {us:List Value} {k:Nat} {e:Env} {ts:Array Value},cZ ι e ts→ax ι args us→
 cZ ι ((args.zipIdx k).foldl (fun e (v,i)=>e.put (some i) v) e) ((us.zipIdx k).foldl (fun ts (u,i)=>ts.setIfInBounds i u) ts)
 |[],us,k,e,ts,h,hr=>by rw[hr.of_nil];exact h
 |v::args,us,k,e,ts,h,hr=>by
  obtain⟨u,oM,rfl,h1,h2⟩:=hr.sb;simp only[auc,arh];exact NU (h.set h1 k) h2
theorem HG:∀(us:List Value) (k:Nat) (ts:Array Value),k+us.length≤ts.size→(us.zipIdx k).foldl (fun ts (u,i)=>ts.setIfInBounds i u) ts=(ts.toList.take k++us++ts.toList.drop (k+us.length)).toArray
 |[],k,ts,_=>by simp
 |u::us,k,ts,h=>by
  simp only[auc,arh];simp only[ary]at h;rw[HG us (k+1) _ (by simp;omega)]
  congr 1
  simp only[Array.toList_setIfInBounds,ary]
  have h1:(ts.toList.set k u).take (k+1)=ts.toList.take k++[u]:=by
   have hk:k<ts.toList.length:=by simp;omega
   rw[List.take_add_one,List.getElem?_set_self hk];simp[List.take_set_of_le]
  have h2:(ts.toList.set k u).drop (k+1+us.length)=ts.toList.drop (k+(us.length+1)):=by
   rw[List.drop_set_of_lt (by omega)]
   congr 1
   omega
  rw[h1,h2];simp
theorem adj(n:Nat):cZ ι ⟨n,.lf⟩ (arZ n art):=by
 refine⟨by simp,fun t=>?_⟩
 have:(arZ n art).getD t art=art:=by
  rw[Array.getD_eq_getD_getElem?,Array.getElem?_replicate];split<;>rfl
 rw[this];exact .raw _
theorem xi{args:List IV}{us:List Value}{n:Nat}(hr:ax ι args us)(hn:args.length≤n):
 cZ ι (args.zipIdx.foldl (fun e (v,i)=>e.put (some i) v) ⟨n,.lf⟩) (us.toArray++arZ (n- us.toArray.size) art):=by
 have h:=NU (k:=0) (adj (ι:=ι) n) hr;have hl:=hr.1;rw[HG us 0 _ (by simp;omega)]at h
 have:(us.toArray++arZ (n- us.toArray.size) art)=((arZ n art).toList.take 0++us++(arZ n art).toList.drop (0+us.length)).toArray:=by
  simp
 rw[this];exact h
theorem Sh(hS:gU P S m)(hC:ek P S)(hm:bS S)(hk:bB S){f:FuncId}{args:List IV}{WJ:Func}{e':Env}{mo:Option IV}{ah:St}{us:List Value}{R:Ending→World→Prop}
 (h:zC P S ro f args σ=some (WJ,e',mo,ah))(hN:ah.n≤N)(hi:Inv N ι σ w)(hr:ax ι args us)
 (hQ:∀ts w' aC u',Inv N aC ah w'→Le ro ι w σ aC w' ah→cZ aC e' ts→oq aC mo u'→LeavesIn arb 0 P WJ ts R [] u' w'):CallsIn arb 0 P f us.toArray w R:=by
 unfold zC at h;split at h
 ·rename_i fn bO;split at h
  ·rename_i c hb;split at h
   ·cases h
   ·rename_i hlen;simp only at h
    have key:∀{ex:Ex} {e1:Env} {df:List Df} {ai:St} {mi:Option IV},S.code ro none f c (args.zipIdx.foldl (fun e (v,i)=>e.put (some i) v) ⟨fn.ntmps,.lf⟩) [] σ=some ⟨ex,e1,df,ai⟩→
     (((ex=.normal∨ex=.ret)∧mi=none)∨∃v,ex=.bU v∧mi=some v)→
     (match fP S ro df mi ai with
      |some (m,σ)=>some (fn,e1,m,σ)
      |none=>none)=some (WJ,e',mo,ah)→CallsIn arb 0 P f us.toArray w R:=by
     intro ex e1 df ai mi h1 hex h;split at h
     ·rename_i m2 dc h2;obtain⟨rfl,rfl,rfl,rfl⟩:fn=WJ∧e1=e'∧m2=mo∧dc=ah:=by cases h;exact⟨rfl,rfl,rfl,rfl⟩
      clear h;have mc:=jR hk h2;have dD:ai.n≤N:=by omega
      refine callsIn_of_wp_marks bO hb trivial ?_;refine(hS N ro none f c _ [] σ _ h1 dD arb ι {tmps:=us.toArray++arZ (fn.ntmps- us.toArray.size) art,defers:=[]} w _ (.inl ⟨rfl,rfl⟩) hi (xi hr (by omega)) trivial ?_).wp;intro a1 w1 b_ eO i1 l1 cV d1 p1
      have:∀u,oq b_ mi u→LeavesInM arb 0 P fn a1.tmps R a1.defers u w1:=fun u hu=>
       ra hC hk h2 d1 hu i1 hN fun w2 od u2 i2 l2 qB=>hQ a1.tmps w2 od u2 i2 (Le.then hi dD l1 l2) (cV.mono l2.ext) qB
      rcases hex with⟨rfl|rfl,rfl⟩|⟨v,rfl,rfl⟩
      ·exact this _ rfl
      ·exact this _ rfl
      ·obtain⟨u,rfl,hu⟩:=p1;exact this _ ⟨u,rfl,hu⟩
     ·cases h
    split at h
    ·rename_i h1;exact key h1 (.inl ⟨.inl rfl,rfl⟩) h
    ·rename_i h1;exact key h1 (.inl ⟨.inr rfl,rfl⟩) h
    ·rename_i h1;exact key h1 (.inr ⟨_,rfl,rfl⟩) h
    ·cases h
  ·cases h
 ·cases h
def qP(ι:Io):Option IV→FrameMode→Prop
 |none,u=>u=.returning∨∃x,u=.panicking [{v:=x,recovered:=true}]
 |some v,u=>∃x,u=.panicking [{v:=x,recovered:=false}]∧Rv ι v x
theorem qP.of{m:Option IV}{u:FrameMode}(h:oq ι m u):qP ι m u:=by
 cases m with
 |none=>exact .inl h
 |some v=>exact h
theorem qP.mono{aC:Io}(gJ:Ext ι aC){m:Option IV}{u:FrameMode}(h:qP ι m u):qP aC m u:=by
 cases m with
 |none=>exact h
 |some v=>obtain⟨x,h1,h2⟩:=h;exact⟨x,h1,h2.mono gJ⟩
theorem qP.settle{m:Option IV}{u:FrameMode}(h:qP ι m u):oq ι m (Go.settle u):=by
 cases m with
 |none=>
  rcases h with rfl|⟨x,rfl⟩
  ·rfl
  ·rfl
 |some v=>obtain⟨x,rfl,h2⟩:=h;exact⟨x,rfl,h2⟩
def MS(N ro:Nat)(ι:Io)(w:World)(σ:St)(cr:CR)(m:Option IV)(c0:Frame)(pZ:List Frame)(Q:Exit→Act→List Frame→World→Prop):Prop:=
 ∀a' w' aC u' ch,Inv N aC cr.σ w'→Le ro ι w σ aC w' cr.σ→cZ aC cr.e a'.tmps→jJ aC cr.df a'.defers→Ux aC ch cr.ex→qP aC m u'→Q (Gq ch cr.ex) a' ({c0 with mode:=u'}::pZ) w'
theorem wF{ops:Array Oper}{Q:Exit→Act→List Frame→World→Prop}{c0:Frame}{pZ:List Frame}:∀{l:List Oper} {k:Nat} {e:Env} {σ:St} {e':Env} {mo nE:Option IV} {ah:St} {ι:Io} {a:Act} {u:FrameMode} {w:World},
 ops.toList.drop k=l→nA P ro ops l e mo σ=some (e',nE,ah)→ah.n≤N→Inv N ι σ w→cZ ι e a.tmps→a.defers=[]→qP ι mo u→MS N ro ι w σ ⟨.normal,e',[],ah⟩ nE c0 pZ Q→
 wpOpsSIn arb 0 P ops Q (as0 k l.length) a ({c0 with mode:=u}::pZ) w
 |[],k,e,σ,e',mo,nE,ah,ι,a,u,w,hl,h,hN,hi,he,hd,hu,hQ=>by
  cases h;exact hQ a w ι u [] hi (Le.refl _ _ _ _) he (by rw[hd];trivial) trivial hu
 |o::rest,k,e,σ,e',mo,nE,ah,ι,a,u,w,hl,h,hN,hi,he,hd,hu,hQ=>by
  have fY:ops.toList.drop (k+1)=rest:=by
   rw[←atm (i:=1) (j:=k),hl];rfl
  have bo:ops[k]?=some o:=by
   have:(ops.toList.drop k)[0]?=some o:=by rw[hl];rfl
   simpa using this
  simp only[ary,aul];unfold wpOpsSIn;rw[bo];simp only;refine⟨fun f _=>trivial,?_⟩;have Gs:∀v,(a.put o.dst v).defers=[]:=fun v=>by cases o.dst<;>exact hd
  unfold nA at h;rw[rJ he];split at h
  ·rename_i hw;rw[if_pos hw];split at h
   ·rename_i AH
    have hex:(execOp a.eval o).run P w=.ok .recover w:=by
     unfold mF at AH;split at AH
     ·rename_i fi;simp only[execOp,fi,resolve,aqM,aqV,aqJ,invoke,builtin]
     ·cases AH
    rw[hex];simp only;split at h
    ·rename_i v;obtain⟨x,rfl,hx⟩:=hu;simp only[recoverD];exact wF fY h hN hi (he.put hx _) (Gs _) (.inr ⟨x,rfl⟩) hQ
    ·have jP:recoverD ({c0 with mode:=u}::pZ)=none:=by
      rcases hu with rfl|⟨x,rfl⟩<;>rfl
     rw[jP];simp only;exact wF fY h hN hi (he.put (.raw _) _) (Gs _) hu hQ
   ·split at h
    ·rename_i v ai h1;have dD:ai.n≤N:=aq2 (rK h) hN;obtain⟨u1,w1,b_,hr,h2,h3,h4⟩:=oj hi he.eval h1 dD;have hQ':MS N ro b_ w1 ai ⟨.normal,e',[],ah⟩ nE c0 pZ Q:=fun a' w' aC u' ch g1 g2 g3 g4 g5 g6=>hQ a' w' aC u' ch g1 (Le.then hi dD h4 g2) g3 g4 g5 g6;rcases hr with hr|⟨hr,rfl⟩
     ·rw[hr];simp only;exact wF fY h hN h3 ((he.mono h4.ext).put h2 _) (Gs _) (hu.mono h4.ext) hQ'
     ·rw[hr];simp only;exact wF fY h hN h3 ((he.mono h4.ext).put h2 _) (Gs _) (hu.mono h4.ext) hQ'
    ·cases h
  ·rename_i hw;rw[if_neg hw];exact wF fY h hN hi (he.put q_ _) (Gs _) hu hQ
theorem amm(hS:gU P S m)(hm:bS S){fn:FuncId}{c0:Frame}{pZ:List Frame}:∀{c:Code} {Q:Exit→Act→List Frame→World→Prop} {e:Env} {mo nE:Option IV} {σ:St} {cr:CR} {ι:Io} {a:Act} {u:FrameMode} {w:World},
 xX P S ro fn c e mo σ=some (cr,nE)→cr.σ.n≤N→Inv N ι σ w→cZ ι e a.tmps→a.defers=[]→qP ι mo u→MS N ro ι w σ cr nE c0 pZ Q→c.wpSIn arb 0 P Q a ({c0 with mode:=u}::pZ) w:=by
 intro c
 have other:∀{c:Code} {Q:Exit→Act→List Frame→World→Prop} {e:Env} {mo nE:Option IV} {σ:St} {cr:CR} {ι:Io} {a:Act} {u:FrameMode} {w:World},(match S.code ro none fn c e [] σ with|some r=>some (r,mo)|none=>none)=some (cr,nE)→
  cr.σ.n≤N→Inv N ι σ w→cZ ι e a.tmps→a.defers=[]→qP ι mo u→MS N ro ι w σ cr nE c0 pZ Q→c.wpSIn arb 0 P Q a ({c0 with mode:=u}::pZ) w:=by
  intro c Q e mo nE σ cr ι a u w h hN hi he hd hu hQ;split at h
  ·rename_i h1;cases h;refine wpSIn_of_wpIn rfl ?_;refine(hS N ro none fn c e [] σ _ h1 hN arb ι a w _ (.inl ⟨rfl,rfl⟩) hi he (by rw[hd];trivial) ?_).wp;intro a1 w1 b_ eO i1 l1 e1 d1 p1;exact hQ a1 w1 b_ u eO i1 l1 e1 d1 p1 (hu.mono l1.ext)
  ·cases h
 induction c with
 |seq x y ihx ihy=>
  intro Q e mo nE σ cr ι a u w h hN hi he hd hu hQ;unfold xX at h;refine wpSIn_seq ?_;split at h
  ·rename_i e1 ai m1 h1;have dD:ai.n≤N:=aq2 (Gp hm h) hN;refine ihx h1 dD hi he hd hu ?_;intro a1 w1 b_ u1 eO i1 l1 cV d1 p1 xh;exact ihy h hN i1 cV d1.nil xh fun a' w' aC u' ch g1 g2 g3 g4 g5 g6=>hQ a' w' aC u' ch g1 (Le.then hi dD l1 g2) g3 g4 g5 g6
  ·cases h
  ·rename_i aqn amn;refine ihx h hN hi he hd hu ?_;intro a1 w1 b_ u1 eO i1 l1 cV d1 p1 xh;have:=hQ a1 w1 b_ u1 eO i1 l1 cV d1 p1 xh;cases hx:cr.ex with
   |normal=>exact absurd (by rw[h];cases cr;cases hx;rfl) (amn cr.e cr.df cr.σ nE)
   |exit id=>rw[hx]at this;exact this
   |goto l=>rw[hx]at this;exact this
   |ret=>rw[hx]at this;exact this
   |bU v=>rw[hx]at this;exact this
 |region id ops draw=>
  intro Q e mo nE σ cr ι a u w h hN hi he hd hu hQ;unfold xX at h;split at h
  ·rename_i hc
   have HB:draw=false:=by
    cases draw with
    |false=>rfl
    |true=>simp at hc
   subst HB;split at h
   ·rename_i h1;cases h;refine wpSIn_region ?_;have:=wF (k:=0) (by simp) h1 hN hi he hd hu hQ;rw[auW];simpa using this
   ·cases h
  ·exact other h hN hi he hd hu hQ
 |_=>
  intro Q e mo nE σ cr ι a u w h hN hi he hd hu hQ;unfold xX at h;exact other h hN hi he hd hu hQ
theorem aeJ(hS:gU P S m)(hm:bS S){f:FuncId}{args:List IV}{mo nE:Option IV}{ah:St}(h:Ay P S ro f args mo σ=some (nE,ah))(hN:ah.n≤N){us:List Value}{u:FrameMode}(hu:oq ι mo u)(hi:Inv N ι σ w)(hr:ax ι args us):
 CallsDIn arb 0 P f us.toArray u w (HE N ro ι w σ nE ah):=by
 unfold Ay at h;split at h
 ·rename_i fn bO;split at h
  ·cases h
  split at h
  ·rename_i c hb;split at h
   ·cases h
   ·rename_i hlen;simp only at h
    have key:∀{ex:Ex} {e1:Env} {ai:St} {m1:Option IV},xX P S ro f c (args.zipIdx.foldl (fun e (v,i)=>e.put (some i) v) ⟨fn.ntmps,.lf⟩) mo σ=some (⟨ex,e1,[],ai⟩,m1)→(ex=.normal∨ex=.ret)→
     (match bE P fn e1 ai with
      |some _=>some (m1,ai)
      |none=>none)=some (nE,ah)→CallsDIn arb 0 P f us.toArray u w (HE N ro ι w σ nE ah):=by
     intro ex e1 ai m1 h1 hex h;split at h
     ·rename_i v hv;cases h;refine callsDIn_of_wpSIn bO hb trivial fun c0 cs oN=>?_;have bH:c0={c0 with mode:=u}:=by rw[←oN]
      have:=amm hS hm (c0:=c0) (pZ:=cs) (Q:=bodyPostS P fn c0 cs (HE N ro ι w σ nE ah)) (a:={tmps:=us.toArray++arZ (fn.ntmps- us.toArray.size) art,defers:=[]}) h1 hN hi (xi hr (by omega)) rfl (qP.of hu) ?_
      ·rw[←bH]at this;exact this
      ·intro a1 w1 b_ u1 eO i1 l1 cV d1 p1 xh;obtain⟨x,k1,k2⟩:=sx hv i1 cV;have:bodyPostS P fn c0 cs (HE N ro ι w σ nE ah) .ret a1 ({c0 with mode:=u1}::cs) w1:=⟨d1.nil,u1,rfl,x,k1,b_,xh.settle,i1,l1⟩;rcases hex with rfl|rfl<;>exact this
     ·cases h
    split at h
    ·rename_i h1;exact key h1 (.inl rfl) h
    ·rename_i h1;exact key h1 (.inr rfl) h
    ·cases h
  ·cases h
 ·cases h
theorem Jz(hS:gU P S m)(hC:ek P S)(hm:bS S)(hk:bB S):ek P (lj P S) where
 call:=by
  intro N ro f args σ v ah h hN ι us w hi hr;simp only[lj,Nl]at h;split at h
  ·rename_i WJ e1 ai h1;split at h
   ·rename_i v' h2;cases h;refine Sh hS hC hm hk h1 hN hi hr fun ts w' aC u' i1 l1 cV hu=>?_;rw[show u'=_ from hu];obtain⟨u,k1,k2⟩:=sx h2 i1 cV;exact⟨u,k1,aC,k2,i1,l1⟩
   ·cases h
  ·cases h
 bU:=by
  intro N ro f args σ v ah h hN ι us w hi hr;simp only[lj,Uf]at h;split at h
  ·rename_i h1;cases h;refine Sh hS hC hm hk h1 hN hi hr fun ts w' aC u' i1 l1 cV hu=>?_;obtain⟨x,rfl,hx⟩:=hu;exact⟨aC,⟨x,rfl,hx⟩,i1,l1⟩
  ·cases h
 vF:=by
  intro N ro f args mo σ nE ah h hN ι us u w hu hi hr;exact aeJ hS hm h hN hu hi hr
 mb:=by
  intro ro f args mo σ nE ah h;simp only[lj,Ay]at h;split at h
  ·rename_i fn bO;split at h
   ·cases h
   ·rename_i C4;exact⟨fn,bO,by simpa only[aru,Bool.not_eq_false]using C4⟩
  ·cases h
theorem abI(hD:∀m S,gU P S m→ek P S→bS S→bB S→NP P S):∀n,gU P (ev P n) n∧ek P (ev P n)∧bS (ev P n)∧bB (ev P n)
 |0=>by
  refine⟨?_,⟨?_,?_,?_,?_⟩,?_,⟨?_,?_,?_⟩⟩
  ·intro N ro rd fn c e df σ cr h;cases h
  ·intro N ro f args σ v ah h;cases h
  ·intro N ro f args σ v ah h;cases h
  ·intro N ro f args m σ m' ah h;cases h
  ·intro ro f args m σ m' ah h;cases h
  ·intro ro rd fn c e df σ cr h;cases h
  ·intro ro f args σ v ah h;cases h
  ·intro ro f args σ v ah h;cases h
  ·intro ro f args m σ m' ah h;cases h
 |n+1=>by
  obtain⟨h1,h2,h3,h4⟩:=abI hD n;exact⟨Se h1 h2 h3 h4 (hD n _ h1 h2 h3 h4),Jz h1 h2 h3 h4,KR h3 h4,C1 h3 h4⟩
end Go.Ev
namespace Go.Ev
variable{P:Program}{N ro m:Nat}{ι:Io}{w:World}{σ:St}{e:Env}{a:Act}{S:Self}{F:Fence}{rd:Option Nat}{Q:Exit→Act→World→Prop}
theorem pH{ρ zN:Operand→IV}{o:Oper}(h:∀x∈o.op.operands,ρ x=zN x):ak P ro ρ o σ=ak P ro zN o σ:=by
 obtain⟨dst,op,type,pos,after,guard⟩:=o
 have abJ:∀ps:Array (Nat×Operand),(∀x∈(ps.toList.map (·.2)),ρ x=zN x)→(ps.toList.map fun(i,x)=>(i,ρ x))=(ps.toList.map fun(i,x)=>(i,zN x)):=fun ps hp=>
  asJ fun p hm=>by
   obtain⟨i,x⟩:=p;simp only[hp x (List.mem_map.2 ⟨(i,x),hm,rfl⟩)]
 cases op<;>simp only[Op.operands]at h<;>unfold ak<;>dsimp only
 case move x=>rw[h x (by simp)]
 case assign x=>rw[h x (by simp)]
 case pick c x y=>rw[h c (by simp),h x (by simp),h y (by simp)]
 case box t x=>rw[h x (by simp)]
 case build t ps=>rw[abJ ps fun x hx=>h x (by simpa using hx)]
 case buildSlice t n ps=>rw[abJ ps fun x hx=>h x (by simpa using hx)]
 case load t x=>rw[h x (by simp)]
 case store t x y=>rw[h x (by simp),h y (by simp)]
 case nilCheck x=>rw[h x (by simp)]
 case binOp op t x y yT=>rw[h x (by simp),h y (by simp)]
 case unOp op t x=>rw[h x (by simp)]
 case convert s d x=>rw[h x (by simp)]
 case makeInterface t x=>rw[h x (by simp)]
 case makeFunc fn first captured=>
  rw[asJ (l:=first.toList) fun x hx=>h x (by simp at hx;simp[hx]),asJ (l:=captured.toList) fun x hx=>h x (by simp at hx;simp[hx])]
 case makeMap t r=>cases r with|none=>rfl|some x=>dsimp only;rw[h x (by simp)]
 case makeSlice t x y=>rw[h x (by simp),h y (by simp)]
 case slice t x lo hi mx=>
  have e1:lo.map ρ=lo.map zN:=by cases lo with|none=>rfl|some y=>simp only[aq9,h y (by simp)]
  have e2:hi.map ρ=hi.map zN:=by cases hi with|none=>rfl|some y=>simp only[aq9,h y (by simp)]
  have e3:mx.map ρ=mx.map zN:=by cases mx with|none=>rfl|some y=>simp only[aq9,h y (by simp)]
  rw[h x (by simp),e1,e2,e3]
 case fieldAddr t x f=>rw[h x (by simp)]
 case field t x f=>rw[h x (by simp)]
 case indexAddr t x y=>rw[h x (by simp),h y (by simp)]
 case index t x y=>rw[h x (by simp),h y (by simp)]
 case lookup t x y ok=>rw[h x (by simp),h y (by simp)]
 case mapUpdate t x y z=>rw[h x (by simp),h y (by simp),h z (by simp)]
 case insert t x y z=>rw[h x (by simp),h y (by simp),h z (by simp)]
 case mapEntry t x y=>rw[h x (by simp),h y (by simp)]
 case entryStore t x y z=>rw[h x (by simp),h y (by simp),h z (by simp)]
 case range t x=>rw[h x (by simp)]
 case next x s=>rw[h x (by simp)]
 case entry x=>rw[h x (by simp)]
 case extract x i=>rw[h x (by simp)]
 case typeAssert x xt t ok=>rw[h x (by simp)]
 case panic x=>rw[h x (by simp)]
 case call c=>
  have ha:c.args.toList.map ρ=c.args.toList.map zN:=asJ fun x hx=>h x (by simp[att];right;simpa using hx);rw[ha];cases hc:c.callee with
  |value f=>dsimp only;rw[h f (by simp[att,hc])]
  |invoke r m=>dsimp only;rw[h r (by simp[att,hc])]
  |builtin b=>rfl
 case defer c=>
  have ha:c.args.toList.map ρ=c.args.toList.map zN:=asJ fun x hx=>h x (by simp[att];right;simpa using hx);rw[ha];cases hc:c.callee with
  |value f=>dsimp only;rw[h f (by simp[att,hc])]
  |invoke r m=>rfl
  |builtin b=>rfl
structure Gn(Fr:Nat→Prop)(ι:Io)(cur:Nat→Option Ob)(w:World):Prop where
 mem:∀b c,ι.m b=some c→∃e f,w.heap[b]?=some (.cells c e f)
 sep:∀b c id,ι.m b=some c→¬Own ι id b
 iw:∀id b,Own ι id b→b<w.heap.size
 inj:∀i j b,Own ι i b→Own ι j b→i=j
 fresh:∀id,Fr id→∀e,ι id e=none
 obj:∀id o,cur id=some o→ki ι w id o
theorem Gn.inv{Fr:Nat→Prop}{cur:Nat→Option Ob}(h:Gn Fr ι cur w)(sub:∀id o,σ.at id=some o→cur id=some o)(fr:∀id,σ.n≤id→id<N→Fr id)(wf:∀id,σ.n≤id→σ.at id=none):Inv N ι σ w:=
 ⟨h.mem,h.sep,h.iw,fun id h1 h2=>h.fresh id (fr id h1 h2),h.inj,fun id o ho=>h.obj id o (sub id o ho),wf⟩
theorem UA{id:Nat}{o:Ob}(h:ki ι w id o):∃e l,ι id e=some l:=by
 cases o with
 |cells cs ep mn=>obtain⟨_,⟨l,hl,_⟩,_⟩:=h;exact⟨_,l,hl⟩
 |map es c=>obtain⟨l,_,hl,_⟩:=h;exact⟨_,l,hl⟩
 |pD s p=>obtain⟨l,hl,_⟩:=h;exact⟨_,l,hl⟩
 |jm a b c d=>obtain⟨l,_,hl,_⟩:=h;exact⟨_,l,hl⟩
 |loop a b c d e f g h' i=>obtain⟨l,_,_,_,hl,_⟩:=h;exact⟨_,l,hl⟩
 |FE t=>obtain⟨l,hl,_⟩:=h;exact⟨_,l,hl⟩
def yh(cur:Nat→Option Ob)(σ ah:St)(id:Nat):Option Ob:=if(σ.at id).isSome∨(σ.n≤id∧id<ah.n)then ah.at id else cur id
structure yj(ro nk:Nat)(gn:Io)(w0:World)(eb:St)(Fr:Nat→Prop)(ι:Io)(cur:Nat→Option Ob)(w:World):Prop extends Gn Fr ι cur w where
 ext:Ext gn ι
 wR:∀b c,ι.m b=some c→gn.m b=some c∨w0.heap.size≤b
 own:∀id b,Own ι id b→Own gn id b∨w0.heap.size≤b
 zD:∀id,eb.at id=none→(id<eb.n∨nk≤id)→∀e,ι id e=gn id e
 dead:∀id,eb.at id=none→(id<eb.n∨nk≤id)→cur id=none
 vp:∀id,id<ro→id<eb.n→cur id=eb.at id
 os:w.os=w0.os
 tape:w.tape=w0.tape
 output:w.output=w0.output
 size:w0.heap.size≤w.heap.size
 frame:∀b,b<w0.heap.size→(∀id,Own gn id b→id<ro∨eb.at id=none)→w.heap[b]?=w0.heap[b]?
theorem yj.start{nk:Nat}(h:Inv N ι σ w)(hnk:nk≤N):yj ro nk ι w σ (fun id=>σ.n≤id∧id<N) ι σ.at w:=
 {mem:=h.mem,sep:=h.sep,iw:=h.iw,inj:=h.inj,fresh:=fun id hid=>h.fresh id hid.1 hid.2,obj:=h.obj,ext:=Ext.refl _,wR:=fun _ _ h=>.inl h,own:=fun _ _ h=>.inl h,
  zD:=fun _ _ _ _=>rfl,dead:=fun _ h _=>h,vp:=fun _ _ _=>rfl,os:=rfl,tape:=rfl,output:=rfl,size:=aqK _,frame:=fun _ _ _=>rfl}
theorem yj.step{nk N' fL:Nat}{gn aC:Io}{w0 w':World}{eb ah:St}{Fr:Nat→Prop}{cur:Nat→Option Ob}(h:yj ro nk gn w0 eb Fr ι cur w)(NV:∀id,eb.n≤id→id<nk→∀e,gn id e=none)
 (sub:∀id o,σ.at id=some o→cur id=some o)(sy:∀id,σ.n≤id→id<ah.n→eb.n≤id∧id<nk)(cx:∀id,id<ro→(σ.at id).isSome=true→id<fL)(wf:∀id,σ.n≤id→σ.at id=none)
 (hi:Inv N' aC ah w')(hl:Le fL ι w σ aC w' ah):yj ro nk gn w0 eb (fun id=>Fr id∧¬(σ.n≤id∧id<ah.n)) aC (yh cur σ ah) w':=by
 have Si:∀id,cur id=none→σ.at id=none:=fun id hc=>by
  cases hs:σ.at id with
  |none=>rfl
  |some o=>rw[sub id o hs]at hc;cases hc
 have out:∀id,¬(σ.n≤id∧id<ah.n)→id<σ.n∨ah.n≤id:=fun id hn=>by omega
 have C5:∀id,(id<eb.n∨nk≤id)→¬(σ.n≤id∧id<ah.n):=fun id hh hn=>by have:=sy id hn.1 hn.2;omega
 exact{
  mem:=hi.mem,sep:=hi.sep,iw:=hi.iw,inj:=hi.inj
  fresh:=fun id hid e=>by
   have hn:σ.at id=none:=by
    cases hs:σ.at id with
    |none=>rfl
    |some o=>
     obtain⟨e',l,cd⟩:=UA (h.obj id o (sub id o hs));rw[h.fresh id hid.1 e']at cd;cases cd
   rw[hl.zD id hn (out id hid.2) e,h.fresh id hid.1 e]
  obj:=fun id o ho=>by
   unfold yh at ho;split at ho
   ·exact hi.obj id o ho
   ·rename_i hc
    have hn:σ.at id=none:=by
     cases hs:σ.at id with
     |none=>rfl
     |some o=>exact absurd (.inl (by rw[hs];rfl)) hc
    have hr:¬(σ.n≤id∧id<ah.n):=fun hx=>hc (.inr hx);refine(h.obj id o ho).keep hl.ext (fun e=>hl.zD id hn (out id hr) e) fun b hb=>?_;refine hl.frame b (h.iw id b hb) fun br iH=>.inr ?_;rw[h.inj br id b iH hb];exact hn
  ext:=h.ext.trans hl.ext
  wR:=fun b c hb=>(hl.wR b c hb).elim (fun hb=>h.wR b c hb) (fun hb=>.inr (aq2 h.size hb))
  own:=fun id b hb=>(hl.own id b hb).elim (fun hb=>h.own id b hb) (fun hb=>.inr (aq2 h.size hb))
  zD:=fun id hn hr e=>(hl.zD id (Si id (h.dead id hn hr)) (out id (C5 id hr)) e).trans (h.zD id hn hr e)
  dead:=fun id hn hr=>by
   unfold yh;rw[if_neg]
   ·exact h.dead id hn hr
   ·rw[Si id (h.dead id hn hr)];intro hx;rcases hx with hx|hx
    ·cases hx
    ·exact C5 id hr hx
  vp:=fun id hr hn=>by
   unfold yh;split
   ·rename_i hc;have hs:(σ.at id).isSome:=hc.resolve_right (C5 id (.inl hn));obtain⟨o,ho⟩:=Option.isSome_iff_exists.1 hs;have aa:id<σ.n:=atE fun hle=>by rw[wf id hle]at ho;cases ho
    rw[hl.vp id (cx id hr hs) aa,ho,←sub id o ho];exact h.vp id hr hn
   ·exact h.vp id hr hn
  os:=hl.os.trans h.os
  tape:=hl.tape.trans h.tape
  output:=hl.output.trans h.output
  size:=aq2 h.size hl.size
  frame:=fun b hb hc=>by
   rw[hl.frame b (Nat.lt_of_lt_of_le hb h.size) ?_,h.frame b hb hc];intro id hid;cases hs:σ.at id with
   |none=>exact .inr rfl
   |some o=>
    have aa:id<σ.n:=atE fun hle=>by rw[wf id hle]at hs;cases hs
    rcases h.own id b hid with ho|ho
    ·rcases hc id ho with hr|hd
     ·exact .inl (cx id hr (by rw[hs];rfl))
     ·right
      have hr:id<eb.n∨nk≤id:=by
       by_cases h1:id<eb.n
       ·exact .inl h1
       ·by_cases h2:id<nk
        ·obtain⟨e,l,cd,_⟩:=ho;rw[NV id (by omega) h2 e]at cd;cases cd
        ·exact .inr (by omega)
      have:=sub id o hs;rw[h.dead id hd hr]at this;cases this
    ·omega}
theorem yj.fr{nk:Nat}{gn:Io}{w0:World}{eb:St}{Fr Fr':Nat→Prop}{cur:Nat→Option Ob}(h:yj ro nk gn w0 eb Fr ι cur w)(hf:∀id,Fr' id→Fr id):yj ro nk gn w0 eb Fr' ι cur w:=
 {h with fresh:=fun id hid=>h.fresh id (hf id hid)}
theorem yj.fin{nk:Nat}{gn:Io}{w0:World}{eb:St}{Fr:Nat→Prop}{cur:Nat→Option Ob}{t:T Ob}(h:yj ro nk gn w0 eb Fr ι cur w)(hn:eb.n≤nk)(tI:∀id,nk≤id→id<N→Fr id)
 (sub:∀id o,t.get id=some o→cur id=some o)(wf:∀id,nk≤id→t.get id=none)(hp:∀id,id<ro→id<eb.n→t.get id=eb.at id):
 Inv N ι ⟨nk,t⟩ w∧Le ro gn w0 eb ι w ⟨nk,t⟩:=by
 refine⟨h.toGn.inv sub tI wf,h.ext,h.own,h.zD,fun id hn hr=>?_,hp,hn,h.os,h.tape,h.output,h.size,h.frame,h.wR⟩;have:=h.dead id hn hr;cases hs:t.get id with
 |none=>exact hs
 |some o=>rw[sub id o hs]at this;cases this
end Go.Ev
namespace Go.Ev
variable{P:Program}{S:Self}{ro:Nat}{ops:Array Oper}{pl:dM}[Sm]
def iW(ops:Array Oper)(i:Nat):Option Tmp:=(ops[i]?).bind (·.dst)
def zi(ops:Array Oper)(i:Nat):List Nat:=(ops.toList.map (tP ops)).getD i []
def aV(pl:dM)(i:Nat):Kind:=pl.kinds.getD i .effect
def iX(pl:dM)(j i:Nat):Prop:=aq0 (pl.bW.getD j 0) i=true
structure oP(ops:Array Oper)(pl:dM):Prop where
 back:∀(j:Nat) (o:Oper),ops[j]?=some o→∀e∈o.after.toList,ast .any e=true→e.on<j
 ZY:∀j,j<ops.size→aV pl j=.load→∀t,iW ops j=some t→t∉zi ops j
 single:∀i j,i<j→j<ops.size→∀t,iW ops i=some t→iW ops j≠some t
 WK:∀i j,i<j→j<ops.size→aV pl i=.load→∀t,iW ops j=some t→t∉zi ops i
 free:∀i j,i<j→j<ops.size→¬iX pl j i→(∀t,iW ops i=some t→t∉zi ops j)∧(∀t,iW ops j=some t→t∉zi ops i)∧abG (aV pl i) (aV pl j)=false
 bits:∀(j:Nat) (o:Oper),ops[j]?=some o→∀i,iX pl j i→∃e∈o.after.toList,ast .any e=true∧(e.on=i∨iX pl e.on i)
theorem sA{o:Oper}{l:List Nat}(h:writes o l=false):∀t,o.dst=some t→t∉l:=by
 intro t ht hm;unfold writes at h;rw[ht]at h;simp[hm]at h
theorem KX{f:Edge→Nat}{c:Edge→Bool}{i:Nat}:∀(l:List Edge) (s:Nat),aq0 (l.foldl (fun s e=>if c e then auD s (f e)else s) s) i=true→
 aq0 s i=true∨∃e∈l,c e=true∧aq0 (f e) i=true
 |[],s,h=>.inl h
 |e::l,s,h=>by
  simp only[arh]at h;rcases KX l _ h with h|⟨e',gO,h1,h2⟩
  ·split at h
   ·rename_i hc;have:aq0 (s|||f e) i=true:=h;rw[avR,arl]at this;rcases this with h|h
    ·exact .inl h
    ·exact .inr ⟨e,by simp,hc,h⟩
   ·exact .inl h
  ·exact .inr ⟨e',by simp[gO],h1,h2⟩
theorem WL{a i:Nat}(h:aq0 (atQ 1 a) i=true):a=i:=by
 have h':aq0 (1<<<a) i=true:=h;rw[Nat.testBit_shiftLeft]at h';simp only[aqG,decide_eq_true_eq]at h';have h2:=h'.2
 have:i- a=0:=by
  cases hk:i- a with
  |zero=>rfl
  |succ n=>rw[hk]at h2;simp[Nat.testBit_succ]at h2
 omega
theorem NW:∀(l:List Oper) (acc:List Nat),∃rest,l.foldl EA acc=acc++rest∧rest.length=l.length∧
 ∀(q:Nat) (o:Oper),l[q]?=some o→∀i,aq0 ((acc++rest).getD (acc.length+q) 0) i=true→
  ∃e∈o.after.toList,ast .any e=true∧(e.on=i∨aq0 ((acc++rest).getD e.on 0) i=true)
 |[],acc=>⟨[],by simp,rfl,fun q o h=>by simp at h⟩
 |o::l,acc=>by
  obtain⟨rest,h1,h2,h3⟩:=NW l (EA acc o);obtain⟨x,hx⟩:∃x,EA acc o=acc++[x]:=⟨_,rfl⟩
  have p5:x=o.after.toList.foldl (fun s e=>if ast .any e then auD s (auD (atQ 1 e.on) (acc.getD e.on 0))else s) 0:=by
   have:acc++[x]=acc++[o.after.toList.foldl (fun s e=>if ast .any e then auD s (auD (atQ 1 e.on) (acc.getD e.on 0))else s) 0]:=hx▸rfl;simpa using this
  rw[hx]at h1 h3;refine⟨x::rest,by rw[arh,hx,h1];simp,by simp[h2],fun q o' hq i hi=>?_⟩;have AI:acc++x::rest=acc++[x]++rest:=by simp
  cases q with
  |zero=>
   simp only[List.getElem?_cons_zero,aqH]at hq;subst hq;have hg:(acc++x::rest).getD (acc.length+0) 0=x:=by simp
   rw[hg,p5]at hi;rcases KX _ _ hi with hi|⟨e,he,hb,hi⟩
   ·simp at hi
   ·refine⟨e,he,hb,?_⟩;have cT:aq0 (atQ 1 e.on|||acc.getD e.on 0) i=true:=hi;rw[avR,arl]at cT;rcases cT with hi|hi
    ·exact .inl (WL hi)
    ·right;by_cases hl:e.on<acc.length
     ·have:(acc++x::rest).getD e.on 0=acc.getD e.on 0:=by
       rw[asE,asE,List.getElem?_append_left hl]
      rw[this];exact hi
     ·rw[asE,List.getElem?_eq_none (by omega)]at hi;simp at hi
  |succ q=>
   simp only[List.getElem?_cons_succ]at hq;rw[AI]at hi⊢
   have:=h3 q o' hq i (by
    have e1:(acc++[x]).length+q=acc.length+(q+1):=by simp;omega
    rw[e1];exact hi)
   exact this
theorem adk{ops:Array Oper}{j:Nat}{o:Oper}(ho:ops[j]?=some o){i:Nat}(h:aq0 ((Nh ops).getD j 0) i=true):
 ∃e∈o.after.toList,ast .any e=true∧(e.on=i∨aq0 ((Nh ops).getD e.on 0) i=true):=by
 obtain⟨rest,h1,_,h3⟩:=NW ops.toList [];have hb:Nh ops=rest:=by unfold Nh;rw[h1];simp
 rw[hb]at h⊢;have:=h3 j o (by simpa using ho) i (by simpa using h);simpa using this
theorem aeK(h:(dq ops).ok=true):oP ops (dq ops):=by
 have bp:∀(j:Nat) (o:Oper),ops[j]?=some o→(o.after.toList.all fun e=> !ast .any e||Nat.blt e.on j)=true∧(!(aV (dq ops) j==.load)|| !writes o (zi ops j))=true∧
  ∀(i:Nat) (p:Oper),ops[i]?=some p→i<j→zB (dq ops).bW (dq ops).kinds (ops.toList.map (tP ops)) p i o j=true:=by
  intro j o ho;have hm:(o,j)∈ops.toList.zipIdx:=arM.2 (by simpa using ho);unfold dq at h;dsimp only at h;rw[aqW]at h;have:=h (o,j) hm;simp only[aqG]at this;obtain⟨⟨h1,h2⟩,h3⟩:=this;refine⟨h1,h2,fun i p hp mI=>?_⟩;rw[aqW]at h3;have hm':(p,i)∈ops.toList.zipIdx:=arM.2 (by simpa using hp);have:=h3 (p,i) hm';have aa:Nat.blt i j=true:=by simpa using mI
  simp only[aa,atA,asR]at this;exact this
 have fi:∀{j:Nat},j<ops.size→∃o,ops[j]?=some o:=fun hj=>⟨ops[_],aq7 hj⟩;have fS:∀{j:Nat} {o:Oper},ops[j]?=some o→iW ops j=o.dst:=fun ho=>by unfold iW;rw[ho];rfl
 have pair:∀i j,i<j→j<ops.size→∃p o,ops[i]?=some p∧ops[j]?=some o∧zB (dq ops).bW (dq ops).kinds (ops.toList.map (tP ops)) p i o j=true:=fun i j mI hj=>by
  obtain⟨o,ho⟩:=fi hj;obtain⟨p,hp⟩:=fi (show i<ops.size by omega);exact⟨p,o,hp,ho,(bp j o ho).2.2 i p hp mI⟩
 refine⟨fun j o ho e he hb=>?_,fun j hj hk t ht=>?_,fun i j mI hj t hi hjt=>?_,fun i j mI hj hk t ht=>?_,fun i j mI hj KY=>?_,fun j o ho i hb=>adk ho hb⟩
 ·have:=(aqW.1 (bp j o ho).1) e he;rw[hb]at this;simpa using this
 ·obtain⟨o,ho⟩:=fi hj;have:=(bp j o ho).2.1;rw[hk]at this;simp only[beq_self_eq_true,atA,asR,aru]at this;rw[fS ho]at ht;exact sA this t ht
 ·obtain⟨p,o,hp,ho,C6⟩:=pair i j mI hj;rw[fS hp]at hi;rw[fS ho]at hjt;unfold zB at C6;rw[hi,hjt]at C6;simp at C6
 ·obtain⟨p,o,hp,ho,C6⟩:=pair i j mI hj;unfold zB at C6;simp only[aqG]at C6;have h2:=C6.1.2;have cy:(dq ops).kinds.getD i .effect=.load:=hk;rw[cy]at h2;simp only[beq_self_eq_true,atA,asR,aru]at h2;rw[fS ho]at ht;exact sA h2 t ht
 ·obtain⟨p,o,hp,ho,C6⟩:=pair i j mI hj;unfold zB at C6;simp only[aqG]at C6;have h3:=C6.2
  have hb:aq0 ((dq ops).bW.getD j 0) i=false:=by
   cases hc:aq0 ((dq ops).bW.getD j 0) i with
   |false=>rfl
   |true=>exact absurd hc KY
  rw[hb]at h3;simp only[asR,aqG,aru]at h3;refine⟨fun t ht=>?_,fun t ht=>?_,h3.2⟩
  ·rw[fS hp]at ht;exact sA h3.1.1 t ht
  ·rw[fS ho]at ht;exact sA h3.1.2 t ht
end Go.Ev
namespace Go.Ev
variable{P:Program}{S:Nat→Self}{ro:Nat}{ops:Array Oper}{pl:dM}[Sm]
theorem jY(b:T Ob)(p:Piece)(id:Nat):(di b p).get id=if p.lo≤id∧id<p.hi then(p.t.get id).or (b.get id)else b.get id:=by
 have aux:∀(l:List Nat) (b:T Ob),(l.foldl (fun b id=>match p.t.get id with|some o=>b.set id o|none=>b) b).get id=if id∈l then(p.t.get id).or (b.get id)else b.get id:=by
  intro l;induction l with
  |nil=>intro b;simp
  |cons x l ih=>
   intro b;rw[arh,ih];by_cases hx:x=id
   ·subst hx;cases hp:p.t.get x with
    |none=>simp
    |some o=>simp[T.fQ]
   ·have hb:(match p.t.get x with|some o=>b.set x o|none=>b).get id=b.get id:=by
     cases p.t.get x with
     |none=>rfl
     |some o=>simp[T.fQ,hx]
    rw[hb];have:id∈x::l↔id∈l:=by simp[Ne.symm hx]
    simp only[this]
 refine(aux (as0 p.lo (p.hi- p.lo)) b).trans ?_
 have:id∈as0 p.lo (p.hi- p.lo)↔p.lo≤id∧id<p.hi:=by
  rw[List.mem_range'_1];omega
 simp only[this]
theorem AJ:∀(l:List Piece) (b:T Ob) (id:Nat) (o:Ob),(l.foldl di b).get id=some o→(∃p∈l,p.lo≤id∧id<p.hi∧p.t.get id=some o)∨b.get id=some o
 |[],b,id,o,h=>.inr h
 |p::l,b,id,o,h=>by
  rw[arh]at h;rcases AJ l _ id o h with⟨q,hq,h1⟩|h
  ·exact .inl ⟨q,by simp[hq],h1⟩
  ·rw[jY]at h;split at h
   ·rename_i hc;cases hp:p.t.get id with
    |none=>rw[hp]at h;exact .inr h
    |some x=>rw[hp]at h;exact .inl ⟨p,by simp,hc.1,hc.2,by rw[hp];exact h⟩
   ·exact .inr h
theorem Gt:∀(l:List Piece) (b:T Ob) (id:Nat),(∀p∈l,id<p.lo)→(l.foldl di b).get id=b.get id
 |[],b,id,_=>rfl
 |p::l,b,id,h=>by
  rw[arh,Gt l _ id (fun q hq=>h q (by simp[hq])),jY,if_neg];have:=h p (by simp);omega
theorem Gu{aD:List Piece}{bits:Nat}{b:T Ob}{id:Nat}{o:Ob}(h:(seen aD bits b).get id=some o):
 (∃p∈aD,aq0 bits p.j=true∧p.lo≤id∧id<p.hi∧p.t.get id=some o)∨b.get id=some o:=by
 rcases AJ _ _ _ _ h with⟨p,hp,h1⟩|h
 ·rw[arN]at hp;exact .inl ⟨p,hp.1,by simpa using hp.2,h1⟩
 ·exact .inr h
theorem ZZ{aD:List Piece}{bits:Nat}{b:T Ob}{id:Nat}(h:∀p∈aD,id<p.lo):(seen aD bits b).get id=b.get id:=
 Gt _ _ _ fun p hp=>h p (arN.1 hp).1
inductive Stp(P:Program)(S:Self)(pl:dM)(ro:Nat)(ops:Array Oper)(o:Oper)(j:Nat)(d d':DS)(v:IV):Prop
 |skip (h:aJ o ops d.e=false) (hv:v=.undef) (hn:d'.n=d.n) (hp:d'.aD=d.aD) (hk:aV pl j≠.effect) (hb:d'.bs=d.bs)
 |EF (h:aJ o ops d.e=false) (hv:v=.undef) (hn:d'.n=d.n) (hp:d'.aD=d.aD) (hk:aV pl j=.effect) (i0:Nat) (b:T Ob) (rest:List (Nat×T Ob)) (gb:d.bs=(i0,b)::rest)
   (hb:d'.bs=(j,b)::d.bs) (hr:recheck P pl ops (pl.bW.getD j 0) d.e d.n d.aD b (ops.toList.zipIdx.take j)=true)
 |pure (h:aJ o ops d.e=true) (hk:aV pl j=.pure) (hn:d'.n=d.n) (hp:d'.aD=d.aD) (hb:d'.bs=d.bs) (σ:St) (he:ak P 0 (aq d.e) o ⟨0,.lf⟩=some (.val v σ)) (h0:σ.n=0)
 |alloc (h:aJ o ops d.e=true) (hk:aV pl j=.alloc) (hb:d'.bs=d.bs) (σ:St) (he:ak P 0 (aq d.e) o ⟨d.n,.lf⟩=some (.val v σ)) (hn:d'.n=σ.n) (hp:d'.aD=⟨j,d.n,σ.n,σ.t⟩::d.aD)
 |load (h:aJ o ops d.e=true) (hk:aV pl j=.load) (hn:d'.n=d.n) (hp:d'.aD=d.aD) (hb:d'.bs=d.bs) (i0:Nat) (b:T Ob) (rest:List (Nat×T Ob)) (gb:d.bs=(i0,b)::rest)
   (σ:St) (he:ak P d.n (aq d.e) o ⟨d.n,seen d.aD (pl.bW.getD j 0) b⟩=some (.val v σ)) (h0:σ.n=d.n)
   (hl:(aq0 (pl.bW.getD j 0) i0||lH P d.e o d.n v d.aD (pl.bW.getD j 0) rest)=true)
 |call (h:aJ o ops d.e=true) (hk:aV pl j=.call) (hb:d'.bs=d.bs) (i0:Nat) (b:T Ob) (rest:List (Nat×T Ob)) (gb:d.bs=(i0,b)::rest)
   (σ:St) (he:jn P S d.n d.e o ⟨d.n,seen d.aD (pl.bW.getD j 0) b⟩=some (v,σ)) (hn:d'.n=σ.n) (hp:d'.aD=⟨j,d.n,σ.n,σ.t⟩::d.aD)
 |effect (h:aJ o ops d.e=true) (hk:aV pl j=.effect) (i0:Nat) (b:T Ob) (rest:List (Nat×T Ob)) (gb:d.bs=(i0,b)::rest)
   (σ:St) (he:jn P S ro d.e o ⟨d.n,seen d.aD (pl.bW.getD j 0) b⟩=some (v,σ)) (hn:d'.n=σ.n) (hb:d'.bs=(j,σ.t)::d.bs) (hp:d'.aD=d.aD.filter fun p=> !aq0 (pl.bW.getD j 0) p.j)
   (hr:recheck P pl ops (pl.bW.getD j 0) d.e d'.n d'.aD σ.t (ops.toList.zipIdx.take j)=true)
theorem NX{U:Self}{o:Oper}{j:Nat}{d d':DS}(h:bL P U pl ro ops o j d=some d'):∃v,d'.e=d.e.put o.dst v∧d.bs≠[]∧Stp P U pl ro ops o j d d' v:=by
 unfold bL at h;dsimp only at h;split at h
 ·cases h
 ·rename_i i0 b rest gb;have aT:d.bs≠[]:=by rw[gb];simp
  split at h
  ·rename_i hw;split at h
   ·rename_i hk;split at h
    ·rename_i v σ he;split at h
     ·rename_i h0;cases h;exact⟨v,rfl,aT,.pure hw hk rfl rfl rfl σ he h0⟩
     ·cases h
    ·cases h
   ·rename_i hk;split at h
    ·rename_i v σ he;cases h;exact⟨v,rfl,aT,.alloc hw hk rfl σ he rfl rfl⟩
    ·cases h
   ·rename_i hk;split at h
    ·rename_i v σ he;split at h
     ·rename_i hc;cases h;exact⟨v,rfl,aT,.load hw hk rfl rfl rfl i0 b rest gb σ he hc.1 hc.2⟩
     ·cases h
    ·cases h
   ·rename_i hk;split at h
    ·rename_i v σ he;cases h;exact⟨v,rfl,aT,.call hw hk rfl i0 b rest gb σ he rfl rfl⟩
    ·cases h
   ·rename_i hk;split at h
    ·rename_i v σ he;split at h
     ·rename_i hc;cases h;exact⟨v,rfl,aT,.effect hw hk i0 b rest gb σ he rfl rfl rfl hc⟩
     ·cases h
    ·cases h
  ·rename_i hw;have hw:aJ o ops d.e=false:=by simpa using hw
   split at h
   ·rename_i hk;split at h
    ·rename_i hc;cases h;exact⟨.undef,rfl,aT,.EF hw rfl rfl rfl hk i0 b rest gb rfl hc⟩
    ·cases h
   ·rename_i hk;cases h;exact⟨.undef,rfl,aT,.skip hw rfl rfl rfl hk rfl⟩
structure Tr(P:Program)(S:Nat→Self)(pl:dM)(ro:Nat)(ops:Array Oper)(D:Nat→DS):Prop where
 step:∀(j:Nat) (o:Oper),ops[j]?=some o→bL P (S j) pl ro ops o j (D j)=some (D (j+1))
def nG(P:Program)(S:Nat→Self)(pl:dM)(ro:Nat)(ops:Array Oper)(d:DS):Nat→DS
 |0=>d
 |j+1=>match ops[j]? with
  |some o=>(bL P (S j) pl ro ops o j (nG P S pl ro ops d j)).getD (nG P S pl ro ops d j)
  |none=>nG P S pl ro ops d j
theorem KZ{d0:DS}:∀{l:List Oper} {k:Nat} {d':DS},ops.toList.drop k=l→k≤ops.size→iF P S pl ro ops (l.zipIdx k) (nG P S pl ro ops d0 k)=some d'→
 (∀(j:Nat) (o:Oper),k≤j→ops[j]?=some o→bL P (S j) pl ro ops o j (nG P S pl ro ops d0 j)=some (nG P S pl ro ops d0 (j+1)))∧d'=nG P S pl ro ops d0 ops.size
 |[],k,d',hl,hk,h=>by
  have hs:ops.size≤k:=by
   have:ops.toList.length≤k:=List.drop_eq_nil_iff.1 hl;simpa using this
  cases h;refine⟨fun j o hj ho=>?_,by rw[show k=ops.size by omega]⟩;have:=(arA.1 ho).1;omega
 |o::l,k,d',hl,hk,h=>by
  have bo:ops[k]?=some o:=by
   have:(ops.toList.drop k)[0]?=some o:=by rw[hl];rfl
   simpa using this
  have fY:ops.toList.drop (k+1)=l:=by
   rw[←atm (i:=1) (j:=k),hl];rfl
  have aa:=(arA.1 bo).1;rw[auc]at h;unfold iF at h;split at h
  ·rename_i d1 h1
   have zK:nG P S pl ro ops d0 (k+1)=d1:=by
    rw[nG,bo];simp only[h1,Option.getD_some]
   rw[←zK]at h;obtain⟨h2,h3⟩:=KZ fY (by omega) h;refine⟨fun j o' hj ho=>?_,h3⟩;rcases atX hj with hj|rfl
   ·exact h2 j o' (by omega) ho
   ·rw[bo]at ho;cases ho;rw[h1,zK]
  ·cases h
theorem Z0{d0 d':DS}(h:iF P S pl ro ops ops.toList.zipIdx d0=some d'):Tr P S pl ro ops (nG P S pl ro ops d0)∧d'=nG P S pl ro ops d0 ops.size:=by
 obtain⟨h1,h2⟩:=KZ (k:=0) (by simp) (by omega) h;exact⟨⟨fun j o ho=>h1 j o (by omega) ho⟩,h2⟩
section tr
variable{D:Nat→DS}(ht:Tr P S pl ro ops D)
include ht
theorem Tr.NY{j:Nat}(hj:j<ops.size):∃o v,ops[j]?=some o∧(D (j+1)).e=(D j).e.put o.dst v∧(D j).bs≠[]∧Stp P (S j) pl ro ops o j (D j) (D (j+1)) v:=by
 have ho:ops[j]?=some ops[j]:=aq7 hj;obtain⟨v,h1,h2,h3⟩:=NX (ht.step j _ ho);exact⟨_,v,ho,h1,h2,h3⟩
theorem Tr.WM(hc:∀j,bS (S j))(hk:∀j,bB (S j)){j:Nat}(hj:j<ops.size):(D j).n≤(D (j+1)).n:=
 Cd (hc j) (hk j) (ht.step j _ (aq7 hj))
theorem Tr.fC(hc:∀j,bS (S j))(hk:∀j,bB (S j)){i j:Nat}(mI:i≤j)(hj:j≤ops.size):(D i).n≤(D j).n:=by
 induction j with
 |zero=>have:i=0:=by omega
        subst this;exact aqK _
 |succ j ih=>
  rcases atX mI with h|rfl
  ·exact aq2 (ih (by omega) (by omega)) (ht.WM hc hk (by omega))
  ·exact aqK _
theorem Tr.apart(hc:∀j,bS (S j))(hk:∀j,bB (S j)){i j id:Nat}(hi:i<ops.size)(hj:j<ops.size)(h1:(D i).n≤id∧id<(D (i+1)).n)(h2:(D j).n≤id∧id<(D (j+1)).n):i=j:=by
 rcases Nat.lt_trichotomy i j with h|h|h
 ·have:=ht.fC hc hk (show i+1≤j from h) (by omega);omega
 ·exact h
 ·have:=ht.fC hc hk (show j+1≤i from h) (by omega);omega
theorem Tr.adl{j:Nat}(hj:j<ops.size):(D (j+1)).bs=(D j).bs∨(aV pl j=.effect∧∃b,(D (j+1)).bs=(j,b)::(D j).bs):=by
 obtain⟨o,v,_,_,_,h⟩:=ht.NY hj;cases h with
 |skip _ _ _ _ _ hb=>exact .inl hb
 |EF _ _ _ _ hk _ b _ _ hb _=>exact .inr ⟨hk,b,hb⟩
 |pure _ _ _ _ hb=>exact .inl hb
 |alloc _ _ hb=>exact .inl hb
 |load _ _ _ _ hb=>exact .inl hb
 |call _ _ hb=>exact .inl hb
 |effect _ hk _ _ _ _ σ _ _ hb=>exact .inr ⟨hk,σ.t,hb⟩
theorem Tr.K3{m j:Nat}(hm:m≤j)(hj:j≤ops.size):∃pre,(D j).bs=pre++(D m).bs∧∀x∈pre,m≤x.1∧x.1<j∧aV pl x.1=.effect:=by
 induction j with
 |zero=>have:m=0:=by omega
        subst this;exact⟨[],rfl,fun _ h=>by cases h⟩
 |succ j ih=>
  rcases atX hm with h|rfl
  ·obtain⟨pre,h1,h2⟩:=ih (by omega) (by omega);rcases ht.adl (show j<ops.size by omega)with hb|⟨hk,b,hb⟩
   ·exact⟨pre,by rw[hb,h1],fun x hx=>by have:=h2 x hx;exact⟨this.1,by omega,this.2.2⟩⟩
   ·refine⟨(j,b)::pre,by rw[hb,h1];rfl,fun x hx=>?_⟩;rcases List.mem_cons.1 hx with rfl|hx
    ·exact⟨by omega,by omega,hk⟩
    ·have:=h2 x hx;exact⟨this.1,by omega,this.2.2⟩
  ·exact⟨[],rfl,fun _ h=>by cases h⟩
theorem Tr.NZ{m j:Nat}(hm:m≤j)(hj:j≤ops.size)(aT:∀i,m≤i→i<j→aV pl i≠.effect):(D j).bs=(D m).bs:=by
 obtain⟨pre,h1,h2⟩:=ht.K3 hm hj;cases pre with
 |nil=>exact h1
 |cons x pre=>have:=h2 x (by simp);exact absurd this.2.2 (aT x.1 this.1 this.2.1)
end tr
structure sB(ops:Array Oper)(D:Nat→DS)(A:Nat→Prop)(e:Env):Prop where
 n:e.n=(D 0).e.n
 put:∀j,A j→∀t,iW ops j=some t→e.at t=(D (j+1)).e.at t
 cC:∀t,(∀j,A j→iW ops j≠some t)→e.at t=(D 0).e.at t
theorem WN{e:Env}{dst:Option Tmp}{v:IV}{t:Nat}(h:dst≠some t):(e.put dst v).at t=e.at t:=by
 cases dst with
 |none=>rfl
 |some d=>
  rw[Env.cS,if_neg];intro hc;exact h (by rw[hc.2])
theorem sB.step{D:Nat→DS}{A:Nat→Prop}{e:Env}(ho:oP ops pl){j:Nat}{o:Oper}{v:IV}(h:sB ops D A e)(hA:∀i,A i→i<ops.size)(hj:ops[j]?=some o)(hnj:¬A j)
 (hd:(D (j+1)).e=(D j).e.put o.dst v)(hold:∀t,iW ops j=some t→(D j).e.at t=(D 0).e.at t)(hn:(D j).e.n=(D 0).e.n):sB ops D (fun i=>A i∨i=j) (e.put o.dst v):=by
 have aa:=(arA.1 hj).1;have fS:iW ops j=o.dst:=by unfold iW;rw[hj];rfl
 have abK:∀i t,A i→iW ops i=some t→o.dst≠some t:=by
  intro i t hi hit;have Cf:=hA i hi;have aT:i≠j:=fun hx=>hnj (hx▸hi);rw[←fS];rcases Nat.lt_or_gt_of_ne aT with fR|fR
  ·exact ho.single i j fR aa t hit
  ·intro hc;exact ho.single j i fR Cf t hc hit
 refine⟨by rw[Env.mU];exact h.n,fun i hi t hit=>?_,fun t bx=>?_⟩
 ·rcases hi with hi|rfl
  ·rw[WN (abK i t hi hit)];exact h.put i hi t hit
  ·rw[fS]at hit;rw[hd,hit,Env.cS,Env.cS,h.n,hn];split
   ·rfl
   ·rw[hold t (by rw[fS];exact hit)];refine h.cC t fun i hi hc=>abK i t hi hc hit
 ·rw[WN (by rw[←fS];exact bx j (.inr rfl))];exact h.cC t fun i hi=>bx i (.inl hi)
theorem Tr.env{D:Nat→DS}(ht:Tr P S pl ro ops D)(ho:oP ops pl):∀j,j≤ops.size→sB ops D (fun i=>i<j) (D j).e
 |0,_=>⟨rfl,fun i hi=>absurd hi (by omega),fun t _=>rfl⟩
 |j+1,hj=>by
  obtain⟨o,v,h1,h2,_,_⟩:=ht.NY (show j<ops.size by omega);have ih:=ht.env ho j (by omega);have:=sB.step (A:=fun i=>i<j) (v:=v) ho ih (fun i hi=>by omega) h1 (by omega) h2 (fun t hd=>ih.cC t fun i hi hc=>ho.single i j hi (by omega) t hc hd) ih.n;rw[←h2]at this;refine⟨this.n,fun i hi=>this.put i (by omega),fun t bx=>this.cC t fun i hi=>bx i (by omega)⟩
theorem aeL(ho:oP ops pl):∀(j:Nat),j<ops.size→∀i,iX pl j i→i<j:=by
 intro j;induction j using Nat.strongRecOn with
 |_ j ih=>
  intro hj i hb;obtain⟨e,he,cD,h1⟩:=ho.bits j _ (aq7 hj) i hb;have aa:=ho.back j _ (aq7 hj) e he cD;rcases h1 with rfl|h1
  ·exact aa
  ·have:=ih e.on aa (by omega) i h1;omega
theorem Gv{D:Nat→DS}{A B:Nat→Prop}{e e':Env}(h:sB ops D A e)(h':sB ops D B e'){t:Nat}(hAB:∀i,iW ops i=some t→(A i↔B i)):e.at t=e'.at t:=by
 by_cases hx:∃i,A i∧iW ops i=some t
 ·obtain⟨i,hi,hd⟩:=hx;rw[h.put i hi t hd,h'.put i ((hAB i hd).1 hi) t hd]
 ·rw[h.cC t fun i hi hd=>hx ⟨i,hi,hd⟩,h'.cC t fun i hi hd=>hx ⟨i,(hAB i hd).2 hi,hd⟩]
theorem sC{e e':Env}{j:Nat}{o:Oper}(hj:ops[j]?=some o)(h:∀t∈zi ops j,e.at t=e'.at t)(hn:e.n=e'.n):
 (∀x∈o.op.operands,aq e x=aq e' x)∧aJ o ops e=aJ o ops e':=by
 have hr:zi ops j=tP ops o:=by
  unfold zi;rw[asE,List.getElem?_map];have:ops.toList[j]?=some o:=by simpa using hj
  rw[this];rfl
 rw[hr]at h;refine⟨fun x hx=>?_,?_⟩
 ·cases x with
  |tmp t=>exact h t (by unfold tP;rw[aqX];left;exact List.mem_filterMap.2 ⟨.tmp t,by simpa using hx,rfl⟩)
  |_=>rfl
 ·unfold aJ;cases hg:o.guard with
  |none=>rfl
  |some g=>
   obtain⟨i,want⟩:=g;dsimp only;cases hd:(ops[i]?).bind (·.dst)with
   |none=>rfl
   |some d=>
    dsimp only;rw[hn,h d (by unfold tP;rw[aqX];right;rw[hg];dsimp only;rw[hd];simp)]
end Go.Ev
