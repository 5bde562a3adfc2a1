/- Lemmas over the model, without conditions of their own: code and calls of the ideal machine are sound; regions that draw (1). -/
import Derived.Test.YtggffkaadeagbaaGreatEvC
open Go.Fence renaming wide->asz,inRound->awZ
open Go.Code renaming roundsIn->aw9
open Go.Instr renaming getLoop->aw0,endRound->awQ,yield->axk,enterLoop->avF
open Go.Sem renaming run_bind->asa,run_pure->asj
open Go.Result renaming andThen_ok->ar8
open List renaming foldl_cons->asI,range'->auv,drop_drop->ate,length_cons->asS,range'_succ->au6,range_eq_range'->awh,mapM_nil->av6,mapM_cons->at7,zipIdx_cons->avz,map_congr_left->aud,getD_eq_getElem?_getD->at5,mk_mem_zipIdx_iff_getElem?->atd,all_eq_true->asl,mem_filter->asK,mem_append->asE
open Go.LoopState renaming busy->axV
open Decidable renaming byContradiction->at3
open Go.Oper renaming semAt_eq->atq,uponIn_enter->auZ
open Nat renaming le_trans->asr,le_refl->ar9,lt_of_not_le->au7,testBit->ast,lor->av0,testBit_or->aw_,shiftLeft->avh,lt_or_eq_of_le->avo
open Bool renaming false_eq_true->asD,not_eq_true'->asN,or_eq_true->asP,and_eq_true->ar6,not_true->au2,false_or->aun
open Go renaming undef->asQ
open Array renaming replicate->atr,getElem?_eq_getElem->asy,getElem?_eq_some_iff->asW
open Option renaming map_some->asC
open Go.Call renaming operands->auT
open Go.Region renaming binds->atV
open Option.some renaming injEq->ar7
set_option linter.all false
namespace Go.Ev
variable{P:Program}{N ro m:Nat}{ι:Io}{w:World}{σ:St}{e:Env}{a:Act}{S:Self}{F:Fence}{rd:Option Nat}{Q:Exit→Act→World→Prop}
def Dd(ch:List PanicEntry):Ex→Exit
 |.normal=>.normal
 |.exit id=>.exit id
 |.goto l=>.goto l
 |.ret=>.ret
 |.bC _=>.panic ch
def Ub(ι:Io)(ch:List PanicEntry):Ex→Prop
 |.bC v=>∃u,ch=[{v:=u,recovered:=false}]∧Rv ι v u
 |_=>True
def l_(ι:Io):Option IV→FrameMode→Prop
 |none,u=>u=.returning
 |some v,u=>∃x,u=.panicking [{v:=x,recovered:=false}]∧Rv ι v x
def jS(F:Fence)(rd:Option Nat)(ι:Io):Prop:=(rd=none∧F=asz)∨∃l loc,rd=some l∧ι l 0=some loc∧F=asz.inRound loc.b
theorem jS.mono{ay:Io}(gD:Ext ι ay)(h:jS F rd ι):jS F rd ay:=by
 rcases h with h|⟨l,loc,h1,h2,h3⟩
 ·exact .inl h
 ·exact .inr ⟨l,loc,h1,gD _ _ _ h2,h3⟩
theorem jS.fn(h:jS F rd ι)(f:FuncId):F.fn f:=by rcases h with⟨_,rfl⟩|⟨_,_,_,_,rfl⟩<;>trivial
theorem jS.depth(h:jS F rd ι){n:Nat}:F.depth.isSome=true→1≤n:=by rcases h with⟨_,rfl⟩|⟨_,_,_,_,rfl⟩<;>(intro h;simp[asz,awZ]at h)
theorem jS.calls(h:jS F rd ι){f:FuncId}{us:Array Value}{R:Ending→World→Prop}(hc:CallsIn asz 0 P f us w R):CallsIn F (0- 1) P f us w R:=by
 rcases h with⟨_,rfl⟩|⟨_,_,_,_,rfl⟩<;>exact hc
theorem jS.inRound(h:jS F rd ι)(l:Nat):F.inRound l=asz.inRound l:=by rcases h with⟨_,rfl⟩|⟨_,_,_,_,rfl⟩<;>rfl
def mW(N ro:Nat)(ι:Io)(w:World)(σ:St)(cr:CR)(Q:Exit→Act→World→Prop):Prop:=
 ∀a' w' ay ch,Inv N ay cr.σ w'→Le ro ι w σ ay w' cr.σ→cM ay cr.e a'.tmps→jC ay cr.df a'.defers→Ub ay ch cr.ex→Q (Dd ch cr.ex) a' w'
def Uc(F:Fence)(P:Program)(m:Nat)(c:Code)(Q:Exit→Act→World→Prop)(a:Act)(w:World):Prop:=
 match c with
 |.loop b=>aw9 F 0 P b Q m a w
 |c=>c.wpIn F 0 P Q a w
theorem Uc.wp{c:Code}(h:Uc F P m c Q a w):c.wpIn F 0 P Q a w:=by
 cases c<;>first|exact h|exact wpIn_loop_rounds _ h
def wv(N ro:Nat)(ι:Io)(w:World)(σ:St)(v:IV)(ah:St):Ending→World→Prop
 |.returned u,w'=>∃ay,Rv ay v u∧Inv N ay ah w'∧Le ro ι w σ ay w' ah
 |_,_=>False
def gM(P:Program)(S:Self)(m:Nat):Prop:=∀N ro rd fn c e df σ cr,S.code ro rd fn c e df σ=some cr→cr.σ.n≤N→∀F ι a w Q,jS F rd ι→Inv N ι σ w→cM ι e a.tmps→jC ι df a.defers→
 mW N ro ι w σ cr Q→Uc F P m c Q a w
def Hx(N ro:Nat)(ι:Io)(w:World)(σ:St)(v:IV)(ah:St):Ending→World→Prop
 |.panicked ch,w'=>∃ay,Ub ay ch (.bC v)∧Inv N ay ah w'∧Le ro ι w σ ay w' ah
 |_,_=>False
def Hy(N ro:Nat)(ι:Io)(w:World)(σ:St)(m:Option IV)(ah:St):Ending→FrameMode→World→Prop
 |.returned _,u,w'=>∃ay,l_ ay m (settle u)∧Inv N ay ah w'∧Le ro ι w σ ay w' ah
 |_,_,_=>False
structure dL(P:Program)(S:Self):Prop where
 call:∀N ro f args σ v ah,S.call ro f args σ=some (v,ah)→ah.n≤N→∀ι us w,Inv N ι σ w→ax ι args us→CallsIn asz 0 P f us.toArray w (wv N ro ι w σ v ah)
 bC:∀N ro f args σ v ah,S.bC ro f args σ=some (v,ah)→ah.n≤N→∀ι us w,Inv N ι σ w→ax ι args us→CallsIn asz 0 P f us.toArray w (Hx N ro ι w σ v ah)
 vY:∀N ro f args m σ m' ah,S.vY ro f args m σ=some (m',ah)→ah.n≤N→∀ι us u w,l_ ι m u→Inv N ι σ w→ax ι args us→CallsDIn asz 0 P f us.toArray u w (Hy N ro ι w σ m' ah)
 my:∀ro f args m σ m' ah,S.vY ro f args m σ=some (m',ah)→∃fn,P.funcs[f]?=some fn∧(fn.body.isSome&&fn.name != "runtime.NumGoroutine")=true
theorem mW.from{cr:CR}{bN:Io}{w1:World}{ai:St}(h:mW N ro ι w σ cr Q)(hi:Inv N ι σ w)(hl:Le ro ι w σ bN w1 ai)(hn:ai.n≤N):mW N ro bN w1 ai cr Q:=
 fun a' w' ay ch h1 h2 h3 h4 h5=>h a' w' ay ch h1 (Le.trans (fun id h1 h2=>hi.fresh id h1 (by omega)) hl h2) h3 h4 h5
theorem Le.then(hi:Inv N ι σ w){bN mL:Io}{w1 w2:World}{ai c7:St}(hn:ai.n≤N)(h:Le ro ι w σ bN w1 ai)(k:Le ro bN w1 ai mL w2 c7):Le ro ι w σ mL w2 c7:=
 Le.trans (fun id h1 h2=>hi.fresh id h1 (by omega)) h k
theorem xG{l:Nat}{r:Loop}(h:w.heap[l]?=some (.loop r)):(aw0 l).run P w=.ok r w:=by
 simp only[aw0,asa,bO (P:=P) h (by simp),ar8,asj]
theorem heap_set{b:Nat}{o:Go.Obj}(h:b<w.heap.size):(w.heap.setIfInBounds b o)[b]?=some o:=by simp[h]
theorem Kv:∀{ps:List Tmp} {args:List IV} {us:List Value} {e:Env} {ts:Array Value},cM ι e ts→ax ι args us→
 cM ι ((ps.zip args).foldl (fun e (p,v)=>e.put (some p) v) e) ((ps.zip us).foldl (fun tmps (t,a)=>tmps.setIfInBounds t a) ts)
 |[],_,_,_,_,h,_=>h
 |p::ps,[],us,_,_,h,hr=>by rw[hr.of_nil];exact h
 |p::ps,v::args,us,e,ts,h,hr=>by
  obtain⟨u,oU,rfl,h1,h2⟩:=hr.sj;simp only[List.zip_cons_cons,asI];exact Kv (h.set h1 p) h2
theorem qE{l:Nat}{loc:Loc}{st:LoopState}{zI:Option Code}{f:FuncId}{tm:T IV}{sh:Nat}{ps:List Tmp}{nG bd:Code}{lX:Nat}(hi:Inv N ι σ w)(az:σ.at l=some (.loop st zI f tm sh ps nG bd lX))(hl:ι l 0=some loc):
 ∃ld ts f',ι lX 0=some ld∧w.heap[loc.b]?=some (.loop {state:=st,pending:=zI,fn:=f',tmps:=ts,params:=ps.toArray,assign:=nG,body:=bd,defers:=ld.b})∧cM ι ⟨sh,tm⟩ ts∧loc.b<w.heap.size:=by
 obtain⟨l',ld,ts,f',cd,hd,hh,hs,ht⟩:=hi.obj l _ az;rw[hl]at cd;cases cd;exact⟨ld,ts,f',hd,hh,⟨hs.symm,ht⟩,hi.jA l _ ⟨0,loc,hl,rfl⟩⟩
theorem Wy(s:LoopState)(h:s≠.busy):(s==axV)=false:=by cases s<;>first|rfl|exact absurd rfl h
theorem Jg{l:Nat}{loc:Loc}{st lu:LoopState}{zI Ey:Option Code}{f f':FuncId}{tm:T IV}{sh:Nat}{ps:List Tmp}{nG bd:Code}{lX:Nat}{ld:Loc}{ts:Array Value}(hi:Inv N ι σ w)(cy:ro≤l)
 (az:σ.at l=some (.loop st zI f tm sh ps nG bd lX))(hl:ι l 0=some loc)(hd:ι lX 0=some ld)(he:cM ι ⟨sh,tm⟩ ts):
 let go:Go.Obj:=.loop {state:=lu,pending:=Ey,fn:=f',tmps:=ts,params:=ps.toArray,assign:=nG,body:=bd,defers:=ld.b}
 Inv N ι (σ.put l (.loop lu Ey f tm sh ps nG bd lX)) {w with heap:=w.heap.setIfInBounds loc.b go}∧Le ro ι w σ ι {w with heap:=w.heap.setIfInBounds loc.b go} (σ.put l (.loop lu Ey f tm sh ps nG bd lX)):=by
 intro go;have aa:=hi.jA l _ ⟨0,loc,hl,rfl⟩;exact hi.j2 az cy hl ⟨loc,ld,ts,f',hl,hd,heap_set aa,he.1.symm,he.2⟩
theorem Nf{l:Nat}{R:Ending→World→Prop}{ex:Ex}{ch:List PanicEntry}(hx:¬ex.abH=true){a:Act}{w:World}(h:∃v w',(awQ l (xp ex)).run P w=.ok v w'∧R (.returned v) w'):roundPost P l R (Dd ch ex) a w:=by
 cases ex<;>first|exact h|exact absurd rfl hx
theorem ZX(hS:gM P S m)(hm:bQ S){l:Nat}{loc:Loc}{args:List IV}{us:List Value}{v:IV}{ah:St}(h:Ab S ro l args σ=some (v,ah))(hN:ah.n≤N)(hF:jS F rd ι)(hi:Inv N ι σ w)
 (hl:ι l 0=some loc)(hr:ax ι args us):
 ∃f' ts nG bd,(axk loc.b us.toArray).run P w=.ok (.round loc.b f' ts nG bd) w∧RoundIn F 0 P loc.b f' ts nG bd w (wv N ro ι w σ v ah):=by
 unfold Ab at h;split at h
 ·rename_i state pending f tm sh params assign body lX az;split at h
  ·cases h
  ·rename_i hc;have bw:args.length=params.length:=at3 fun hx=>hc (.inl hx);have gi:ro≤l:=at3 fun hx=>hc (.inr (.inl hx));have Ng:state=.ready:=at3 fun hx=>hc (.inr (.inr hx));simp only at h;split at h
   ·rename_i e1 ai h1;split at h
    ·rename_i ZY f1 tm1 aeJ params1 Rk abI aeK qp;split at h
     ·rename_i ex e2 c7 h2;split at h
      ·cases h
      rename_i hnp;split at h
      ·rename_i st3 arf f3 tm3 arN params3 aqW arh anq Nh;cases h;obtain⟨ld,ts,f',hd,hh,he,aa⟩:=qE hi az hl;have xH:c7.n≤N:=hN
       have cX:ai.n≤N:=by
        have:=hm _ _ _ _ _ _ _ _ h2;simp only[St.mU]at this;omega
       have aK:us.toArray.size=params.toArray.size:=by simp[←hr.1,bw]
       refine⟨f',(params.zip us).foldl (fun tmps (t,a)=>tmps.setIfInBounds t a) ts,assign,body,?_,?_⟩
       ·have hz:((params.toArray.zip us.toArray).foldl (fun tmps (t,a)=>tmps.setIfInBounds t a) ts)=(params.zip us).foldl (fun tmps (t,a)=>tmps.setIfInBounds t a) ts:=by simp[List.zip_toArray]
        simp only[axk,asa,xG hh,ar8,aK,ne_eq,not_true_eq_false,if_false,asj,hz]
       ·refine roundIn_of_wpIn (hF.fn f') ?_;rw[hF.inRound];refine(hS N ro (some l) f assign _ [] σ _ h1 cX (asz.inRound loc.b) ι {tmps:=_,defers:=[]} w _ (.inr ⟨l,loc,rfl,hl,rfl⟩) hi (Kv he hr) trivial ?_).wp;intro a1 w1 bN dU i1 l1 cg d1 p1;have tR:=l1.ext _ _ _ hl;obtain⟨ld1,ts1,f1',Cv,Cw,l5,eS⟩:=qE i1 qp tR;obtain⟨i2,l2⟩:=Jg (ro:=ro) (lu:=.busy) (Ey:=ZY) (f':=f1') i1 gi qp tR Cv l5;refine⟨_,by simp only[Instr.beginRound,asa,xG Cw,ar8,eD (P:=P) Cw (by simp),asj];rfl,?_⟩;refine(hS N ro (some l) f body _ [] _ _ h2 xH (asz.inRound loc.b) bN a1 _ _ (.inr ⟨l,loc,rfl,tR,rfl⟩) i2 cg d1 ?_).wp;intro a2 w2 mL ch2 i3 l3 e2' d2 p2;refine Nf hnp ?_;have fi:=l3.ext _ _ _ tR;obtain⟨ld2,ts2,f2',Ni,wg,Cx,dT⟩:=qE i3 Nh fi;obtain⟨i4,l4⟩:=Jg (ro:=ro) (lu:=if(xp ex).isNone then .ready else .done) (Ey:=xp ex) (f':=f2') i3 gi Nh fi Ni Cx;refine⟨.bool (xp ex).isNone,_,by simp only[awQ,asa,xG wg,ar8,eD (P:=P) wg (by simp),asj];rfl,mL,?_,?_,?_⟩
        ·exact .raw _
        ·exact i4
        ·have Nj:=Le.then i2 xH l3 l4;have l24:=Le.then i1 (by simp only[St.mU];exact cX) l2 Nj;exact Le.then hi cX l1 l24
      ·cases h
     ·cases h
    ·cases h
   ·cases h
 ·cases h
end Go.Ev
namespace Go.Ev
variable{P:Program}{N ro m:Nat}{ι:Io}{w:World}{σ:St}{e:Env}{a:Act}{S:Self}{F:Fence}{rd:Option Nat}{Q:Exit→Act→World→Prop}
theorem eV{ρ:Operand→IV}{o:Oper}{out:ez}(h:ak P ro ρ o σ=some out)(hd:∀d,out≠.Rj d):∀c,o.op≠.defer c:=by
 intro c hc;unfold ak at h;rw[hc]at h;dsimp only at h;split at h
 ·split at h
  ·cases h;exact hd _ rfl
  ·cases h
 ·cases h
theorem Ak(hS:gM P S m)(hC:dL P S)(hm:bQ S){o:Oper}{v:IV}{ah:St}{next:Act→World→Prop}(h:jh P S ro e o σ=some (v,ah))(hN:ah.n≤N)(hF:jS F rd ι)(hi:Inv N ι σ w)
 (he:cM ι e a.tmps)(hQ:∀u w' ay,Rv ay v u→Inv N ay ah w'→Le ro ι w σ ay w' ah→next (a.put o.dst u) w'):o.wpIn F 0 P a w next Q:=by
 refine⟨fun f _=>hF.fn f,?_⟩;unfold jh at h;split at h
 ·rename_i v1 ai h1;cases h;rw[atq _ _ _ (eV h1 (by simp))];obtain⟨u,w',ay,hr,h2,h3,h4⟩:=lr hi he.eval h1 hN;rcases hr with hr|⟨hr,rfl⟩
  ·rw[hr,Oper.uponIn_value];exact hQ _ _ _ h2 h3 h4
  ·rw[hr,Oper.uponIn_skip];exact hQ _ _ _ h2 h3 h4
 ·rename_i f args h1;rw[atq _ _ _ (eV h1 (by simp))];obtain⟨us,hr,h2⟩:=lr hi he.eval h1;rw[hr,auZ];refine⟨hF.depth,(hF.calls (hC.call N ro f args σ v ah h hN ι us w hi h2)).mono fun e w' hR=>?_⟩;cases e with
  |returned u=>obtain⟨ay,h3,h4,h5⟩:=hR;exact hQ _ _ _ h3 h4 h5
  |panicked chain=>exact hR.elim
  |outgrown=>exact hR.elim
 ·rename_i l args h1;rw[atq _ _ _ (eV h1 (by simp))];obtain⟨loc,us,hl,hr,h2⟩:=lr hi he.eval h1;obtain⟨f',ts,nG,bd,h3,h4⟩:=ZX (F:=F) hS hm h hN hF hi hl h2;rw[hr,h3,Oper.uponIn_round];refine⟨hF.depth,RoundIn.mono h4 fun e w' hR=>?_⟩;cases e with
  |returned u=>obtain⟨ay,h3,h4,h5⟩:=hR;exact hQ _ _ _ h3 h4 h5
  |panicked chain=>exact hR.elim
  |outgrown=>exact hR.elim
 ·cases h
theorem Hz(hS:gM P S m)(hC:dL P S)(hm:bQ S)(hk:br S){ops:Array Oper}:∀{l:List Oper} {k:Nat} {e:Env} {df:List Df} {σ:St} {cr:CR} {ι:Io} {a:Act} {w:World},
 ops.toList.drop k=l→yz P S ro rd ops l e df σ=some cr→cr.σ.n≤N→jS F rd ι→Inv N ι σ w→cM ι e a.tmps→jC ι df a.defers→mW N ro ι w σ cr Q→
 wpOpsIn F 0 P ops Q (auv k l.length) a w
 |[],k,e,df,σ,cr,ι,a,w,hl,h,hN,hF,hi,he,hd,hQ=>by
  cases h;exact hQ a w ι [] hi (Le.refl _ _ _ _) he hd trivial
 |o::rest,k,e,df,σ,cr,ι,a,w,hl,h,hN,hF,hi,he,hd,hQ=>by
  have fw:ops.toList.drop (k+1)=rest:=by
   rw[←ate (i:=1) (j:=k),hl];rfl
  have bf:ops[k]?=some o:=by
   have:(ops.toList.drop k)[0]?=some o:=by rw[hl];rfl
   simpa using this
  simp only[asS,au6];rw[wpOpsIn_cons];unfold wpOpIn;rw[bf];simp only;unfold yz at h;rw[oX he];split at h
  ·rename_i hw;rw[if_pos hw];split at h
   ·rename_i v ai h1;have cX:ai.n≤N:=asr (xF hm hk h) hN;refine Ak hS hC hm h1 cX hF hi he fun u w' ay hv i1 l1=>?_;exact Hz hS hC hm hk fw h hN (hF.mono l1.ext) i1 ((he.mono l1.ext).put hv _) (hd.mono l1.ext|>fun x=>by cases o.dst<;>exact x) (hQ.from hi l1 cX)
   ·split at h
    ·rename_i d h1;split at h
     ·rename_i jk;have hrn:rd=none:=by cases rd with|none=>rfl|some _=>cases jk
      have Wz:F=asz:=by
       rcases hF with⟨_,h2⟩|⟨_,_,h2,_⟩
       ·exact h2
       ·rw[hrn]at h2;cases h2
      refine⟨fun f _=>hF.fn f,?_⟩;obtain⟨dd,hr,FE,c,hc⟩:=lr hi he.eval h1;have ZZ:(o.semAt F.round a.eval)=execOp a.eval o:=by rw[Wz];rfl
      rw[ZZ,hr,Oper.uponIn_defer];refine Hz hS hC hm hk fw h hN hF hi ?_ ?_ hQ
      ·cases fS:o.dst with
       |none=>exact he
       |some t=>exact he.set oW t
      ·cases o.dst<;>exact⟨FE,hd⟩
     ·cases h
    ·rename_i f args h1;split at h
     ·rename_i v ai h2;cases h;refine⟨fun f _=>hF.fn f,?_⟩;rw[atq _ _ _ (eV h1 (by simp))];obtain⟨us,hr,h3⟩:=lr hi he.eval h1;rw[hr,auZ];refine⟨hF.depth,(hF.calls (hC.bC N ro f args σ v ai h2 hN ι us w hi h3)).mono fun ed w' hR=>?_⟩;cases ed with
      |returned u=>exact hR.elim
      |outgrown=>exact hR.elim
      |panicked chain=>
       obtain⟨ay,h4,h5,h6⟩:=hR;exact hQ a w' ay chain h5 h6 (he.mono h6.ext) (hd.mono h6.ext) h4
     ·cases h
    ·rename_i v h1;cases h;refine⟨fun f _=>hF.fn f,?_⟩;rw[atq _ _ _ (eV h1 (by simp))];obtain⟨u,hr,h3⟩:=lr hi he.eval h1;rw[hr,Oper.uponIn_panic];exact hQ a w ι [{v:=u,recovered:=false}] hi (Le.refl _ _ _ _) he hd ⟨u,rfl,h3⟩
    ·cases h
  ·rename_i hw;rw[if_neg hw];exact⟨fun f _=>hF.fn f,Hz hS hC hm hk fw h hN hF hi (he.put oW _) (by cases o.dst<;>exact hd) hQ⟩
def Nk(P:Program)(S:Self):Prop:=∀N ro rd ops e df σ cr,MR P S ro ops e df σ=some cr→cr.σ.n≤N→∀F ι a w Q id,jS F rd ι→Inv N ι σ w→cM ι e a.tmps→jC ι df a.defers→
 mW N ro ι w σ cr Q→(Code.region id ops true).wpIn F 0 P Q a w
theorem Gf{x:IV}{b:Bool}{u:Value}(hx:x=.raw (.bool b))(h:Rv ι x u):u=.bool b:=by subst hx;cases h;rfl
theorem jC.append:∀{ds:List Df} {xs:List Deferred} {l6:List Df} {nI:List Deferred},jC ι ds xs→jC ι l6 nI→jC ι (ds++l6) (xs++nI)
 |[],[],_,_,_,h=>h
 |_::_,_::_,_,_,h,h'=>⟨h.1,jC.append h.2 h'⟩
 |[],_::_,_,_,h,_=>h.elim
 |_::_,[],_,_,h,_=>h.elim
def Nl(rd:Option Nat)(σ:St):Option (Nat×St×List Df):=
 match rd with
 |none=>some (σ.n,σ.add (.Fw false),[.CY σ.n])
 |some l=>match σ.at l with
  |some (.loop _ _ _ _ _ _ _ _ lX)=>some (lX,σ,[])
  |_=>none
theorem Z0{lX:Nat}{ai:St}{mark:List Df}(h:Nl rd σ=some (lX,ai,mark))(hN:ai.n≤N)(hF:jS F rd ι)(hi:Inv N ι σ w):
 ∃w1 bN ld marks,Inv N bN ai w1∧Le ro ι w σ bN w1 ai∧bN lX 0=some ld∧jC bN mark marks∧
  ∀fn ts ps nG bd,(avF fn ts ps nG bd F.round).run P w=.ok (w1.heap.size,marks) {w1 with heap:=w1.heap.push (.loop {state:=.ready,pending:=none,fn,tmps:=ts,params:=ps,assign:=nG,body:=bd,defers:=ld.b})}:=by
 unfold Nl at h;split at h
 ·cases h
  have Wz:F.round=none:=by
   rcases hF with⟨_,rfl⟩|⟨_,_,h,_⟩
   ·rfl
   ·cases h
  obtain⟨h1,h2⟩:=hi.C9 (ro:=ro) (go:=.deferred (some [])) (ob:=.Fw false) (by simp at hN;omega) ⟨_,bX _ _ _ _,by simp⟩;refine⟨_,_,⟨w.heap.size,1,1⟩,[{target:=.collected w.heap.size,args:= #[]}],h1,h2,bX _ _ _ _,⟨⟨_,bX _ _ _ _,rfl⟩,trivial⟩,fun fn ts ps nG bd=>?_⟩;rw[Wz];simp only[avF,asa,run_newObj,ar8,asj]
 ·rename_i l;split at h
  ·rename_i az;cases h;rcases hF with⟨h,_⟩|⟨l',loc,h,hl,rfl⟩
   ·cases h
   ·cases h;obtain⟨ld,ts,f',hd,hh,he,aa⟩:=qE hi az hl;refine⟨w,ι,ld,[],hi,Le.refl _ _ _ _,hd,trivial,fun fn ts ps nG bd=>?_⟩;simp only[avF,awZ,asa,xG hh,run_newObj,ar8,asj]
  ·cases h
theorem Z1(hS:gM P S m)(hC:dL P S)(hm:bQ S)(hk:br S){fn:FuncId}{g:Operand}{ps:Array Tmp}{nG bd:Code}{df:List Df}{cr:CR}
 (h:vi P S ro rd fn (.rangeFunc g ps nG bd) e df σ=some cr)(hN:cr.σ.n≤N)(hF:jS F rd ι)(hi:Inv N ι σ w)(he:cM ι e a.tmps)(hd:jC ι df a.defers)(hQ:mW N ro ι w σ cr Q):
 (Code.rangeFunc g ps nG bd).wpIn F 0 P Q a w:=by
 unfold vi at h;dsimp only at h
 change(match Nl rd σ with
  |some (lX,σ,mark)=>_
  |none=>none)=some cr at h
 split at h
 ·rename_i lX ai mark oF;split at h
  ·rename_i f args gY;split at h
   ·rename_i v3 vo abK;split at h
    ·rename_i st zI f3 tm sh ps3 as3 bd3 anq Nh;split at h
     ·cases h
     ·rename_i hb;have cK:st≠.busy:=fun hx=>hb (.inl hx);have fB:ro≤ai.n:=at3 fun hx=>hb (.inr hx)
      have WA:vo.n≤N:=by
       split at h
       ·cases h;exact hN
       ·have:=hm _ _ _ _ _ _ _ _ h;simp only[St.mU]at this;omega
      have xH:=hk.call _ _ _ _ _ _ abK;simp only[St.kz]at xH;obtain⟨w1,bN,ld,marks,i1,l1,Al,Nn,Dg⟩:=Z0 (P:=P) (ro:=ro) oF (by omega) hF hi;refine wpIn_rangeFunc fun fn' _=>?_;have jI:=i1.fresh ai.n (ar9 _) (by omega) 0;have iV:=kc (l:=⟨w1.heap.size,1,1⟩) jI
      obtain⟨i2,l2⟩:=i1.C9 (ro:=ro) (go:=.loop {state:=.ready,pending:=none,fn:=fn',tmps:=a.tmps,params:=ps,assign:=nG,body:=bd,defers:=ld.b}) (ob:=.loop .ready none fn e.t e.n ps.toList nG bd lX) (by omega)
       ⟨⟨w1.heap.size,1,1⟩,ld,a.tmps,fn',bX _ _ _ _,iV _ _ _ Al,by simp,he.1.symm,fun t=>((he.2 t).mono l1.ext).mono iV⟩
      have fi:dF bN ai.n 0 ⟨w1.heap.size,1,1⟩ ai.n 0=some ⟨w1.heap.size,1,1⟩:=bX _ _ _ _;generalize No:({w1 with heap:=w1.heap.push (.loop {state:=.ready,pending:=none,fn:=fn',tmps:=a.tmps,params:=ps,assign:=nG,body:=bd,defers:=ld.b})}:World)=w2 at i2 l2;generalize dF bN ai.n 0 ⟨w1.heap.size,1,1⟩=mL at i2 l2 fi iV;obtain⟨d,eo,eu⟩:=Da (w:=w2) (((he.mono l1.ext).mono iV).eval g) (ax.cons (.z_ ai.n _ fi) ax.nil) gY;rcases eu with⟨f',as,vs,j_,hinv,gK,_⟩|⟨_,_,j_,_⟩
      ·cases j_;refine⟨w1.heap.size,marks,w2,d,w2,f,vs.toArray,w2,by rw[Dg,No],?_,fun f' _=>hF.fn f',hinv,hF.depth,?_⟩
       ·simpa[resolve,rangeCall,Act.eval]using eo
       ·refine(hF.calls (hC.call N ro f args _ _ _ abK WA mL vs w2 i2 gK)).mono fun ed w3 hR=>?_;cases ed with
        |panicked chain=>exact hR.elim
        |outgrown=>exact hR.elim
        |returned u=>
         obtain⟨ι3,_,i3,l3⟩:=hR;have RB:=l3.ext _ _ _ fi;obtain⟨ld3,ts3,f3',hd3,hh3,RC,Np⟩:=qE i3 Nh RB;obtain⟨i4,l4⟩:=Jg (ro:=ro) (lu:=.exhausted) (Ey:=zI) (f':=f3') i3 fB Nh RB hd3 RC;refine⟨zI,_,by simp only[Instr.endLoop,asa,xG hh3,ar8,Wy st cK,asD,if_false,eD (P:=P) hh3 (by simp),asj];rfl,?_⟩;have l34:=Le.then i2 WA l3 l4;have l24:=Le.then i1 (by simp only[St.kz];omega) l2 l34;have Nj:=Le.then hi (by omega) l1 l24;have e4:cM ι3 e a.tmps:=he.mono Nj.ext;have d4:jC ι3 (mark++df) (marks++a.defers):=(Nn.mono l24.ext).append (hd.mono Nj.ext);split at h
         ·cases h;exact hQ _ _ _ [] i4 Nj e4 d4 trivial
         ·rename_i c;exact(hS N ro rd fn c e _ _ cr h hN F ι3 {a with defers:=marks++a.defers} _ Q (hF.mono Nj.ext) i4 e4 d4 (hQ.from hi Nj (by simp only[St.mU];exact WA))).wp
      ·cases j_
    ·cases h
   ·cases h
  ·cases h
 ·cases h
theorem RD(hS:gM P S m)(hC:dL P S)(hm:bQ S)(hk:br S)(hD:Nk P S):gM P (lk P S) (m+1):=by
 intro N ro rd fn c e df σ cr h hN F ι a w Q hF hi he hd hQ;change vi P S ro rd fn c e df σ=some cr at h;cases c<;>unfold vi at h<;>dsimp only at h
 case skip=>cases h;exact wpIn_skip (hQ a w ι [] hi (Le.refl _ _ _ _) he hd trivial)
 case label=>cases h;exact wpIn_label (hQ a w ι [] hi (Le.refl _ _ _ _) he hd trivial)
 case exit=>cases h;exact wpIn_exit (hQ a w ι [] hi (Le.refl _ _ _ _) he hd trivial)
 case goto=>cases h;exact wpIn_goto (hQ a w ι [] hi (Le.refl _ _ _ _) he hd trivial)
 case ret=>cases h;exact wpIn_ret (hQ a w ι [] hi (Le.refl _ _ _ _) he hd trivial)
 case refuse=>cases h
 case region id ops draw=>
  split at h
  ·rename_i Hv;subst Hv;exact hD N ro rd ops e df σ cr h hN F ι a w Q id hF hi he hd hQ
  ·rename_i Hv;have:draw=false:=by simpa using Hv
   subst this;refine wpIn_region ?_;have:=Hz (k:=0) hS hC hm hk (by simp) h hN hF hi he hd hQ;rw[awh];simpa using this
 case seq x y=>
  refine wpIn_seq ?_;split at h
  ·rename_i e1 p8 ai h1;have cX:ai.n≤N:=asr (hm _ _ _ _ _ _ _ _ h) hN;refine(hS N ro rd fn x e df σ _ h1 cX F ι a w _ hF hi he hd ?_).wp;intro a1 w1 bN dU i1 l1 cg d1 p1;exact(hS N ro rd fn y _ _ _ _ h hN F bN a1 w1 Q (hF.mono l1.ext) i1 cg d1 (hQ.from hi l1 cX)).wp
  ·rename_i gE;refine(hS N ro rd fn x e df σ _ h hN F ι a w _ hF hi he hd ?_).wp;intro a1 w1 bN dU i1 l1 cg d1 p1;have:=hQ a1 w1 bN dU i1 l1 cg d1 p1;cases hx:cr.ex with
   |normal=>exact absurd (by rw[h];cases cr;cases hx;rfl) (gE cr.e cr.df cr.σ)
   |exit id=>rw[hx]at this;exact this
   |goto l=>rw[hx]at this;exact this
   |ret=>rw[hx]at this;exact this
   |bC v=>rw[hx]at this;exact this
 case cond c x y=>
  split at h
  ·rename_i t ht;have hc:=Gf ht (he.eval c);exact wpIn_cond hc (hS N ro rd fn _ e df σ cr h hN F ι a w Q hF hi he hd hQ).wp
  ·cases h
 case block id x=>
  refine wpIn_block ?_;split at h
  ·rename_i bp e1 p8 ai h1
   have cX:ai.n≤N:=by
    split at h<;>(cases h;exact hN)
   refine(hS N ro rd fn x e df σ _ h1 cX F ι a w _ hF hi he hd ?_).wp;intro a1 w1 bN dU i1 l1 cg d1 p1;simp only[Dd,Exit.inBlock];split at h
   ·rename_i hid;cases h;rw[if_pos hid];exact hQ a1 w1 bN dU i1 l1 cg d1 p1
   ·rename_i hid;cases h;rw[if_neg hid];exact hQ a1 w1 bN dU i1 l1 cg d1 p1
  ·rename_i gE;refine(hS N ro rd fn x e df σ _ h hN F ι a w _ hF hi he hd ?_).wp;intro a1 w1 bN dU i1 l1 cg d1 p1;have:=hQ a1 w1 bN dU i1 l1 cg d1 p1;cases hx:cr.ex with
   |exit bp=>exact absurd (by rw[h];cases cr;cases hx;rfl) (gE bp cr.e cr.df cr.σ)
   |normal=>rw[hx]at this;exact this
   |goto l=>rw[hx]at this;exact this
   |ret=>rw[hx]at this;exact this
   |bC v=>rw[hx]at this;exact this
 case loop x=>
  show aw9 F 0 P x Q (m+1) a w;rw[roundsIn_succ];split at h
  ·rename_i e1 p8 ai h1;have cX:ai.n≤N:=asr (hm _ _ _ _ _ _ _ _ h) hN;refine(hS N ro rd fn x e df σ _ h1 cX F ι a w _ hF hi he hd ?_).wp;intro a1 w1 bN dU i1 l1 cg d1 p1;exact hS N ro rd fn (.loop x) _ _ _ _ h hN F bN a1 w1 Q (hF.mono l1.ext) i1 cg d1 (hQ.from hi l1 cX)
  ·rename_i gE;refine(hS N ro rd fn x e df σ _ h hN F ι a w _ hF hi he hd ?_).wp;intro a1 w1 bN dU i1 l1 cg d1 p1;have:=hQ a1 w1 bN dU i1 l1 cg d1 p1;cases hx:cr.ex with
   |normal=>exact absurd (by rw[h];cases cr;cases hx;rfl) (gE cr.e cr.df cr.σ)
   |exit id=>rw[hx]at this;exact this
   |goto l=>rw[hx]at this;exact this
   |ret=>rw[hx]at this;exact this
   |bC v=>rw[hx]at this;exact this
 case scope x=>
  refine Bc ?_;split at h
  ·cases h
  ·rename_i gE;refine(hS N ro rd fn x e df σ _ h hN F ι a w _ hF hi he hd ?_).wp;intro a1 w1 bN dU i1 l1 cg d1 p1;have:=hQ a1 w1 bN dU i1 l1 cg d1 p1;cases hx:cr.ex with
   |goto l=>exact absurd (by rw[h];cases cr;cases hx;rfl) (gE l cr.e cr.df cr.σ)
   |normal=>rw[hx]at this;exact this
   |exit id=>rw[hx]at this;exact this
   |ret=>rw[hx]at this;exact this
   |bC v=>rw[hx]at this;exact this
 case rangeFunc g params assign body=>
  exact Z1 hS hC hm hk (by unfold vi;exact h) hN hF hi he hd hQ
end Go.Ev
namespace Go.Ev
variable{P:Program}{N ro m:Nat}{ι:Io}{w:World}{σ:St}{e:Env}{a:Act}{S:Self}{F:Fence}{rd:Option Nat}{Q:Exit→Act→World→Prop}
theorem RE{m:Option IV}{u:FrameMode}(h:l_ ι m u):u≠.run:=by
 cases m with
 |none=>rw[show u=_ from h];simp
 |some v=>obtain⟨x,rfl,_⟩:=h;simp
theorem oY(hC:dL P S)(hk:br S){fn:Func}{ts:Array Value}{R:Ending→World→Prop}:∀{df:List Df} {ds:List Deferred} {σ ah:St} {m m':Option IV} {u:FrameMode} {ι:Io} {w:World},eM S ro df m σ=some (m',ah)→
 jC ι df ds→l_ ι m u→Inv N ι σ w→ah.n≤N→
 (∀w' ay u',Inv N ay ah w'→Le ro ι w σ ay w' ah→l_ ay m' u'→LeavesIn asz 0 P fn ts R [] u' w')→LeavesInM asz 0 P fn ts R ds u w
 |[],[],σ,ah,m,m',u,ι,w,h,_,hu,hi,_,hQ=>by
  cases h;exact hQ w ι u hi (Le.refl _ _ _ _) hu
 |.CY id::df,d::ds,σ,ah,m,m',u,ι,w,h,hd,hu,hi,hn,hQ=>by
  unfold eM at h;obtain⟨⟨l,hl,rfl⟩,vp⟩:=hd;split at h
  ·rename_i az;split at h
   ·rename_i cy;obtain⟨l',cd,hh⟩:=hi.obj id _ az;rw[hl]at cd;cases cd;have aa:=hi.jA id _ ⟨0,l,hl,rfl⟩;obtain⟨i1,l1⟩:=hi.j2 (ro:=ro) (go:=.deferred none) (eF:=.Fw true) az cy hl ⟨l,hl,heap_set aa⟩;have mN:=fY hk h;simp only[St.mU]at mN;refine⟨RE hu,.inl ⟨l.b,_,rfl,?_,oY hC hk h vp hu i1 hn fun w' ay u' i2 l2 yD=>hQ w' ay u' i2 (Le.then hi (by simp only[St.mU];omega) l1 l2) yD⟩⟩;simp only[Instr.takeDeferred,asa,bO (P:=P) hh (by simp),ar8,asD,if_false,eD (P:=P) hh (by simp),asj]
   ·cases h
  ·cases h
 |.call f args::df,d::ds,σ,ah,m,m',u,ι,w,h,hd,hu,hi,hn,hQ=>by
  unfold eM at h;obtain⟨⟨cap,us,vs,rfl,gK,fv⟩,vp⟩:=hd;split at h
  ·rename_i m1 ai h1;have mN:=fY hk h;have hc:=hC.vY N ro f args m σ m1 ai h1 (by omega) ι vs u w hu hi gK;refine⟨RE hu,.inr ⟨by simp[asz],.func f,cap.toArray,f,vs.toArray,rfl,?_,fun g _=>trivial,?_⟩⟩
   ·obtain⟨fn',bA,hb⟩:=hC.my ro f args m σ m1 ai h1;simp only[invoke];rw[uN bA hb,fv];simp
   ·refine hc.mono fun e u' w' hR=>?_;cases e with
    |returned v=>
     obtain⟨bN,Cy,i1,l1⟩:=hR;exact oY hC hk h (vp.mono l1.ext) Cy i1 hn fun w2 mL u2 i2 l2 qF=>hQ w2 mL u2 i2 (Le.then hi (by omega) l1 l2) qF
    |panicked chain=>exact hR.elim
    |outgrown=>exact hR.elim
  ·cases h
 |[],_::_,_,_,_,_,_,_,_,_,h,_,_,_,_=>h.elim
 |.CY _::_,[],_,_,_,_,_,_,_,_,h,_,_,_,_=>h.elim
 |.call _ _::_,[],_,_,_,_,_,_,_,_,h,_,_,_,_=>h.elim
def zM(P:Program)(e:Env)(σ:St)(r:ResultVar):Option IV:=
 match r with
 |.tmp t=>some (e.at t)
 |.cell a t=>match e.at a with
  |.ptr id off ep ext=>match aI P t,σ.at id with
   |some s,some (.cells cs ar mn)=>if s≤ext∧mn≤ep∧ep≤ar then partOf P t cs off else none
   |_,_=>none
  |_=>none
def Jh(ts:Array Value)(r:ResultVar):Sem Value:=
 match r with
 |.tmp t=>pure (ts.getD t asQ)
 |.cell a t=>do loadVar t (←asAddr (ts.getD a asQ))
theorem aeW{ts:Array Value}{r:ResultVar}{v:IV}(h:zM P e σ r=some v)(hi:Inv N ι σ w)(he:cM ι e ts):∃u,(Jh ts r).run P w=.ok u w∧Rv ι v u:=by
 unfold zM at h;unfold Jh;cases r with
 |tmp t=>cases h;exact⟨_,by simp only[asj],he.2 t⟩
 |cell a t=>
  simp only at h⊢;have hr:=he.2 a;split at h
  ·rename_i id off ep ext hx;rw[hx]at hr;split at h
   ·rename_i s cs ar mn hs az;split at h
    ·rename_i hc;obtain⟨ad,x,hu,h1,h2⟩:=C0 hi hs az hc.1 hc.2.1 hc.2.2 h hr;refine⟨x,?_,h2⟩;rw[hu];simp only[asAddr,asa,asj,ar8,h1]
    ·cases h
   ·cases h
  ·cases h
theorem RF{ts:Array Value}(hi:Inv N ι σ w)(he:cM ι e ts):∀{rs:List ResultVar} {vs:List IV},rs.mapM (zM P e σ)=some vs→∃us,(rs.mapM (Jh ts)).run P w=.ok us w∧ax ι vs us
 |[],vs,h=>by
  simp only[av6]at h;cases h;exact⟨[],by simp only[av6,asj],ax.nil⟩
 |r::rs,vs,h=>by
  rw[at7]at h;cases h1:zM P e σ r with
  |none=>rw[h1]at h;cases h
  |some v=>
   rw[h1]at h;cases h2:rs.mapM (zM P e σ)with
   |none=>rw[h2]at h;cases h
   |some vZ=>
    rw[h2]at h;cases h;obtain⟨u,k1,k2⟩:=aeW h1 hi he;obtain⟨us,k3,k4⟩:=RF hi he h2;exact⟨u::us,by simp only[at7,asa,k1,ar8,k3,asj],ax.cons k2 k4⟩
theorem Ud(fn:Func)(ts:Array Value):results fn ts=(do
 let vs←fn.results.mapM (Jh ts)
 pure (if h:vs.size=1 then vs[0]else .tuple vs)):=by
 unfold results
 have:(fun r:ResultVar=>(match r with|.tmp t=>pure (ts.getD t asQ)|.cell a t=>do loadVar t (←asAddr (ts.getD a asQ)):Sem Value))=Jh ts:=by
  funext r;cases r<;>rfl
 rw[←this];rfl
theorem Q4{fn:Func}{v:IV}(h:bt P fn e σ=some v):∃vs,fn.results.toList.mapM (zM P e σ)=some vs∧((∃x,vs=[x]∧v=x)∨(vs.length≠1∧v=.av vs)):=by
 unfold bt at h;dsimp only at h
 change(match fn.results.toList with
  |[r]=>zM P e σ r
  |l=>match l.mapM (zM P e σ)with
   |some vs=>some (.av vs)
   |none=>none)=some v at h
 split at h
 ·rename_i r hl;exact⟨[v],by rw[hl,at7,h];rfl,.inl ⟨v,rfl,rfl⟩⟩
 ·rename_i hl;split at h
  ·rename_i vs gK;cases h;refine⟨vs,gK,.inr ⟨fun hlen=>?_,rfl⟩⟩
   have tR:fn.results.toList.length=vs.length:=by
    clear hl hlen;generalize fn.results.toList=l at gK;induction l generalizing vs with
    |nil=>cases gK;rfl
    |cons r rs ih=>
     rw[at7]at gK;cases h1:zM P e σ r with
     |none=>rw[h1]at gK;cases gK
     |some v=>
      rw[h1]at gK;cases h2:rs.mapM (zM P e σ)with
      |none=>rw[h2]at gK;cases gK
      |some vZ=>
       rw[h2]at gK;cases gK;simp[ih _ h2]
   cases hc:fn.results.toList with
   |nil=>rw[hc]at tR;simp at tR;omega
   |cons r rs=>
    cases rs with
    |nil=>exact hl r hc
    |cons r2 rs2=>rw[hc]at tR;simp at tR;omega
  ·cases h
theorem pK{fn:Func}{ts:Array Value}{v:IV}(h:bt P fn e σ=some v)(hi:Inv N ι σ w)(he:cM ι e ts):∃u,(results fn ts).run P w=.ok u w∧Rv ι v u:=by
 obtain⟨vs,gK,h⟩:=Q4 h;obtain⟨us,h1,h2⟩:=RF hi he gK
 have hm:(fn.results.mapM (Jh ts)).run P w=.ok us.toArray w:=by
  rw[Array.mapM_eq_mapM_toList,Sem.run_map,h1];rfl
 rw[Ud];simp only[asa,hm,ar8,asj];refine⟨_,rfl,?_⟩;rcases h with⟨x,rfl,rfl⟩|⟨hlen,rfl⟩
 ·obtain⟨u,rfl,hu⟩:=uc h2;simpa using hu
 ·have:¬us.toArray.size=1:=by rw[List.size_toArray,←h2.1];exact hlen
  rw[dif_neg this];exact pJ h2
theorem Nq:∀{args:List IV} {us:List Value} {k:Nat} {e:Env} {ts:Array Value},cM ι e ts→ax ι args us→
 cM ι ((args.zipIdx k).foldl (fun e (v,i)=>e.put (some i) v) e) ((us.zipIdx k).foldl (fun ts (u,i)=>ts.setIfInBounds i u) ts)
 |[],us,k,e,ts,h,hr=>by rw[hr.of_nil];exact h
 |v::args,us,k,e,ts,h,hr=>by
  obtain⟨u,oU,rfl,h1,h2⟩:=hr.sj;simp only[avz,asI];exact Nq (h.set h1 k) h2
theorem HA:∀(us:List Value) (k:Nat) (ts:Array Value),k+us.length≤ts.size→(us.zipIdx k).foldl (fun ts (u,i)=>ts.setIfInBounds i u) ts=(ts.toList.take k++us++ts.toList.drop (k+us.length)).toArray
 |[],k,ts,_=>by simp
 |u::us,k,ts,h=>by
  simp only[avz,asI];simp only[asS]at h;rw[HA us (k+1) _ (by simp;omega)]
  congr 1
  simp only[Array.toList_setIfInBounds,asS]
  have h1:(ts.toList.set k u).take (k+1)=ts.toList.take k++[u]:=by
   have hk:k<ts.toList.length:=by simp;omega
   rw[List.take_add_one,List.getElem?_set_self hk];simp[List.take_set_of_le]
  have h2:(ts.toList.set k u).drop (k+1+us.length)=ts.toList.drop (k+(us.length+1)):=by
   rw[List.drop_set_of_lt (by omega)]
   congr 1
   omega
  rw[h1,h2];simp
theorem adu(n:Nat):cM ι ⟨n,.lf⟩ (atr n asQ):=by
 refine⟨by simp,fun t=>?_⟩
 have:(atr n asQ).getD t asQ=asQ:=by
  rw[Array.getD_eq_getD_getElem?,Array.getElem?_replicate];split<;>rfl
 rw[this];exact .raw _
theorem ud{args:List IV}{us:List Value}{n:Nat}(hr:ax ι args us)(hn:args.length≤n):
 cM ι (args.zipIdx.foldl (fun e (v,i)=>e.put (some i) v) ⟨n,.lf⟩) (us.toArray++atr (n- us.toArray.size) asQ):=by
 have h:=Nq (k:=0) (adu (ι:=ι) n) hr;have hl:=hr.1;rw[HA us 0 _ (by simp;omega)]at h
 have:(us.toArray++atr (n- us.toArray.size) asQ)=((atr n asQ).toList.take 0++us++(atr n asQ).toList.drop (0+us.length)).toArray:=by
  simp
 rw[this];exact h
theorem RG(hS:gM P S m)(hC:dL P S)(hm:bQ S)(hk:br S){f:FuncId}{args:List IV}{WB:Func}{e':Env}{mo:Option IV}{ah:St}{us:List Value}{R:Ending→World→Prop}
 (h:Ad P S ro f args σ=some (WB,e',mo,ah))(hN:ah.n≤N)(hi:Inv N ι σ w)(hr:ax ι args us)
 (hQ:∀ts w' ay u',Inv N ay ah w'→Le ro ι w σ ay w' ah→cM ay e' ts→l_ ay mo u'→LeavesIn asz 0 P WB ts R [] u' w'):CallsIn asz 0 P f us.toArray w R:=by
 unfold Ad at h;split at h
 ·rename_i fn bA;split at h
  ·rename_i c hb;split at h
   ·cases h
   ·rename_i hlen;simp only at h
    have key:∀{ex:Ex} {e1:Env} {df:List Df} {ai:St} {mi:Option IV},S.code ro none f c (args.zipIdx.foldl (fun e (v,i)=>e.put (some i) v) ⟨fn.ntmps,.lf⟩) [] σ=some ⟨ex,e1,df,ai⟩→
     (((ex=.normal∨ex=.ret)∧mi=none)∨∃v,ex=.bC v∧mi=some v)→
     (match eM S ro df mi ai with
      |some (m,σ)=>some (fn,e1,m,σ)
      |none=>none)=some (WB,e',mo,ah)→CallsIn asz 0 P f us.toArray w R:=by
     intro ex e1 df ai mi h1 hex h;split at h
     ·rename_i m2 c7 h2;obtain⟨rfl,rfl,rfl,rfl⟩:fn=WB∧e1=e'∧m2=mo∧c7=ah:=by cases h;exact⟨rfl,rfl,rfl,rfl⟩
      clear h;have mN:=fY hk h2;have cX:ai.n≤N:=by omega
      refine callsIn_of_wp_marks bA hb trivial ?_;refine(hS N ro none f c _ [] σ _ h1 cX asz ι {tmps:=us.toArray++atr (fn.ntmps- us.toArray.size) asQ,defers:=[]} w _ (.inl ⟨rfl,rfl⟩) hi (ud hr (by omega)) trivial ?_).wp;intro a1 w1 bN dU i1 l1 cg d1 p1
      have:∀u,l_ bN mi u→LeavesInM asz 0 P fn a1.tmps R a1.defers u w1:=fun u hu=>
       oY hC hk h2 d1 hu i1 hN fun w2 mL u2 i2 l2 qF=>hQ a1.tmps w2 mL u2 i2 (Le.then hi cX l1 l2) (cg.mono l2.ext) qF
      rcases hex with⟨rfl|rfl,rfl⟩|⟨v,rfl,rfl⟩
      ·exact this _ rfl
      ·exact this _ rfl
      ·obtain⟨u,rfl,hu⟩:=p1;exact this _ ⟨u,rfl,hu⟩
     ·cases h
    split at h
    ·rename_i h1;exact key h1 (.inl ⟨.inl rfl,rfl⟩) h
    ·rename_i h1;exact key h1 (.inl ⟨.inr rfl,rfl⟩) h
    ·rename_i h1;exact key h1 (.inr ⟨_,rfl,rfl⟩) h
    ·cases h
  ·cases h
 ·cases h
def qU(ι:Io):Option IV→FrameMode→Prop
 |none,u=>u=.returning∨∃x,u=.panicking [{v:=x,recovered:=true}]
 |some v,u=>∃x,u=.panicking [{v:=x,recovered:=false}]∧Rv ι v x
theorem qU.of{m:Option IV}{u:FrameMode}(h:l_ ι m u):qU ι m u:=by
 cases m with
 |none=>exact .inl h
 |some v=>exact h
theorem qU.mono{ay:Io}(gD:Ext ι ay){m:Option IV}{u:FrameMode}(h:qU ι m u):qU ay m u:=by
 cases m with
 |none=>exact h
 |some v=>obtain⟨x,h1,h2⟩:=h;exact⟨x,h1,h2.mono gD⟩
theorem qU.settle{m:Option IV}{u:FrameMode}(h:qU ι m u):l_ ι m (Go.settle u):=by
 cases m with
 |none=>
  rcases h with rfl|⟨x,rfl⟩
  ·rfl
  ·rfl
 |some v=>obtain⟨x,rfl,h2⟩:=h;exact⟨x,rfl,h2⟩
def Ml(N ro:Nat)(ι:Io)(w:World)(σ:St)(cr:CR)(m:Option IV)(c0:Frame)(p6:List Frame)(Q:Exit→Act→List Frame→World→Prop):Prop:=
 ∀a' w' ay u' ch,Inv N ay cr.σ w'→Le ro ι w σ ay w' cr.σ→cM ay cr.e a'.tmps→jC ay cr.df a'.defers→Ub ay ch cr.ex→qU ay m u'→Q (Dd ch cr.ex) a' ({c0 with mode:=u'}::p6) w'
theorem w_{ops:Array Oper}{Q:Exit→Act→List Frame→World→Prop}{c0:Frame}{p6:List Frame}:∀{l:List Oper} {k:Nat} {e:Env} {σ:St} {e':Env} {mo nJ:Option IV} {ah:St} {ι:Io} {a:Act} {u:FrameMode} {w:World},
 ops.toList.drop k=l→nE P ro ops l e mo σ=some (e',nJ,ah)→ah.n≤N→Inv N ι σ w→cM ι e a.tmps→a.defers=[]→qU ι mo u→Ml N ro ι w σ ⟨.normal,e',[],ah⟩ nJ c0 p6 Q→
 wpOpsSIn asz 0 P ops Q (auv k l.length) a ({c0 with mode:=u}::p6) w
 |[],k,e,σ,e',mo,nJ,ah,ι,a,u,w,hl,h,hN,hi,he,hd,hu,hQ=>by
  cases h;exact hQ a w ι u [] hi (Le.refl _ _ _ _) he (by rw[hd];trivial) trivial hu
 |o::rest,k,e,σ,e',mo,nJ,ah,ι,a,u,w,hl,h,hN,hi,he,hd,hu,hQ=>by
  have fw:ops.toList.drop (k+1)=rest:=by
   rw[←ate (i:=1) (j:=k),hl];rfl
  have bf:ops[k]?=some o:=by
   have:(ops.toList.drop k)[0]?=some o:=by rw[hl];rfl
   simpa using this
  simp only[asS,au6];unfold wpOpsSIn;rw[bf];simp only;refine⟨fun f _=>trivial,?_⟩;have Gg:∀v,(a.put o.dst v).defers=[]:=fun v=>by cases o.dst<;>exact hd
  unfold nE at h;rw[oX he];split at h
  ·rename_i hw;rw[if_pos hw];split at h
   ·rename_i Bf
    have hex:(execOp a.eval o).run P w=.ok .recover w:=by
     unfold mK at Bf;split at Bf
     ·rename_i fT;simp only[execOp,fT,resolve,asa,asj,ar8,invoke,builtin]
     ·cases Bf
    rw[hex];simp only;split at h
    ·rename_i v;obtain⟨x,rfl,hx⟩:=hu;simp only[recoverD];exact w_ fw h hN hi (he.put hx _) (Gg _) (.inr ⟨x,rfl⟩) hQ
    ·have jI:recoverD ({c0 with mode:=u}::p6)=none:=by
      rcases hu with rfl|⟨x,rfl⟩<;>rfl
     rw[jI];simp only;exact w_ fw h hN hi (he.put (.raw _) _) (Gg _) hu hQ
   ·split at h
    ·rename_i v ai h1;have cX:ai.n≤N:=asr (rS h) hN;obtain⟨u1,w1,bN,hr,h2,h3,h4⟩:=lr hi he.eval h1 cX;have hQ':Ml N ro bN w1 ai ⟨.normal,e',[],ah⟩ nJ c0 p6 Q:=fun a' w' ay u' ch g1 g2 g3 g4 g5 g6=>hQ a' w' ay u' ch g1 (Le.then hi cX h4 g2) g3 g4 g5 g6;rcases hr with hr|⟨hr,rfl⟩
     ·rw[hr];simp only;exact w_ fw h hN h3 ((he.mono h4.ext).put h2 _) (Gg _) (hu.mono h4.ext) hQ'
     ·rw[hr];simp only;exact w_ fw h hN h3 ((he.mono h4.ext).put h2 _) (Gg _) (hu.mono h4.ext) hQ'
    ·cases h
  ·rename_i hw;rw[if_neg hw];exact w_ fw h hN hi (he.put oW _) (Gg _) hu hQ
theorem anr(hS:gM P S m)(hm:bQ S){fn:FuncId}{c0:Frame}{p6:List Frame}:∀{c:Code} {Q:Exit→Act→List Frame→World→Prop} {e:Env} {mo nJ:Option IV} {σ:St} {cr:CR} {ι:Io} {a:Act} {u:FrameMode} {w:World},
 yA P S ro fn c e mo σ=some (cr,nJ)→cr.σ.n≤N→Inv N ι σ w→cM ι e a.tmps→a.defers=[]→qU ι mo u→Ml N ro ι w σ cr nJ c0 p6 Q→c.wpSIn asz 0 P Q a ({c0 with mode:=u}::p6) w:=by
 intro c
 have other:∀{c:Code} {Q:Exit→Act→List Frame→World→Prop} {e:Env} {mo nJ:Option IV} {σ:St} {cr:CR} {ι:Io} {a:Act} {u:FrameMode} {w:World},(match S.code ro none fn c e [] σ with|some r=>some (r,mo)|none=>none)=some (cr,nJ)→
  cr.σ.n≤N→Inv N ι σ w→cM ι e a.tmps→a.defers=[]→qU ι mo u→Ml N ro ι w σ cr nJ c0 p6 Q→c.wpSIn asz 0 P Q a ({c0 with mode:=u}::p6) w:=by
  intro c Q e mo nJ σ cr ι a u w h hN hi he hd hu hQ;split at h
  ·rename_i h1;cases h;refine wpSIn_of_wpIn rfl ?_;refine(hS N ro none fn c e [] σ _ h1 hN asz ι a w _ (.inl ⟨rfl,rfl⟩) hi he (by rw[hd];trivial) ?_).wp;intro a1 w1 bN dU i1 l1 e1 d1 p1;exact hQ a1 w1 bN u dU i1 l1 e1 d1 p1 (hu.mono l1.ext)
  ·cases h
 induction c with
 |seq x y ihx ihy=>
  intro Q e mo nJ σ cr ι a u w h hN hi he hd hu hQ;unfold yA at h;refine wpSIn_seq ?_;split at h
  ·rename_i e1 ai m1 h1;have cX:ai.n≤N:=asr (Ge hm h) hN;refine ihx h1 cX hi he hd hu ?_;intro a1 w1 bN u1 dU i1 l1 cg d1 p1 Cy;exact ihy h hN i1 cg d1.nil Cy fun a' w' ay u' ch g1 g2 g3 g4 g5 g6=>hQ a' w' ay u' ch g1 (Le.then hi cX l1 g2) g3 g4 g5 g6
  ·cases h
  ·rename_i arO ans;refine ihx h hN hi he hd hu ?_;intro a1 w1 bN u1 dU i1 l1 cg d1 p1 Cy;have:=hQ a1 w1 bN u1 dU i1 l1 cg d1 p1 Cy;cases hx:cr.ex with
   |normal=>exact absurd (by rw[h];cases cr;cases hx;rfl) (ans cr.e cr.df cr.σ nJ)
   |exit id=>rw[hx]at this;exact this
   |goto l=>rw[hx]at this;exact this
   |ret=>rw[hx]at this;exact this
   |bC v=>rw[hx]at this;exact this
 |region id ops draw=>
  intro Q e mo nJ σ cr ι a u w h hN hi he hd hu hQ;unfold yA at h;split at h
  ·rename_i hc
   have Hv:draw=false:=by
    cases draw with
    |false=>rfl
    |true=>simp at hc
   subst Hv;split at h
   ·rename_i h1;cases h;refine wpSIn_region ?_;have:=w_ (k:=0) (by simp) h1 hN hi he hd hu hQ;rw[awh];simpa using this
   ·cases h
  ·exact other h hN hi he hd hu hQ
 |_=>
  intro Q e mo nJ σ cr ι a u w h hN hi he hd hu hQ;unfold yA at h;exact other h hN hi he hd hu hQ
theorem aeX(hS:gM P S m)(hm:bQ S){f:FuncId}{args:List IV}{mo nJ:Option IV}{ah:St}(h:A6 P S ro f args mo σ=some (nJ,ah))(hN:ah.n≤N){us:List Value}{u:FrameMode}(hu:l_ ι mo u)(hi:Inv N ι σ w)(hr:ax ι args us):
 CallsDIn asz 0 P f us.toArray u w (Hy N ro ι w σ nJ ah):=by
 unfold A6 at h;split at h
 ·rename_i fn bA;split at h
  ·cases h
  split at h
  ·rename_i c hb;split at h
   ·cases h
   ·rename_i hlen;simp only at h
    have key:∀{ex:Ex} {e1:Env} {ai:St} {m1:Option IV},yA P S ro f c (args.zipIdx.foldl (fun e (v,i)=>e.put (some i) v) ⟨fn.ntmps,.lf⟩) mo σ=some (⟨ex,e1,[],ai⟩,m1)→(ex=.normal∨ex=.ret)→
     (match bt P fn e1 ai with
      |some _=>some (m1,ai)
      |none=>none)=some (nJ,ah)→CallsDIn asz 0 P f us.toArray u w (Hy N ro ι w σ nJ ah):=by
     intro ex e1 ai m1 h1 hex h;split at h
     ·rename_i v hv;cases h;refine callsDIn_of_wpSIn bA hb trivial fun c0 cs tN=>?_;have bw:c0={c0 with mode:=u}:=by rw[←tN]
      have:=anr hS hm (c0:=c0) (p6:=cs) (Q:=bodyPostS P fn c0 cs (Hy N ro ι w σ nJ ah)) (a:={tmps:=us.toArray++atr (fn.ntmps- us.toArray.size) asQ,defers:=[]}) h1 hN hi (ud hr (by omega)) rfl (qU.of hu) ?_
      ·rw[←bw]at this;exact this
      ·intro a1 w1 bN u1 dU i1 l1 cg d1 p1 Cy;obtain⟨x,k1,k2⟩:=pK hv i1 cg;have:bodyPostS P fn c0 cs (Hy N ro ι w σ nJ ah) .ret a1 ({c0 with mode:=u1}::cs) w1:=⟨d1.nil,u1,rfl,x,k1,bN,Cy.settle,i1,l1⟩;rcases hex with rfl|rfl<;>exact this
     ·cases h
    split at h
    ·rename_i h1;exact key h1 (.inl rfl) h
    ·rename_i h1;exact key h1 (.inr rfl) h
    ·cases h
  ·cases h
 ·cases h
theorem Ji(hS:gM P S m)(hC:dL P S)(hm:bQ S)(hk:br S):dL P (lk P S) where
 call:=by
  intro N ro f args σ v ah h hN ι us w hi hr;simp only[lk,MS]at h;split at h
  ·rename_i WB e1 ai h1;split at h
   ·rename_i v' h2;cases h;refine RG hS hC hm hk h1 hN hi hr fun ts w' ay u' i1 l1 cg hu=>?_;rw[show u'=_ from hu];obtain⟨u,k1,k2⟩:=pK h2 i1 cg;exact⟨u,k1,ay,k2,i1,l1⟩
   ·cases h
  ·cases h
 bC:=by
  intro N ro f args σ v ah h hN ι us w hi hr;simp only[lk,TS]at h;split at h
  ·rename_i h1;cases h;refine RG hS hC hm hk h1 hN hi hr fun ts w' ay u' i1 l1 cg hu=>?_;obtain⟨x,rfl,hx⟩:=hu;exact⟨ay,⟨x,rfl,hx⟩,i1,l1⟩
  ·cases h
 vY:=by
  intro N ro f args mo σ nJ ah h hN ι us u w hu hi hr;exact aeX hS hm h hN hu hi hr
 my:=by
  intro ro f args mo σ nJ ah h;simp only[lk,A6]at h;split at h
  ·rename_i fn bA;split at h
   ·cases h
   ·rename_i Dh;exact⟨fn,bA,by simpa only[asN,Bool.not_eq_false]using Dh⟩
  ·cases h
theorem abL(hD:∀m S,gM P S m→dL P S→bQ S→br S→Nk P S):∀n,gM P (ev P n) n∧dL P (ev P n)∧bQ (ev P n)∧br (ev P n)
 |0=>by
  refine⟨?_,⟨?_,?_,?_,?_⟩,?_,⟨?_,?_,?_⟩⟩
  ·intro N ro rd fn c e df σ cr h;cases h
  ·intro N ro f args σ v ah h;cases h
  ·intro N ro f args σ v ah h;cases h
  ·intro N ro f args m σ m' ah h;cases h
  ·intro ro f args m σ m' ah h;cases h
  ·intro ro rd fn c e df σ cr h;cases h
  ·intro ro f args σ v ah h;cases h
  ·intro ro f args σ v ah h;cases h
  ·intro ro f args m σ m' ah h;cases h
 |n+1=>by
  obtain⟨h1,h2,h3,h4⟩:=abL hD n;exact⟨RD h1 h2 h3 h4 (hD n _ h1 h2 h3 h4),Ji h1 h2 h3 h4,Kt h3 h4,Dc h3 h4⟩
end Go.Ev
namespace Go.Ev
variable{P:Program}{N ro m:Nat}{ι:Io}{w:World}{σ:St}{e:Env}{a:Act}{S:Self}{F:Fence}{rd:Option Nat}{Q:Exit→Act→World→Prop}
theorem pL{ρ Am:Operand→IV}{o:Oper}(h:∀x∈o.op.operands,ρ x=Am x):ak P ro ρ o σ=ak P ro Am o σ:=by
 obtain⟨dst,op,type,pos,after,guard⟩:=o
 have abM:∀ps:Array (Nat×Operand),(∀x∈(ps.toList.map (·.2)),ρ x=Am x)→(ps.toList.map fun(i,x)=>(i,ρ x))=(ps.toList.map fun(i,x)=>(i,Am x)):=fun ps hp=>
  aud fun p hm=>by
   obtain⟨i,x⟩:=p;simp only[hp x (List.mem_map.2 ⟨(i,x),hm,rfl⟩)]
 cases op<;>simp only[Op.operands]at h<;>unfold ak<;>dsimp only
 case move x=>rw[h x (by simp)]
 case assign x=>rw[h x (by simp)]
 case pick c x y=>rw[h c (by simp),h x (by simp),h y (by simp)]
 case box t x=>rw[h x (by simp)]
 case build t ps=>rw[abM ps fun x hx=>h x (by simpa using hx)]
 case buildSlice t n ps=>rw[abM ps fun x hx=>h x (by simpa using hx)]
 case load t x=>rw[h x (by simp)]
 case store t x y=>rw[h x (by simp),h y (by simp)]
 case nilCheck x=>rw[h x (by simp)]
 case binOp op t x y yT=>rw[h x (by simp),h y (by simp)]
 case unOp op t x=>rw[h x (by simp)]
 case convert s d x=>rw[h x (by simp)]
 case makeInterface t x=>rw[h x (by simp)]
 case makeFunc fn first captured=>
  rw[aud (l:=first.toList) fun x hx=>h x (by simp at hx;simp[hx]),aud (l:=captured.toList) fun x hx=>h x (by simp at hx;simp[hx])]
 case makeMap t r=>cases r with|none=>rfl|some x=>dsimp only;rw[h x (by simp)]
 case makeSlice t x y=>rw[h x (by simp),h y (by simp)]
 case slice t x lo hi mx=>
  have e1:lo.map ρ=lo.map Am:=by cases lo with|none=>rfl|some y=>simp only[asC,h y (by simp)]
  have e2:hi.map ρ=hi.map Am:=by cases hi with|none=>rfl|some y=>simp only[asC,h y (by simp)]
  have e3:mx.map ρ=mx.map Am:=by cases mx with|none=>rfl|some y=>simp only[asC,h y (by simp)]
  rw[h x (by simp),e1,e2,e3]
 case fieldAddr t x f=>rw[h x (by simp)]
 case field t x f=>rw[h x (by simp)]
 case indexAddr t x y=>rw[h x (by simp),h y (by simp)]
 case index t x y=>rw[h x (by simp),h y (by simp)]
 case lookup t x y ok=>rw[h x (by simp),h y (by simp)]
 case mapUpdate t x y z=>rw[h x (by simp),h y (by simp),h z (by simp)]
 case insert t x y z=>rw[h x (by simp),h y (by simp),h z (by simp)]
 case mapEntry t x y=>rw[h x (by simp),h y (by simp)]
 case entryStore t x y z=>rw[h x (by simp),h y (by simp),h z (by simp)]
 case range t x=>rw[h x (by simp)]
 case next x s=>rw[h x (by simp)]
 case entry x=>rw[h x (by simp)]
 case extract x i=>rw[h x (by simp)]
 case typeAssert x xt t ok=>rw[h x (by simp)]
 case panic x=>rw[h x (by simp)]
 case call c=>
  have ha:c.args.toList.map ρ=c.args.toList.map Am:=aud fun x hx=>h x (by simp[auT];right;simpa using hx);rw[ha];cases hc:c.callee with
  |value f=>dsimp only;rw[h f (by simp[auT,hc])]
  |invoke r m=>dsimp only;rw[h r (by simp[auT,hc])]
  |builtin b=>rfl
 case defer c=>
  have ha:c.args.toList.map ρ=c.args.toList.map Am:=aud fun x hx=>h x (by simp[auT];right;simpa using hx);rw[ha];cases hc:c.callee with
  |value f=>dsimp only;rw[h f (by simp[auT,hc])]
  |invoke r m=>rfl
  |builtin b=>rfl
structure Gn(Fr:Nat→Prop)(ι:Io)(cur:Nat→Option Ob)(w:World):Prop where
 mem:∀b c,ι.m b=some c→∃e f,w.heap[b]?=some (.cells c e f)
 sep:∀b c id,ι.m b=some c→¬Own ι id b
 jA:∀id b,Own ι id b→b<w.heap.size
 inj:∀i j b,Own ι i b→Own ι j b→i=j
 fresh:∀id,Fr id→∀e,ι id e=none
 obj:∀id o,cur id=some o→j9 ι w id o
theorem Gn.inv{Fr:Nat→Prop}{cur:Nat→Option Ob}(h:Gn Fr ι cur w)(sub:∀id o,σ.at id=some o→cur id=some o)(fr:∀id,σ.n≤id→id<N→Fr id)(wf:∀id,σ.n≤id→σ.at id=none):Inv N ι σ w:=
 ⟨h.mem,h.sep,h.jA,fun id h1 h2=>h.fresh id (fr id h1 h2),h.inj,fun id o ho=>h.obj id o (sub id o ho),wf⟩
theorem Ue{id:Nat}{o:Ob}(h:j9 ι w id o):∃e l,ι id e=some l:=by
 cases o with
 |cells cs ep mn=>obtain⟨_,⟨l,hl,_⟩,_⟩:=h;exact⟨_,l,hl⟩
 |map es c=>obtain⟨l,_,hl,_⟩:=h;exact⟨_,l,hl⟩
 |pG s p=>obtain⟨l,hl,_⟩:=h;exact⟨_,l,hl⟩
 |jg a b c d=>obtain⟨l,_,hl,_⟩:=h;exact⟨_,l,hl⟩
 |loop a b c d e f g h' i=>obtain⟨l,_,_,_,hl,_⟩:=h;exact⟨_,l,hl⟩
 |Fw t=>obtain⟨l,hl,_⟩:=h;exact⟨_,l,hl⟩
def yK(cur:Nat→Option Ob)(σ ah:St)(id:Nat):Option Ob:=if(σ.at id).isSome∨(σ.n≤id∧id<ah.n)then ah.at id else cur id
structure yL(ro nk:Nat)(gj:Io)(w0:World)(dY:St)(Fr:Nat→Prop)(ι:Io)(cur:Nat→Option Ob)(w:World):Prop extends Gn Fr ι cur w where
 ext:Ext gj ι
 xq:∀b c,ι.m b=some c→gj.m b=some c∨w0.heap.size≤b
 own:∀id b,Own ι id b→Own gj id b∨w0.heap.size≤b
 Ae:∀id,dY.at id=none→(id<dY.n∨nk≤id)→∀e,ι id e=gj id e
 dead:∀id,dY.at id=none→(id<dY.n∨nk≤id)→cur id=none
 vK:∀id,id<ro→id<dY.n→cur id=dY.at id
 os:w.os=w0.os
 tape:w.tape=w0.tape
 output:w.output=w0.output
 size:w0.heap.size≤w.heap.size
 frame:∀b,b<w0.heap.size→(∀id,Own gj id b→id<ro∨dY.at id=none)→w.heap[b]?=w0.heap[b]?
theorem yL.start{nk:Nat}(h:Inv N ι σ w)(hnk:nk≤N):yL ro nk ι w σ (fun id=>σ.n≤id∧id<N) ι σ.at w:=
 {mem:=h.mem,sep:=h.sep,jA:=h.jA,inj:=h.inj,fresh:=fun id hid=>h.fresh id hid.1 hid.2,obj:=h.obj,ext:=Ext.refl _,xq:=fun _ _ h=>.inl h,own:=fun _ _ h=>.inl h,
  Ae:=fun _ _ _ _=>rfl,dead:=fun _ h _=>h,vK:=fun _ _ _=>rfl,os:=rfl,tape:=rfl,output:=rfl,size:=ar9 _,frame:=fun _ _ _=>rfl}
theorem yL.step{nk N' fO:Nat}{gj ay:Io}{w0 w':World}{dY ah:St}{Fr:Nat→Prop}{cur:Nat→Option Ob}(h:yL ro nk gj w0 dY Fr ι cur w)(Nr:∀id,dY.n≤id→id<nk→∀e,gj id e=none)
 (sub:∀id o,σ.at id=some o→cur id=some o)(rng:∀id,σ.n≤id→id<ah.n→dY.n≤id∧id<nk)(cy:∀id,id<ro→(σ.at id).isSome=true→id<fO)(wf:∀id,σ.n≤id→σ.at id=none)
 (hi:Inv N' ay ah w')(hl:Le fO ι w σ ay w' ah):yL ro nk gj w0 dY (fun id=>Fr id∧¬(σ.n≤id∧id<ah.n)) ay (yK cur σ ah) w':=by
 have RH:∀id,cur id=none→σ.at id=none:=fun id hc=>by
  cases hs:σ.at id with
  |none=>rfl
  |some o=>rw[sub id o hs]at hc;cases hc
 have out:∀id,¬(σ.n≤id∧id<ah.n)→id<σ.n∨ah.n≤id:=fun id hn=>by omega
 have Di:∀id,(id<dY.n∨nk≤id)→¬(σ.n≤id∧id<ah.n):=fun id hh hn=>by have:=rng id hn.1 hn.2;omega
 exact{
  mem:=hi.mem,sep:=hi.sep,jA:=hi.jA,inj:=hi.inj
  fresh:=fun id hid e=>by
   have hn:σ.at id=none:=by
    cases hs:σ.at id with
    |none=>rfl
    |some o=>
     obtain⟨e',l,cd⟩:=Ue (h.obj id o (sub id o hs));rw[h.fresh id hid.1 e']at cd;cases cd
   rw[hl.Ae id hn (out id hid.2) e,h.fresh id hid.1 e]
  obj:=fun id o ho=>by
   unfold yK at ho;split at ho
   ·exact hi.obj id o ho
   ·rename_i hc
    have hn:σ.at id=none:=by
     cases hs:σ.at id with
     |none=>rfl
     |some o=>exact absurd (.inl (by rw[hs];rfl)) hc
    have hr:¬(σ.n≤id∧id<ah.n):=fun hx=>hc (.inr hx);refine(h.obj id o ho).keep hl.ext (fun e=>hl.Ae id hn (out id hr) e) fun b hb=>?_;refine hl.frame b (h.jA id b hb) fun bp iv=>.inr ?_;rw[h.inj bp id b iv hb];exact hn
  ext:=h.ext.trans hl.ext
  xq:=fun b c hb=>(hl.xq b c hb).elim (fun hb=>h.xq b c hb) (fun hb=>.inr (asr h.size hb))
  own:=fun id b hb=>(hl.own id b hb).elim (fun hb=>h.own id b hb) (fun hb=>.inr (asr h.size hb))
  Ae:=fun id hn hr e=>(hl.Ae id (RH id (h.dead id hn hr)) (out id (Di id hr)) e).trans (h.Ae id hn hr e)
  dead:=fun id hn hr=>by
   unfold yK;rw[if_neg]
   ·exact h.dead id hn hr
   ·rw[RH id (h.dead id hn hr)];intro hx;rcases hx with hx|hx
    ·cases hx
    ·exact Di id hr hx
  vK:=fun id hr hn=>by
   unfold yK;split
   ·rename_i hc;have hs:(σ.at id).isSome:=hc.resolve_right (Di id (.inl hn));obtain⟨o,ho⟩:=Option.isSome_iff_exists.1 hs;have aa:id<σ.n:=au7 fun hle=>by rw[wf id hle]at ho;cases ho
    rw[hl.vK id (cy id hr hs) aa,ho,←sub id o ho];exact h.vK id hr hn
   ·exact h.vK id hr hn
  os:=hl.os.trans h.os
  tape:=hl.tape.trans h.tape
  output:=hl.output.trans h.output
  size:=asr h.size hl.size
  frame:=fun b hb hc=>by
   rw[hl.frame b (Nat.lt_of_lt_of_le hb h.size) ?_,h.frame b hb hc];intro id hid;cases hs:σ.at id with
   |none=>exact .inr rfl
   |some o=>
    have aa:id<σ.n:=au7 fun hle=>by rw[wf id hle]at hs;cases hs
    rcases h.own id b hid with ho|ho
    ·rcases hc id ho with hr|hd
     ·exact .inl (cy id hr (by rw[hs];rfl))
     ·right
      have hr:id<dY.n∨nk≤id:=by
       by_cases h1:id<dY.n
       ·exact .inl h1
       ·by_cases h2:id<nk
        ·obtain⟨e,l,cd,_⟩:=ho;rw[Nr id (by omega) h2 e]at cd;cases cd
        ·exact .inr (by omega)
      have:=sub id o hs;rw[h.dead id hd hr]at this;cases this
    ·omega}
theorem yL.fr{nk:Nat}{gj:Io}{w0:World}{dY:St}{Fr Fr':Nat→Prop}{cur:Nat→Option Ob}(h:yL ro nk gj w0 dY Fr ι cur w)(hf:∀id,Fr' id→Fr id):yL ro nk gj w0 dY Fr' ι cur w:=
 {h with fresh:=fun id hid=>h.fresh id (hf id hid)}
theorem yL.fin{nk:Nat}{gj:Io}{w0:World}{dY:St}{Fr:Nat→Prop}{cur:Nat→Option Ob}{t:T Ob}(h:yL ro nk gj w0 dY Fr ι cur w)(hn:dY.n≤nk)(tK:∀id,nk≤id→id<N→Fr id)
 (sub:∀id o,t.get id=some o→cur id=some o)(wf:∀id,nk≤id→t.get id=none)(hp:∀id,id<ro→id<dY.n→t.get id=dY.at id):
 Inv N ι ⟨nk,t⟩ w∧Le ro gj w0 dY ι w ⟨nk,t⟩:=by
 refine⟨h.toGn.inv sub tK wf,h.ext,h.own,h.Ae,fun id hn hr=>?_,hp,hn,h.os,h.tape,h.output,h.size,h.frame,h.xq⟩;have:=h.dead id hn hr;cases hs:t.get id with
 |none=>exact hs
 |some o=>rw[sub id o hs]at this;cases this
end Go.Ev
namespace Go.Ev
variable{P:Program}{S:Self}{ro:Nat}{ops:Array Oper}{pl:dx}[Sm]
def iO(ops:Array Oper)(i:Nat):Option Tmp:=(ops[i]?).bind (·.dst)
def zN(ops:Array Oper)(i:Nat):List Nat:=(ops.toList.map (t_ ops)).getD i []
def aU(pl:dx)(i:Nat):Kind:=pl.kinds.getD i .effect
def iP(pl:dx)(j i:Nat):Prop:=ast (pl.bT.getD j 0) i=true
structure oZ(ops:Array Oper)(pl:dx):Prop where
 back:∀(j:Nat) (o:Oper),ops[j]?=some o→∀e∈o.after.toList,atV .any e=true→e.on<j
 Z2:∀j,j<ops.size→aU pl j=.load→∀t,iO ops j=some t→t∉zN ops j
 single:∀i j,i<j→j<ops.size→∀t,iO ops i=some t→iO ops j≠some t
 WC:∀i j,i<j→j<ops.size→aU pl i=.load→∀t,iO ops j=some t→t∉zN ops i
 free:∀i j,i<j→j<ops.size→¬iP pl j i→(∀t,iO ops i=some t→t∉zN ops j)∧(∀t,iO ops j=some t→t∉zN ops i)∧abJ (aU pl i) (aU pl j)=false
 bits:∀(j:Nat) (o:Oper),ops[j]?=some o→∀i,iP pl j i→∃e∈o.after.toList,atV .any e=true∧(e.on=i∨iP pl e.on i)
theorem sA{o:Oper}{l:List Nat}(h:writes o l=false):∀t,o.dst=some t→t∉l:=by
 intro t ht hm;unfold writes at h;rw[ht]at h;simp[hm]at h
theorem Kw{f:Edge→Nat}{c:Edge→Bool}{i:Nat}:∀(l:List Edge) (s:Nat),ast (l.foldl (fun s e=>if c e then av0 s (f e)else s) s) i=true→
 ast s i=true∨∃e∈l,c e=true∧ast (f e) i=true
 |[],s,h=>.inl h
 |e::l,s,h=>by
  simp only[asI]at h;rcases Kw l _ h with h|⟨e',j_,h1,h2⟩
  ·split at h
   ·rename_i hc;have:ast (s|||f e) i=true:=h;rw[aw_,asP]at this;rcases this with h|h
    ·exact .inl h
    ·exact .inr ⟨e,by simp,hc,h⟩
   ·exact .inl h
  ·exact .inr ⟨e',by simp[j_],h1,h2⟩
theorem WD{a i:Nat}(h:ast (avh 1 a) i=true):a=i:=by
 have h':ast (1<<<a) i=true:=h;rw[Nat.testBit_shiftLeft]at h';simp only[ar6,decide_eq_true_eq]at h';have h2:=h'.2
 have:i- a=0:=by
  cases hk:i- a with
  |zero=>rfl
  |succ n=>rw[hk]at h2;simp[Nat.testBit_succ]at h2
 omega
theorem Ns:∀(l:List Oper) (acc:List Nat),∃rest,l.foldl Et acc=acc++rest∧rest.length=l.length∧
 ∀(q:Nat) (o:Oper),l[q]?=some o→∀i,ast ((acc++rest).getD (acc.length+q) 0) i=true→
  ∃e∈o.after.toList,atV .any e=true∧(e.on=i∨ast ((acc++rest).getD e.on 0) i=true)
 |[],acc=>⟨[],by simp,rfl,fun q o h=>by simp at h⟩
 |o::l,acc=>by
  obtain⟨rest,h1,h2,h3⟩:=Ns l (Et acc o);obtain⟨x,hx⟩:∃x,Et acc o=acc++[x]:=⟨_,rfl⟩
  have p_:x=o.after.toList.foldl (fun s e=>if atV .any e then av0 s (av0 (avh 1 e.on) (acc.getD e.on 0))else s) 0:=by
   have:acc++[x]=acc++[o.after.toList.foldl (fun s e=>if atV .any e then av0 s (av0 (avh 1 e.on) (acc.getD e.on 0))else s) 0]:=hx▸rfl;simpa using this
  rw[hx]at h1 h3;refine⟨x::rest,by rw[asI,hx,h1];simp,by simp[h2],fun q o' hq i hi=>?_⟩;have lM:acc++x::rest=acc++[x]++rest:=by simp
  cases q with
  |zero=>
   simp only[List.getElem?_cons_zero,ar7]at hq;subst hq;have hg:(acc++x::rest).getD (acc.length+0) 0=x:=by simp
   rw[hg,p_]at hi;rcases Kw _ _ hi with hi|⟨e,he,hb,hi⟩
   ·simp at hi
   ·refine⟨e,he,hb,?_⟩;have cU:ast (avh 1 e.on|||acc.getD e.on 0) i=true:=hi;rw[aw_,asP]at cU;rcases cU with hi|hi
    ·exact .inl (WD hi)
    ·right;by_cases hl:e.on<acc.length
     ·have:(acc++x::rest).getD e.on 0=acc.getD e.on 0:=by
       rw[at5,at5,List.getElem?_append_left hl]
      rw[this];exact hi
     ·rw[at5,List.getElem?_eq_none (by omega)]at hi;simp at hi
  |succ q=>
   simp only[List.getElem?_cons_succ]at hq;rw[lM]at hi⊢
   have:=h3 q o' hq i (by
    have e1:(acc++[x]).length+q=acc.length+(q+1):=by simp;omega
    rw[e1];exact hi)
   exact this
theorem adv{ops:Array Oper}{j:Nat}{o:Oper}(ho:ops[j]?=some o){i:Nat}(h:ast ((MO ops).getD j 0) i=true):
 ∃e∈o.after.toList,atV .any e=true∧(e.on=i∨ast ((MO ops).getD e.on 0) i=true):=by
 obtain⟨rest,h1,_,h3⟩:=Ns ops.toList [];have hb:MO ops=rest:=by unfold MO;rw[h1];simp
 rw[hb]at h⊢;have:=h3 j o (by simpa using ho) i (by simpa using h);simpa using this
theorem aeY(h:(dp ops).ok=true):oZ ops (dp ops):=by
 have aT:∀(j:Nat) (o:Oper),ops[j]?=some o→(o.after.toList.all fun e=> !atV .any e||Nat.blt e.on j)=true∧(!(aU (dp ops) j==.load)|| !writes o (zN ops j))=true∧
  ∀(i:Nat) (p:Oper),ops[i]?=some p→i<j→Ac (dp ops).bT (dp ops).kinds (ops.toList.map (t_ ops)) p i o j=true:=by
  intro j o ho;have hm:(o,j)∈ops.toList.zipIdx:=atd.2 (by simpa using ho);unfold dp at h;dsimp only at h;rw[asl]at h;have:=h (o,j) hm;simp only[ar6]at this;obtain⟨⟨h1,h2⟩,h3⟩:=this;refine⟨h1,h2,fun i p hp qD=>?_⟩;rw[asl]at h3;have hm':(p,i)∈ops.toList.zipIdx:=atd.2 (by simpa using hp);have:=h3 (p,i) hm';have aa:Nat.blt i j=true:=by simpa using qD
  simp only[aa,au2,aun]at this;exact this
 have fT:∀{j:Nat},j<ops.size→∃o,ops[j]?=some o:=fun hj=>⟨ops[_],asy hj⟩;have fS:∀{j:Nat} {o:Oper},ops[j]?=some o→iO ops j=o.dst:=fun ho=>by unfold iO;rw[ho];rfl
 have pair:∀i j,i<j→j<ops.size→∃p o,ops[i]?=some p∧ops[j]?=some o∧Ac (dp ops).bT (dp ops).kinds (ops.toList.map (t_ ops)) p i o j=true:=fun i j qD hj=>by
  obtain⟨o,ho⟩:=fT hj;obtain⟨p,hp⟩:=fT (show i<ops.size by omega);exact⟨p,o,hp,ho,(aT j o ho).2.2 i p hp qD⟩
 refine⟨fun j o ho e he hb=>?_,fun j hj hk t ht=>?_,fun i j qD hj t hi hjt=>?_,fun i j qD hj hk t ht=>?_,fun i j qD hj Ky=>?_,fun j o ho i hb=>adv ho hb⟩
 ·have:=(asl.1 (aT j o ho).1) e he;rw[hb]at this;simpa using this
 ·obtain⟨o,ho⟩:=fT hj;have:=(aT j o ho).2.1;rw[hk]at this;simp only[beq_self_eq_true,au2,aun,asN]at this;rw[fS ho]at ht;exact sA this t ht
 ·obtain⟨p,o,hp,ho,Dj⟩:=pair i j qD hj;rw[fS hp]at hi;rw[fS ho]at hjt;unfold Ac at Dj;rw[hi,hjt]at Dj;simp at Dj
 ·obtain⟨p,o,hp,ho,Dj⟩:=pair i j qD hj;unfold Ac at Dj;simp only[ar6]at Dj;have h2:=Dj.1.2;have cz:(dp ops).kinds.getD i .effect=.load:=hk;rw[cz]at h2;simp only[beq_self_eq_true,au2,aun,asN]at h2;rw[fS ho]at ht;exact sA h2 t ht
 ·obtain⟨p,o,hp,ho,Dj⟩:=pair i j qD hj;unfold Ac at Dj;simp only[ar6]at Dj;have h3:=Dj.2
  have hb:ast ((dp ops).bT.getD j 0) i=false:=by
   cases hc:ast ((dp ops).bT.getD j 0) i with
   |false=>rfl
   |true=>exact absurd hc Ky
  rw[hb]at h3;simp only[aun,ar6,asN]at h3;refine⟨fun t ht=>?_,fun t ht=>?_,h3.2⟩
  ·rw[fS hp]at ht;exact sA h3.1.1 t ht
  ·rw[fS ho]at ht;exact sA h3.1.2 t ht
end Go.Ev
namespace Go.Ev
variable{P:Program}{S:Nat→Self}{ro:Nat}{ops:Array Oper}{pl:dx}[Sm]
theorem jT(b:T Ob)(p:Piece)(id:Nat):(dc b p).get id=if p.lo≤id∧id<p.hi then(p.t.get id).or (b.get id)else b.get id:=by
 have aux:∀(l:List Nat) (b:T Ob),(l.foldl (fun b id=>match p.t.get id with|some o=>b.set id o|none=>b) b).get id=if id∈l then(p.t.get id).or (b.get id)else b.get id:=by
  intro l;induction l with
  |nil=>intro b;simp
  |cons x l ih=>
   intro b;rw[asI,ih];by_cases hx:x=id
   ·subst hx;cases hp:p.t.get x with
    |none=>simp
    |some o=>simp[T.fQ]
   ·have hb:(match p.t.get x with|some o=>b.set x o|none=>b).get id=b.get id:=by
     cases p.t.get x with
     |none=>rfl
     |some o=>simp[T.fQ,hx]
    rw[hb];have:id∈x::l↔id∈l:=by simp[Ne.symm hx]
    simp only[this]
 refine(aux (auv p.lo (p.hi- p.lo)) b).trans ?_
 have:id∈auv p.lo (p.hi- p.lo)↔p.lo≤id∧id<p.hi:=by
  rw[List.mem_range'_1];omega
 simp only[this]
theorem Bg:∀(l:List Piece) (b:T Ob) (id:Nat) (o:Ob),(l.foldl dc b).get id=some o→(∃p∈l,p.lo≤id∧id<p.hi∧p.t.get id=some o)∨b.get id=some o
 |[],b,id,o,h=>.inr h
 |p::l,b,id,o,h=>by
  rw[asI]at h;rcases Bg l _ id o h with⟨q,hq,h1⟩|h
  ·exact .inl ⟨q,by simp[hq],h1⟩
  ·rw[jT]at h;split at h
   ·rename_i hc;cases hp:p.t.get id with
    |none=>rw[hp]at h;exact .inr h
    |some x=>rw[hp]at h;exact .inl ⟨p,by simp,hc.1,hc.2,by rw[hp];exact h⟩
   ·exact .inr h
theorem Gh:∀(l:List Piece) (b:T Ob) (id:Nat),(∀p∈l,id<p.lo)→(l.foldl dc b).get id=b.get id
 |[],b,id,_=>rfl
 |p::l,b,id,h=>by
  rw[asI,Gh l _ id (fun q hq=>h q (by simp[hq])),jT,if_neg];have:=h p (by simp);omega
theorem Gi{aC:List Piece}{bits:Nat}{b:T Ob}{id:Nat}{o:Ob}(h:(seen aC bits b).get id=some o):
 (∃p∈aC,ast bits p.j=true∧p.lo≤id∧id<p.hi∧p.t.get id=some o)∨b.get id=some o:=by
 rcases Bg _ _ _ _ h with⟨p,hp,h1⟩|h
 ·rw[asK]at hp;exact .inl ⟨p,hp.1,by simpa using hp.2,h1⟩
 ·exact .inr h
theorem Z3{aC:List Piece}{bits:Nat}{b:T Ob}{id:Nat}(h:∀p∈aC,id<p.lo):(seen aC bits b).get id=b.get id:=
 Gh _ _ _ fun p hp=>h p (asK.1 hp).1
inductive Stp(P:Program)(S:Self)(pl:dx)(ro:Nat)(ops:Array Oper)(o:Oper)(j:Nat)(d d':DS)(v:IV):Prop
 |skip (h:aF o ops d.e=false) (hv:v=.undef) (hn:d'.n=d.n) (hp:d'.aC=d.aC) (hk:aU pl j≠.effect) (hb:d'.bs=d.bs)
 |Ez (h:aF o ops d.e=false) (hv:v=.undef) (hn:d'.n=d.n) (hp:d'.aC=d.aC) (hk:aU pl j=.effect) (i0:Nat) (b:T Ob) (rest:List (Nat×T Ob)) (fZ:d.bs=(i0,b)::rest)
   (hb:d'.bs=(j,b)::d.bs) (hr:recheck P pl ops (pl.bT.getD j 0) d.e d.n d.aC b (ops.toList.zipIdx.take j)=true)
 |pure (h:aF o ops d.e=true) (hk:aU pl j=.pure) (hn:d'.n=d.n) (hp:d'.aC=d.aC) (hb:d'.bs=d.bs) (σ:St) (he:ak P 0 (aq d.e) o ⟨0,.lf⟩=some (.val v σ)) (h0:σ.n=0)
 |alloc (h:aF o ops d.e=true) (hk:aU pl j=.alloc) (hb:d'.bs=d.bs) (σ:St) (he:ak P 0 (aq d.e) o ⟨d.n,.lf⟩=some (.val v σ)) (hn:d'.n=σ.n) (hp:d'.aC=⟨j,d.n,σ.n,σ.t⟩::d.aC)
 |load (h:aF o ops d.e=true) (hk:aU pl j=.load) (hn:d'.n=d.n) (hp:d'.aC=d.aC) (hb:d'.bs=d.bs) (i0:Nat) (b:T Ob) (rest:List (Nat×T Ob)) (fZ:d.bs=(i0,b)::rest)
   (σ:St) (he:ak P d.n (aq d.e) o ⟨d.n,seen d.aC (pl.bT.getD j 0) b⟩=some (.val v σ)) (h0:σ.n=d.n)
   (hl:(ast (pl.bT.getD j 0) i0||lJ P d.e o d.n v d.aC (pl.bT.getD j 0) rest)=true)
 |call (h:aF o ops d.e=true) (hk:aU pl j=.call) (hb:d'.bs=d.bs) (i0:Nat) (b:T Ob) (rest:List (Nat×T Ob)) (fZ:d.bs=(i0,b)::rest)
   (σ:St) (he:jh P S d.n d.e o ⟨d.n,seen d.aC (pl.bT.getD j 0) b⟩=some (v,σ)) (hn:d'.n=σ.n) (hp:d'.aC=⟨j,d.n,σ.n,σ.t⟩::d.aC)
 |effect (h:aF o ops d.e=true) (hk:aU pl j=.effect) (i0:Nat) (b:T Ob) (rest:List (Nat×T Ob)) (fZ:d.bs=(i0,b)::rest)
   (σ:St) (he:jh P S ro d.e o ⟨d.n,seen d.aC (pl.bT.getD j 0) b⟩=some (v,σ)) (hn:d'.n=σ.n) (hb:d'.bs=(j,σ.t)::d.bs) (hp:d'.aC=d.aC.filter fun p=> !ast (pl.bT.getD j 0) p.j)
   (hr:recheck P pl ops (pl.bT.getD j 0) d.e d'.n d'.aC σ.t (ops.toList.zipIdx.take j)=true)
theorem Nt{U:Self}{o:Oper}{j:Nat}{d d':DS}(h:bL P U pl ro ops o j d=some d'):∃v,d'.e=d.e.put o.dst v∧d.bs≠[]∧Stp P U pl ro ops o j d d' v:=by
 unfold bL at h;dsimp only at h;split at h
 ·cases h
 ·rename_i i0 b rest fZ;have bc:d.bs≠[]:=by rw[fZ];simp
  split at h
  ·rename_i hw;split at h
   ·rename_i hk;split at h
    ·rename_i v σ he;split at h
     ·rename_i h0;cases h;exact⟨v,rfl,bc,.pure hw hk rfl rfl rfl σ he h0⟩
     ·cases h
    ·cases h
   ·rename_i hk;split at h
    ·rename_i v σ he;cases h;exact⟨v,rfl,bc,.alloc hw hk rfl σ he rfl rfl⟩
    ·cases h
   ·rename_i hk;split at h
    ·rename_i v σ he;split at h
     ·rename_i hc;cases h;exact⟨v,rfl,bc,.load hw hk rfl rfl rfl i0 b rest fZ σ he hc.1 hc.2⟩
     ·cases h
    ·cases h
   ·rename_i hk;split at h
    ·rename_i v σ he;cases h;exact⟨v,rfl,bc,.call hw hk rfl i0 b rest fZ σ he rfl rfl⟩
    ·cases h
   ·rename_i hk;split at h
    ·rename_i v σ he;split at h
     ·rename_i hc;cases h;exact⟨v,rfl,bc,.effect hw hk i0 b rest fZ σ he rfl rfl rfl hc⟩
     ·cases h
    ·cases h
  ·rename_i hw;have hw:aF o ops d.e=false:=by simpa using hw
   split at h
   ·rename_i hk;split at h
    ·rename_i hc;cases h;exact⟨.undef,rfl,bc,.Ez hw rfl rfl rfl hk i0 b rest fZ rfl hc⟩
    ·cases h
   ·rename_i hk;cases h;exact⟨.undef,rfl,bc,.skip hw rfl rfl rfl hk rfl⟩
structure Tr(P:Program)(S:Nat→Self)(pl:dx)(ro:Nat)(ops:Array Oper)(D:Nat→DS):Prop where
 step:∀(j:Nat) (o:Oper),ops[j]?=some o→bL P (S j) pl ro ops o j (D j)=some (D (j+1))
def nK(P:Program)(S:Nat→Self)(pl:dx)(ro:Nat)(ops:Array Oper)(d:DS):Nat→DS
 |0=>d
 |j+1=>match ops[j]? with
  |some o=>(bL P (S j) pl ro ops o j (nK P S pl ro ops d j)).getD (nK P S pl ro ops d j)
  |none=>nK P S pl ro ops d j
theorem KA{d0:DS}:∀{l:List Oper} {k:Nat} {d':DS},ops.toList.drop k=l→k≤ops.size→ir P S pl ro ops (l.zipIdx k) (nK P S pl ro ops d0 k)=some d'→
 (∀(j:Nat) (o:Oper),k≤j→ops[j]?=some o→bL P (S j) pl ro ops o j (nK P S pl ro ops d0 j)=some (nK P S pl ro ops d0 (j+1)))∧d'=nK P S pl ro ops d0 ops.size
 |[],k,d',hl,hk,h=>by
  have hs:ops.size≤k:=by
   have:ops.toList.length≤k:=List.drop_eq_nil_iff.1 hl;simpa using this
  cases h;refine⟨fun j o hj ho=>?_,by rw[show k=ops.size by omega]⟩;have:=(asW.1 ho).1;omega
 |o::l,k,d',hl,hk,h=>by
  have bf:ops[k]?=some o:=by
   have:(ops.toList.drop k)[0]?=some o:=by rw[hl];rfl
   simpa using this
  have fw:ops.toList.drop (k+1)=l:=by
   rw[←ate (i:=1) (j:=k),hl];rfl
  have aa:=(asW.1 bf).1;rw[avz]at h;unfold ir at h;split at h
  ·rename_i d1 h1
   have Cv:nK P S pl ro ops d0 (k+1)=d1:=by
    rw[nK,bf];simp only[h1,Option.getD_some]
   rw[←Cv]at h;obtain⟨h2,h3⟩:=KA fw (by omega) h;refine⟨fun j o' hj ho=>?_,h3⟩;rcases avo hj with hj|rfl
   ·exact h2 j o' (by omega) ho
   ·rw[bf]at ho;cases ho;rw[h1,Cv]
  ·cases h
theorem Z4{d0 d':DS}(h:ir P S pl ro ops ops.toList.zipIdx d0=some d'):Tr P S pl ro ops (nK P S pl ro ops d0)∧d'=nK P S pl ro ops d0 ops.size:=by
 obtain⟨h1,h2⟩:=KA (k:=0) (by simp) (by omega) h;exact⟨⟨fun j o ho=>h1 j o (by omega) ho⟩,h2⟩
section tr
variable{D:Nat→DS}(ht:Tr P S pl ro ops D)
include ht
theorem Tr.Nu{j:Nat}(hj:j<ops.size):∃o v,ops[j]?=some o∧(D (j+1)).e=(D j).e.put o.dst v∧(D j).bs≠[]∧Stp P (S j) pl ro ops o j (D j) (D (j+1)) v:=by
 have ho:ops[j]?=some ops[j]:=asy hj;obtain⟨v,h1,h2,h3⟩:=Nt (ht.step j _ ho);exact⟨_,v,ho,h1,h2,h3⟩
theorem Tr.WE(hc:∀j,bQ (S j))(hk:∀j,br (S j)){j:Nat}(hj:j<ops.size):(D j).n≤(D (j+1)).n:=
 Cu (hc j) (hk j) (ht.step j _ (asy hj))
theorem Tr.fC(hc:∀j,bQ (S j))(hk:∀j,br (S j)){i j:Nat}(qD:i≤j)(hj:j≤ops.size):(D i).n≤(D j).n:=by
 induction j with
 |zero=>have:i=0:=by omega
        subst this;exact ar9 _
 |succ j ih=>
  rcases avo qD with h|rfl
  ·exact asr (ih (by omega) (by omega)) (ht.WE hc hk (by omega))
  ·exact ar9 _
theorem Tr.apart(hc:∀j,bQ (S j))(hk:∀j,br (S j)){i j id:Nat}(hi:i<ops.size)(hj:j<ops.size)(h1:(D i).n≤id∧id<(D (i+1)).n)(h2:(D j).n≤id∧id<(D (j+1)).n):i=j:=by
 rcases Nat.lt_trichotomy i j with h|h|h
 ·have:=ht.fC hc hk (show i+1≤j from h) (by omega);omega
 ·exact h
 ·have:=ht.fC hc hk (show j+1≤i from h) (by omega);omega
theorem Tr.adw{j:Nat}(hj:j<ops.size):(D (j+1)).bs=(D j).bs∨(aU pl j=.effect∧∃b,(D (j+1)).bs=(j,b)::(D j).bs):=by
 obtain⟨o,v,_,_,_,h⟩:=ht.Nu hj;cases h with
 |skip _ _ _ _ _ hb=>exact .inl hb
 |Ez _ _ _ _ hk _ b _ _ hb _=>exact .inr ⟨hk,b,hb⟩
 |pure _ _ _ _ hb=>exact .inl hb
 |alloc _ _ hb=>exact .inl hb
 |load _ _ _ _ hb=>exact .inl hb
 |call _ _ hb=>exact .inl hb
 |effect _ hk _ _ _ _ σ _ _ hb=>exact .inr ⟨hk,σ.t,hb⟩
theorem Tr.KB{m j:Nat}(hm:m≤j)(hj:j≤ops.size):∃pre,(D j).bs=pre++(D m).bs∧∀x∈pre,m≤x.1∧x.1<j∧aU pl x.1=.effect:=by
 induction j with
 |zero=>have:m=0:=by omega
        subst this;exact⟨[],rfl,fun _ h=>by cases h⟩
 |succ j ih=>
  rcases avo hm with h|rfl
  ·obtain⟨pre,h1,h2⟩:=ih (by omega) (by omega);rcases ht.adw (show j<ops.size by omega)with hb|⟨hk,b,hb⟩
   ·exact⟨pre,by rw[hb,h1],fun x hx=>by have:=h2 x hx;exact⟨this.1,by omega,this.2.2⟩⟩
   ·refine⟨(j,b)::pre,by rw[hb,h1];rfl,fun x hx=>?_⟩;rcases List.mem_cons.1 hx with rfl|hx
    ·exact⟨by omega,by omega,hk⟩
    ·have:=h2 x hx;exact⟨this.1,by omega,this.2.2⟩
  ·exact⟨[],rfl,fun _ h=>by cases h⟩
theorem Tr.Nv{m j:Nat}(hm:m≤j)(hj:j≤ops.size)(bc:∀i,m≤i→i<j→aU pl i≠.effect):(D j).bs=(D m).bs:=by
 obtain⟨pre,h1,h2⟩:=ht.KB hm hj;cases pre with
 |nil=>exact h1
 |cons x pre=>have:=h2 x (by simp);exact absurd this.2.2 (bc x.1 this.1 this.2.1)
end tr
structure sB(ops:Array Oper)(D:Nat→DS)(A:Nat→Prop)(e:Env):Prop where
 n:e.n=(D 0).e.n
 put:∀j,A j→∀t,iO ops j=some t→e.at t=(D (j+1)).e.at t
 cu:∀t,(∀j,A j→iO ops j≠some t)→e.at t=(D 0).e.at t
theorem WG{e:Env}{dst:Option Tmp}{v:IV}{t:Nat}(h:dst≠some t):(e.put dst v).at t=e.at t:=by
 cases dst with
 |none=>rfl
 |some d=>
  rw[Env.cJ,if_neg];intro hc;exact h (by rw[hc.2])
theorem sB.step{D:Nat→DS}{A:Nat→Prop}{e:Env}(ho:oZ ops pl){j:Nat}{o:Oper}{v:IV}(h:sB ops D A e)(hA:∀i,A i→i<ops.size)(hj:ops[j]?=some o)(hnj:¬A j)
 (hd:(D (j+1)).e=(D j).e.put o.dst v)(hold:∀t,iO ops j=some t→(D j).e.at t=(D 0).e.at t)(hn:(D j).e.n=(D 0).e.n):sB ops D (fun i=>A i∨i=j) (e.put o.dst v):=by
 have aa:=(asW.1 hj).1;have fS:iO ops j=o.dst:=by unfold iO;rw[hj];rfl
 have abN:∀i t,A i→iO ops i=some t→o.dst≠some t:=by
  intro i t hi hit;have FF:=hA i hi;have bc:i≠j:=fun hx=>hnj (hx▸hi);rw[←fS];rcases Nat.lt_or_gt_of_ne bc with fR|fR
  ·exact ho.single i j fR aa t hit
  ·intro hc;exact ho.single j i fR FF t hc hit
 refine⟨by rw[Env.mU];exact h.n,fun i hi t hit=>?_,fun t gE=>?_⟩
 ·rcases hi with hi|rfl
  ·rw[WG (abN i t hi hit)];exact h.put i hi t hit
  ·rw[fS]at hit;rw[hd,hit,Env.cJ,Env.cJ,h.n,hn];split
   ·rfl
   ·rw[hold t (by rw[fS];exact hit)];refine h.cu t fun i hi hc=>abN i t hi hc hit
 ·rw[WG (by rw[←fS];exact gE j (.inr rfl))];exact h.cu t fun i hi=>gE i (.inl hi)
theorem Tr.env{D:Nat→DS}(ht:Tr P S pl ro ops D)(ho:oZ ops pl):∀j,j≤ops.size→sB ops D (fun i=>i<j) (D j).e
 |0,_=>⟨rfl,fun i hi=>absurd hi (by omega),fun t _=>rfl⟩
 |j+1,hj=>by
  obtain⟨o,v,h1,h2,_,_⟩:=ht.Nu (show j<ops.size by omega);have ih:=ht.env ho j (by omega);have:=sB.step (A:=fun i=>i<j) (v:=v) ho ih (fun i hi=>by omega) h1 (by omega) h2 (fun t hd=>ih.cu t fun i hi hc=>ho.single i j hi (by omega) t hc hd) ih.n;rw[←h2]at this;refine⟨this.n,fun i hi=>this.put i (by omega),fun t gE=>this.cu t fun i hi=>gE i (by omega)⟩
theorem aeZ(ho:oZ ops pl):∀(j:Nat),j<ops.size→∀i,iP pl j i→i<j:=by
 intro j;induction j using Nat.strongRecOn with
 |_ j ih=>
  intro hj i hb;obtain⟨e,he,cK,h1⟩:=ho.bits j _ (asy hj) i hb;have aa:=ho.back j _ (asy hj) e he cK;rcases h1 with rfl|h1
  ·exact aa
  ·have:=ih e.on aa (by omega) i h1;omega
theorem Gj{D:Nat→DS}{A B:Nat→Prop}{e e':Env}(h:sB ops D A e)(h':sB ops D B e'){t:Nat}(hAB:∀i,iO ops i=some t→(A i↔B i)):e.at t=e'.at t:=by
 by_cases hx:∃i,A i∧iO ops i=some t
 ·obtain⟨i,hi,hd⟩:=hx;rw[h.put i hi t hd,h'.put i ((hAB i hd).1 hi) t hd]
 ·rw[h.cu t fun i hi hd=>hx ⟨i,hi,hd⟩,h'.cu t fun i hi hd=>hx ⟨i,(hAB i hd).2 hi,hd⟩]
theorem sC{e e':Env}{j:Nat}{o:Oper}(hj:ops[j]?=some o)(h:∀t∈zN ops j,e.at t=e'.at t)(hn:e.n=e'.n):
 (∀x∈o.op.operands,aq e x=aq e' x)∧aF o ops e=aF o ops e':=by
 have hr:zN ops j=t_ ops o:=by
  unfold zN;rw[at5,List.getElem?_map];have:ops.toList[j]?=some o:=by simpa using hj
  rw[this];rfl
 rw[hr]at h;refine⟨fun x hx=>?_,?_⟩
 ·cases x with
  |tmp t=>exact h t (by unfold t_;rw[asE];left;exact List.mem_filterMap.2 ⟨.tmp t,by simpa using hx,rfl⟩)
  |_=>rfl
 ·unfold aF;cases hg:o.guard with
  |none=>rfl
  |some g=>
   obtain⟨i,want⟩:=g;dsimp only;cases hd:(ops[i]?).bind (·.dst)with
   |none=>rfl
   |some d=>
    dsimp only;rw[hn,h d (by unfold t_;rw[asE];right;rw[hg];dsimp only;rw[hd];simp)]
end Go.Ev
