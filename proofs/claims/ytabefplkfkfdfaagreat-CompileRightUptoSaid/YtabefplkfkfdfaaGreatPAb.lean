/- Lemmas over the model, without conditions of their own: the ideal machine, and code run on expressions. -/
import Derived.Test.YtabefplkfkfdfaaGreatPAa
open Go renaming undef->azm
open Nat renaming blt->azy,le_trans->ay6,le_refl->ayL,lt_of_not_le->aAV,lt_of_lt_of_le->aAl,testBit->ay7,lor->aCp,testBit_or->aDQ,shiftLeft->aBN,lt_or_eq_of_le->aBT,lt_trichotomy->aBp,strongRecOn->aDC,zero_le->azz,mul_le_mul_right->azd,beq->ayQ,beq_eq->azv
open Array renaming getD_eq_getD_getElem?->azL,getElem?_eq_getElem->aza,replicate->azF,getElem?_replicate->aCk,getElem?_eq_some_iff->azx,all_eq_true'->aCM
open Go.Region renaming wanted->aBH,binds->az7,ready->azJ
open Option renaming getD_some->aAy,map_some->azl,isSome_iff_exists->aAS,map_eq_some_iff->ayR
open Go.Fence renaming wide->azk,inRound->aDA
open Go.Code renaming roundsIn->aDP,region->aD5
open Go.Instr renaming getLoop->aDB,endRound->aDt,yield->aCG,enterLoop->aDh
open Go.Sem renaming run_bind->ayT,run_pure->ay9
open Go.Result renaming andThen_ok->ayM
open List renaming foldl_cons->azo,range'->aAx,drop_drop->aAR,length_cons->azh,range'_succ->aBf,range_eq_range'->aBE,mapM_cons->aBl,zipIdx_cons->aB5,map_congr_left->aAT,getD_eq_getElem?_getD->azu,getElem?_append_left->ayZ,mk_mem_zipIdx_iff_getElem?->aAe,all_eq_true->ayY,mem_filter->azB,mem_append->ayS,mem_cons->ayW,nil_append->azN,cons_append->azO,getElem?_take->azn,getElem?_zipIdx->aCH,mem_range->aAi,mem_of_getElem?->ayX,getElem?_eq_some_iff->ayH,getElem?_eq_getElem->ayG,mem_cons_of_mem->azg,filter_cons->aDi,mem_cons_self->aBj,getElem_of_mem->aBO,getElem?_append_right->aze
open Go.LoopState renaming busy->aEi
open Decidable renaming byContradiction->aAL
open Go.Oper renaming semAt_eq->aAo,uponIn_value->aBt,uponIn_skip->aDg,uponIn_enter->aB4,uponIn_defer->aC5
open Bool renaming false_eq_true->azi,or_eq_true->azp,and_eq_true->ayI,not_true->azV,false_or->aAJ,not_eq_true'->azY
open Go.Exit renaming inBlock->aDZ
open Go.Call renaming operands->aBK
open Option.some renaming injEq->ayO
open List.cons renaming inj->aA1,injEq->aBb
open Classical renaming byContradiction->azs
open Option renaming some->aa,none->ah
open Bool renaming true->ab,false->af
set_option linter.all false
namespace Go.Ev
section
variable{P:Program}{N ro:Nat}{ι:Io}{w:World}{σ:St}{e:Env}{a:Act}
def dc(ι:Io)(e:Env)(ts:Array Value):Prop:=e.n=ts.size/\∀t,Rv ι (e.at t) (ts.getD t azm)
def mf(ι:Io):List Df->List Deferred->Prop
 |[],[]=>True
 |d::ds,x::xs=>Fs ι d x/\mf ι ds xs
 |_,_=>False
theorem dc.mono{aM:Io}(i_:Ext ι aM){ts:Array Value}(h:dc ι e ts):dc aM e ts:=⟨h.1,λt=>(h.2 t).mono i_⟩
theorem Fs.mono{aM:Io}(i_:Ext ι aM){d:Df}{x:Deferred}(h:Fs ι d x):Fs aM d x:=by
 cases d with
 |xu id=>have⟨l,h1,h2⟩:=h;exact⟨l,i_ _ _ _ h1,h2⟩
 |call f as=>have⟨cap,us,vs,h1,h2,h3⟩:=h;exact⟨cap,us,vs,h1,h2.mono i_,h3⟩
theorem mf.mono{aM:Io}(i_:Ext ι aM):∀{ds:List Df} {xs:List Deferred},mf ι ds xs->mf aM ds xs
 |[],[],_=>trivial
 |_::_,_::_,h=>⟨Fs.mono i_ h.1,mf.mono i_ h.2⟩
 |[],_::_,h=>h.elim
 |_::_,[],h=>h.elim
theorem mf.nil{xs:List Deferred}(h:mf ι [] xs):xs=[]:=by cases xs with|nil=>rfl|cons=>cases h
def uG:Rv ι .undef azm:=.raw _
theorem Env.dt(e:Env)(d:Nat)(v:IV)(t:Nat):(e.put (aa d) v).at t=if d<e.n/\d=t then v else e.at t:=by
 unfold Env.put;simp only;by_cases h:d<e.n
 .have hb:azy d e.n=ab:=yO;rw[hb];simp only[if_true,Env.at,T.hZ]
  grind
 .have hb:azy d e.n=af:=by
   cases hc:azy d e.n with
   |false=>rfl
   |true=>exact absurd yO h
  grind
theorem Env.qK(e:Env)(d:Option Nat)(v:IV):(e.put d v).n=e.n:=by
 cases d with
 |none=>rfl
 |some d=>grind [Env.put]
def dc.set{ts:Array Value}{v:IV}{u:Value}(h:dc ι e ts)(hv:Rv ι v u)(d:Nat):dc ι (e.put (aa d) v) (ts.setIfInBounds d u):=by
 refine⟨by rw[Env.qK,h.1];simp,λt=>?_⟩;rw[Env.dt]
 have hs:(ts.setIfInBounds d u).getD t azm=if d<ts.size/\d=t then u else ts.getD t azm:=by
  simp only[azL]
  grind
 rw[hs,<-h.1];split
 .omega
 .exact h.2 t
theorem dc.put{v:IV}{u:Value}(h:dc ι e a.tmps)(hv:Rv ι v u)(dst:Option Tmp):dc ι (e.put dst v) (a.put dst u).tmps:=by
 cases dst with
 |none=>exact h
 |some d=>exact h.set hv d
theorem dc.eval(h:dc ι e a.tmps)(x:Operand):Rv ι (aD e x) (a.eval x):=by
 cases x with
 |tmp t=>exact h.2 t
 |const v=>exact Rv.lift v
 |global g=>exact .raw _
 |func f=>exact .raw _
def ajv{x:IV}{b:Bool}(h:Rv ι x (.bool b)):x=.raw (.bool b):=by
 generalize hu:Value.bool b=u at h;cases h<;>first|grind|rfl
def u_{o:Oper}{ops:Array Oper}(h:dc ι e a.tmps):aBH o (yielded ops a.tmps)=aY o ops e:=by
 unfold aBH aY;cases hg:o.guard with
 |none=>rfl
 |some g=>
  have⟨j,want⟩:=g;simp only[yielded];cases hd:(ops[j]?).bind (·.dst)with
  |none=>rfl
  |some d=>
   simp only[Option.bind_some];by_cases hl:d<e.n
   .have hb:azy d e.n=ab:=yO;rw[hb];have cJ:d<a.tmps.size:=by rw[<-h.1];omega
    have hr:=h.2 d;rw[azL,aza cJ,aAy]at hr;rw[aza cJ];generalize a.tmps[d]=u at hr;cases u with
    |bool b=>rw[ajv hr];simp
    |_=>
     generalize e.at d=x at hr;cases hr<;>rfl
   .have hb:azy d e.n=af:=by
     cases hc:azy d e.n with
     |false=>rfl
     |true=>exact absurd yO hl
    rw[hb];have cJ:¬d<a.tmps.size:=by rw[<-h.1];omega
    grind
def noGoto(Q:Exit->Act->World->Prop):Exit->Act->World->Prop
 |.goto _,_,_=>False
 |e,a,w=>Q e a w
section scope
variable{F:Fence}{n:Nat}{b:Frame}{k:List Item}{cs:List Frame}{Q:Exit->Act->World->Prop}
def qw{c:Code}:step P (lone (b.atR a (.code (.scope c)::k)) cs w)=.next (lone (b.atR a (.code c::.inScope c::k)) cs w):=
 step_lone_go (by rfl)
def Sc{c:Code}:step P (lone (b.atR a (.inScope c::k)) cs w)=.next (lone (b.atR a k) cs w):=
 step_lone_go (by rfl)
def ME{c:Code}(h:c.wpIn F n P (noGoto Q) a w):(Code.scope c).wpIn F n P Q a w:=by
 intro b k cs eA hb hr;have h0:(lone (b.atR a (.code (.scope c)::k)) cs w).fenced P F:=fenced_calm hb hr rfl;have⟨e,a₁,w₁,hq,Ot⟩:=h b (.inScope c::k) cs eA hb hr;cases e with
 |normal=>exact⟨.normal,a₁,w₁,hq,.head h0 qw (StepsIn.trans Ot (.one (fenced_calm hb hr rfl) Sc))⟩
 |exit id=>
  have hx:exitTo id (.inScope c::k)=exitTo id k:=by rfl
  exact⟨.exit id,a₁,w₁,hq,λk' hk=>.head h0 qw (Ot.1 k' bc),
   λqL hk=>let⟨k₁,h1,h2⟩:=Ot.2 qL bc;⟨k₁,h1,.head h0 qw h2⟩⟩
 |goto l=>cases hq
 |ret=>exact⟨_,a₁,w₁,hq,.of_steps (.one h0 qw) Ot⟩
 |panic ch=>exact⟨_,a₁,w₁,hq,.of_steps (.one h0 qw) Ot⟩
 |outgrown=>exact⟨_,a₁,w₁,hq,.of_steps (.one h0 qw) Ot⟩
end scope
def bY(S:Self):Prop:=∀ro rd fn c e df σ cr,S.code ro rd fn c e df σ=aa cr->σ.n<=cr.σ.n
structure bI(S:Self):Prop where
 call:∀ro f args σ v au,S.call ro f args σ=aa (v,au)->σ.n<=au.n
 cg:∀ro f args σ v au,S.cg ro f args σ=aa (v,au)->σ.n<=au.n
 zP:∀ro f args m σ m' au,S.zP ro f args m σ=aa (m',au)->σ.n<=au.n
variable{S:Self}
def ZI(hc:bY S){l:Nat}{args:List IV}{v:IV}{au:St}(h:Ej S ro l args σ=aa (v,au)):σ.n<=au.n:=by
 unfold Ej at h;split at h
 .split at h<;>try cases h
  simp only at h;split at h
  .rename_i e1 av h1;split at h
   .split at h
    .rename_i ex e2 cO h2;split at h
     .cases h
     split at h
     .cases h;have:=hc _ _ _ _ _ _ _ _ h1;have:=hc _ _ _ _ _ _ _ _ h2
      grind [St.qK]
     grind
    grind
   grind
  grind
 grind
def K_(hc:bY S)(hk:bI S){o:Oper}{v:IV}{au:St}(h:kW P S ro e o σ=aa (v,au)):σ.n<=au.n:=by
 unfold kW at h;split at h
 .rename_i v1 av h1;cases h;exact mB h1
 .exact hk.call _ _ _ _ _ _ h
 .exact ZI hc h
 grind
theorem A5(hc:bY S)(hk:bI S){rd:Option Nat}{ops:Array Oper}:∀{l:List Oper} {e:Env} {df:List Df} {σ:St} {cr:CR},BZ P S ro rd ops l e df σ=aa cr->σ.n<=cr.σ.n
 |[],e,df,σ,cr,h=>by cases h;simp
 |o::rest,e,df,σ,cr,h=>by
  unfold BZ at h;split at h<;>try exact A5 hc hk h
  split at h
  .rename_i v av h1;exact ay6 (K_ hc hk h1) (A5 hc hk h)
  .split at h
   .split at h
    .exact A5 hc hk h
    grind
   .split at h
    .rename_i h2;cases h;exact hk.cg _ _ _ _ _ _ h2
    grind
   all_goals grind
section draw
variable[Sm]
theorem He(hc:bY S)(hk:bI S){pl:ey}{ops:Array Oper}{o:Oper}{j:Nat}{d d':DS}(h:bW P S pl ro ops o j d=aa d'):d.n<=d'.n:=by
 simp only[bW]at h;split at h<;>try cases h
 split at h
 .split at h
  .grind
  .split at h
   .rename_i h1;cases h;exact mB h1
   grind
  .grind
  .split at h
   .rename_i h1;cases h;exact K_ (P:=P) hc hk h1
   grind
  .split at h
   .rename_i h1;split at h
    .cases h;exact K_ (P:=P) hc hk h1
    grind
   grind
 grind
theorem HL{SF:Nat->Self}(hc:∀j,bY (SF j))(hk:∀j,bI (SF j)){pl:ey}{ops:Array Oper}:∀{l:List (Oper×Nat)} {d d':DS},j2 P SF pl ro ops l d=aa d'->d.n<=d'.n
 |[],d,d',h=>by cases h;simp
 |(o,j)::rest,d,d',h=>by
  unfold j2 at h;split at h
  .rename_i d1 h1;exact ay6 (He (hc j) (hk j) h1) (HL hc hk h)
  grind
theorem Fy{SF:Nat->Self}(hc:∀j,bY (SF j))(hk:∀j,bI (SF j)){ops:Array Oper}{df:List Df}{cr:CR}(h:kX P SF ro ops e df σ=aa cr):σ.n<=cr.σ.n:=by
 simp only[kX]at h;split at h
 .split at h
  .rename_i h1;cases h;exact HL hc hk h1
  grind
 grind
end draw
def ab5(hc:bY S)(hk:bI S){ops:Array Oper}{df:List Df}{cr:CR}(h:S3 P S ro ops e df σ=aa cr):σ.n<=cr.σ.n:= @Fy _ _ _ _ yP _ (λ_=>hc) (λ_=>hk) _ _ _ h
def QE(hc:bY S)(hk:bI S):bY (nj P S):=by
 intro ro rd fn c e df σ cr h;change AW P S ro rd fn c e df σ=aa cr at h;cases c<;>unfold AW at h<;>dsimp only at h
 case skip=>grind
 case label=>grind
 case exit=>grind
 case goto=>grind
 case ret=>grind
 case refuse=>cases h
 case region=>
  split at h
  .exact ab5 hc hk h
  .exact A5 hc hk h
 case seq=>
  split at h
  .rename_i h1;exact ay6 (hc _ _ _ _ _ _ _ _ h1) (hc _ _ _ _ _ _ _ _ h)
  .exact hc _ _ _ _ _ _ _ _ h
 case cond=>
  split at h
  .exact hc _ _ _ _ _ _ _ _ h
  grind
 case block=>
  split at h
  .rename_i h1
   repeat' split at h
   all_goals (cases h;have:=hc _ _ _ _ _ _ _ _ h1;omega)
  .exact hc _ _ _ _ _ _ _ _ h
 case loop=>
  split at h
  .rename_i h1;exact ay6 (hc _ _ _ _ _ _ _ _ h1) (hc _ _ _ _ _ _ _ _ h)
  .exact hc _ _ _ _ _ _ _ _ h
 case scope=>
  split at h
  .cases h
  .exact hc _ _ _ _ _ _ _ _ h
 case rangeFunc=>
  split at h
  .rename_i ga av mark tP
   have h1:σ.n<=av.n:=by
    split at tP
    .cases tP;simp
    grind
   split at h
   .split at h
    .rename_i h2;have h3:=hk.call _ _ _ _ _ _ h2;simp only[St.pD]at h3;split at h
     .split at h<;>try cases h
      split at h<;>try grind [St.qK]
      have h4:=hc _ _ _ _ _ _ _ _ h
      grind [St.qK]
     grind
    grind
   grind
  grind
theorem lL(hk:bI S):∀{df:List Df} {m m':Option IV} {σ au:St},g_ S ro df m σ=aa (m',au)->σ.n<=au.n
 |[],m,m',σ,au,h=>by cases h;simp
 |.xu id::ds,m,m',σ,au,h=>by
  unfold g_ at h;split at h
  .split at h
   .exact lL hk (σ:=σ.put id (.Ha ab)) h
   grind
  grind
 |.call f args::ds,m,m',σ,au,h=>by
  unfold g_ at h;split at h
  .rename_i h1;exact ay6 (hk.zP _ _ _ _ _ _ _ h1) (lL hk h)
  grind
def QF(hc:bY S)(hk:bI S){f:FuncId}{args:List IV}{r:Func×Env×Option IV×St}(h:El P S ro f args σ=aa r):σ.n<=r.2.2.2.n:=by
 unfold El at h;split at h
 .split at h
  .split at h<;>try cases h
   simp only at h;split at h
   .rename_i h1;split at h
    .rename_i h2;cases h;exact ay6 (hc _ _ _ _ _ _ _ _ h1) (lL hk h2)
    grind
   .rename_i h1;split at h
    .rename_i h2;cases h;exact ay6 (hc _ _ _ _ _ _ _ _ h1) (lL hk h2)
    grind
   .rename_i h1;split at h
    .rename_i h2;cases h;exact ay6 (hc _ _ _ _ _ _ _ _ h1) (lL hk h2)
    grind
   grind
  grind
 grind
theorem yY{ops:Array Oper}:∀{l:List Oper} {e:Env} {m:Option IV} {σ:St} {r:Env×Option IV×St},qb P ro ops l e m σ=aa r->σ.n<=r.2.2.n
 |[],e,m,σ,r,h=>by cases h;simp
 |o::rest,e,m,σ,r,h=>by
  unfold qb at h;split at h<;>try exact yY h
  split at h
  .repeat' split at h
   all_goals exact yY h
  .split at h
   .rename_i h1;exact ay6 (mB h1) (yY h)
   grind
def La(hc:bY S){fn:FuncId}:∀{c:Code} {e:Env} {m:Option IV} {σ:St} {r:CR×Option IV},Em P S ro fn c e m σ=aa r->σ.n<=r.1.σ.n:=by
 intro c
 have other:∀{c:Code} {e:Env} {m:Option IV} {σ:St} {r:CR×Option IV},(match S.code ro ah fn c e [] σ with|some r=>aa (r,m)|none=>ah)=aa r->σ.n<=r.1.σ.n:=by
  intro c e m σ r h;split at h
  .rename_i h1;cases h;exact hc _ _ _ _ _ _ _ _ h1
  grind
 induction c with
 |seq a b iha ihb=>
  grind [Em]
 |region id ops draw=>
  intro e m σ r h;unfold Em at h;split at h<;>try exact other h
  split at h
  .rename_i h1;cases h;exact yY h1
  grind
 |_=>intro e m σ r h;exact other h
def HM(hc:bY S)(hk:bI S):bI (nj P S) where
 call:=by
  intro ro f args σ v au h;simp only[nj,S4]at h;split at h
  .rename_i h1;split at h
   .cases h;exact QF hc hk h1
   grind
  grind
 cg:=by
  intro ro f args σ v au h;simp only[nj,Zt]at h;split at h
  .rename_i h1;cases h;exact QF hc hk h1
  grind
 zP:=by
  intro ro f args m σ m' au h;simp only[nj,Fl]at h;split at h
  .split at h<;>try cases h
   split at h
   .split at h<;>try cases h
    split at h
    .rename_i h1;split at h
     .cases h;exact La hc h1
     grind
    .rename_i h1;split at h
     .cases h;exact La hc h1
     grind
    grind
   grind
  grind
variable{m:Nat}{F:Fence}{rd:Option Nat}{Q:Exit->Act->World->Prop}
def HN(ch:List PanicEntry):Ex->Exit
 |.normal=>.normal
 |.exit id=>.exit id
 |.goto l=>.goto l
 |.ret=>.ret
 |.cg _=>.panic ch
def Tu(ι:Io)(ch:List PanicEntry):Ex->Prop
 |.cg v=>∃u,ch=[{v:=u,recovered:=af}]/\Rv ι v u
 |_=>True
def pG(ι:Io):Option IV->FrameMode->Prop
 |none,u=>u=.returning
 |some v,u=>∃x,u=.panicking [{v:=x,recovered:=af}]/\Rv ι v x
def kH(F:Fence)(rd:Option Nat)(ι:Io):Prop:=(rd=ah/\F=azk)\/∃l loc,rd=aa l/\ι l 0=aa loc/\F=azk.inRound loc.b
def kH.mono{aM:Io}(i_:Ext ι aM)(h:kH F rd ι):kH F rd aM:=by
 rcases h with h|⟨l,loc,h1,h2,h3⟩
 .exact .inl h
 .exact .inr ⟨l,loc,h1,i_ _ _ _ h2,h3⟩
theorem kH.fn(h:kH F rd ι)(f:FuncId):F.fn f:=by rcases h with⟨_,rfl⟩|⟨_,_,_,_,rfl⟩<;>trivial
def kH.depth(h:kH F rd ι){n:Nat}:F.depth.isSome=ab->1<=n:=by rcases h with⟨_,rfl⟩|⟨_,_,_,_,rfl⟩<;>(intro h;simp[azk,aDA]at h)
def kH.calls(h:kH F rd ι){f:FuncId}{us:Array Value}{R:Ending->World->Prop}(hc:CallsIn azk 0 P f us w R):CallsIn F (0- 1) P f us w R:=by
 rcases h with⟨_,rfl⟩|⟨_,_,_,_,rfl⟩<;>exact hc
theorem kH.inRound(h:kH F rd ι)(l:Nat):F.inRound l=azk.inRound l:=by rcases h with⟨_,rfl⟩|⟨_,_,_,_,rfl⟩<;>rfl
def uH(N ro:Nat)(ι:Io)(w:World)(σ:St)(cr:CR)(Q:Exit->Act->World->Prop):Prop:=
 ∀a' w' aM ch,Inv N aM cr.σ w'->Le ro ι w σ aM w' cr.σ->dc aM cr.e a'.tmps->mf aM cr.df a'.defers->Tu aM ch cr.ex->Q (HN ch cr.ex) a' w'
def ZJ(F:Fence)(P:Program)(m:Nat)(c:Code)(Q:Exit->Act->World->Prop)(a:Act)(w:World):Prop:=
 match c with
 |.loop b=>aDP F 0 P b Q m a w
 |c=>c.wpIn F 0 P Q a w
def ZJ.wp{c:Code}(h:ZJ F P m c Q a w):c.wpIn F 0 P Q a w:=by
 cases c<;>first|exact h|exact wpIn_loop_rounds _ h
def Af(N ro:Nat)(ι:Io)(w:World)(σ:St)(v:IV)(au:St):Ending->World->Prop
 |.returned u,w'=>∃aM,Rv aM v u/\Inv N aM au w'/\Le ro ι w σ aM w' au
 |_,_=>False
def iJ(P:Program)(S:Self)(m:Nat):Prop:=∀N ro rd fn c e df σ cr,S.code ro rd fn c e df σ=aa cr->cr.σ.n<=N->∀F ι a w Q,kH F rd ι->Inv N ι σ w->dc ι e a.tmps->mf ι df a.defers->
 uH N ro ι w σ cr Q->ZJ F P m c Q a w
def Sh(N ro:Nat)(ι:Io)(w:World)(σ:St)(v:IV)(au:St):Ending->World->Prop
 |.panicked ch,w'=>∃aM,Tu aM ch (.cg v)/\Inv N aM au w'/\Le ro ι w σ aM w' au
 |_,_=>False
def MF(N ro:Nat)(ι:Io)(w:World)(σ:St)(m:Option IV)(au:St):Ending->FrameMode->World->Prop
 |.returned _,u,w'=>∃aM,pG aM m (settle u)/\Inv N aM au w'/\Le ro ι w σ aM w' au
 |_,_,_=>False
structure eX(P:Program)(S:Self):Prop where
 call:∀N ro f args σ v au,S.call ro f args σ=aa (v,au)->au.n<=N->∀ι us w,Inv N ι σ w->aN ι args us->CallsIn azk 0 P f us.toArray w (Af N ro ι w σ v au)
 cg:∀N ro f args σ v au,S.cg ro f args σ=aa (v,au)->au.n<=N->∀ι us w,Inv N ι σ w->aN ι args us->CallsIn azk 0 P f us.toArray w (Sh N ro ι w σ v au)
 zP:∀N ro f args m σ m' au,S.zP ro f args m σ=aa (m',au)->au.n<=N->∀ι us u w,pG ι m u->Inv N ι σ w->aN ι args us->CallsDIn azk 0 P f us.toArray u w (MF N ro ι w σ m' au)
 EA:∀ro f args m σ m' au,S.zP ro f args m σ=aa (m',au)->∃fn,P.funcs[f]?=aa fn/\(fn.body.isSome&&fn.name != "runtime.NumGoroutine")=ab
def uH.from{cr:CR}{bQ:Io}{w1:World}{av:St}(h:uH N ro ι w σ cr Q)(hi:Inv N ι σ w)(hl:Le ro ι w σ bQ w1 av)(hn:av.n<=N):uH N ro bQ w1 av cr Q:=
 λa' w' aM ch h1 h2 h3 h4 h5=>h a' w' aM ch h1 (Le.trans (λid h1 h2=>hi.fresh id h1 aj) hl h2) h3 h4 h5
def Le.then(hi:Inv N ι σ w){bQ sY:Io}{w1 w2:World}{av cO:St}(hn:av.n<=N)(h:Le ro ι w σ bQ w1 av)(k:Le ro bQ w1 av sY w2 cO):Le ro ι w σ sY w2 cO:=
 Le.trans (λid h1 h2=>hi.fresh id h1 aj) h k
def pH{l:Nat}{r:Loop}(h:w.heap[l]?=aa (.loop r)):(aDB l).run P w=.ok r w:=by
 simp only[aDB,ayT,c7 (P:=P) h aw,ayM,ay9]
def heap_set{b:Nat}{o:Go.Obj}(h:b<w.heap.size):(w.heap.setIfInBounds b o)[b]?=aa o:=by simp[h]
theorem HO:∀{ps:List Tmp} {args:List IV} {us:List Value} {e:Env} {ts:Array Value},dc ι e ts->aN ι args us->
 dc ι ((ps.zip args).foldl (λe (p,v)=>e.put (aa p) v) e) ((ps.zip us).foldl (λtmps (t,a)=>tmps.setIfInBounds t a) ts)
 |[],_,_,_,_,h,_=>h
 |p::ps,[],us,_,_,h,hr=>by rw[hr.of_nil];exact h
 |p::ps,v::args,us,e,ts,h,hr=>by
  obtain⟨u,w9,rfl,h1,h2⟩:=hr.yQ;simp only[List.zip_cons_cons,azo];exact HO (h.set h1 p) h2
def ko{l:Nat}{loc:Loc}{st:LoopState}{DN:Option Code}{f:FuncId}{tm:T IV}{mb:Nat}{ps:List Tmp}{gL bd:Code}{ga:Nat}(hi:Inv N ι σ w)(aT:σ.at l=aa (.loop st DN f tm mb ps gL bd ga))(hl:ι l 0=aa loc):
 ∃ld ts f',ι ga 0=aa ld/\w.heap[loc.b]?=aa (.loop {state:=st,pending:=DN,fn:=f',tmps:=ts,params:=ps.toArray,assign:=gL,body:=bd,defers:=ld.b})/\dc ι ⟨mb,tm⟩ ts/\loc.b<w.heap.size:=by
 obtain⟨l',ld,ts,f',cJ,hd,hh,hs,ht⟩:=hi.obj l _ aT;rw[hl]at cJ;cases cJ;exact⟨ld,ts,f',hd,hh,⟨hs.symm,ht⟩,hi.gU l _ ⟨0,loc,hl,rfl⟩⟩
def QG(s:LoopState)(h:s≠.busy):(s==aEi)=af:=by cases s<;>first|rfl|exact absurd rfl h
def AG{l:Nat}{loc:Loc}{st dM:LoopState}{DN Ag:Option Code}{f f':FuncId}{tm:T IV}{mb:Nat}{ps:List Tmp}{gL bd:Code}{ga:Nat}{ld:Loc}{ts:Array Value}(hi:Inv N ι σ w)(eA:ro<=l)
 (aT:σ.at l=aa (.loop st DN f tm mb ps gL bd ga))(hl:ι l 0=aa loc)(hd:ι ga 0=aa ld)(he:dc ι ⟨mb,tm⟩ ts):
 let go:Go.Obj:=.loop {state:=dM,pending:=Ag,fn:=f',tmps:=ts,params:=ps.toArray,assign:=gL,body:=bd,defers:=ld.b}
 Inv N ι (σ.put l (.loop dM Ag f tm mb ps gL bd ga)) {w with heap:=w.heap.setIfInBounds loc.b go}/\Le ro ι w σ ι {w with heap:=w.heap.setIfInBounds loc.b go} (σ.put l (.loop dM Ag f tm mb ps gL bd ga)):=by
 intro go;have ak:=hi.gU l _ ⟨0,loc,hl,rfl⟩;exact hi.xz aT eA hl ⟨loc,ld,ts,f',hl,hd,heap_set ak,he.1.symm,he.2⟩
def HP{l:Nat}{R:Ending->World->Prop}{ex:Ex}{ch:List PanicEntry}(hx:¬ex.Fj=ab){a:Act}{w:World}(h:∃v w',(aDt l (fV ex)).run P w=.ok v w'/\R (.returned v) w'):roundPost P l R (HN ch ex) a w:=by
 cases ex<;>first|exact h|exact absurd rfl hx
def ae0(hS:iJ P S m)(hm:bY S){l:Nat}{loc:Loc}{args:List IV}{us:List Value}{v:IV}{au:St}(h:Ej S ro l args σ=aa (v,au))(hN:au.n<=N)(hF:kH F rd ι)(hi:Inv N ι σ w)
 (hl:ι l 0=aa loc)(hr:aN ι args us):
 ∃f' ts gL bd,(aCG loc.b us.toArray).run P w=.ok (.round loc.b f' ts gL bd) w/\RoundIn F 0 P loc.b f' ts gL bd w (Af N ro ι w σ v au):=by
 unfold Ej at h;split at h
 .rename_i state pending f tm mb params assign body ga aT;split at h
  .cases h
  .rename_i hc;have cU:args.length=params.length:=aAL λhx=>hc (.inl hx);have qP:ro<=l:=aAL λhx=>hc (.inr (.inl hx));have hc3:state=.ready:=aAL λhx=>hc (.inr (.inr hx));simp only at h;split at h
   .rename_i e1 av h1;split at h
    .rename_i ae1 f1 AV Fk params1 Xp ahs tA uI;split at h
     .rename_i ex e2 cO h2;split at h
      .cases h
      rename_i hnp;split at h
      .rename_i st3 axP f3 Kr DQ params3 axy axQ nU A6;cases h;obtain⟨ld,ts,f',hd,hh,he,ak⟩:=ko hi aT hl;have A7:cO.n<=N:=hN
       have eG:av.n<=N:=by
        have:=hm _ _ _ _ _ _ _ _ h2;simp only[St.qK]at this;omega
       have bo:us.toArray.size=params.toArray.size:=by simp[<-hr.1,cU]
       refine⟨f',(params.zip us).foldl (λtmps (t,a)=>tmps.setIfInBounds t a) ts,assign,body,?_,?_⟩
       .have hz:((params.toArray.zip us.toArray).foldl (λtmps (t,a)=>tmps.setIfInBounds t a) ts)=(params.zip us).foldl (λtmps (t,a)=>tmps.setIfInBounds t a) ts:=by simp[List.zip_toArray]
        simp only[aCG,ayT,pH hh,ayM,bo,ne_eq,not_true_eq_false,if_false,ay9,hz]
       .refine roundIn_of_wpIn (hF.fn f') ?_;rw[hF.inRound];refine(hS N ro (aa l) f assign _ [] σ _ h1 eG (azk.inRound loc.b) ι {tmps:=_,defers:=[]} w _ (.inr ⟨l,loc,rfl,hl,rfl⟩) hi (HO he hr) trivial ?_).wp;intro a1 w1 bQ fC i1 l1 cS d1 p1;have om:=l1.ext _ _ _ hl;obtain⟨ld1,ts1,f1',Cg,xf,nq,rI⟩:=ko i1 uI om;obtain⟨i2,l2⟩:=AG (ro:=ro) (dM:=.busy) (Ag:=ae1) (f':=f1') i1 qP uI om Cg nq;refine⟨_,by simp only[Instr.beginRound,ayT,pH xf,ayM,gC (P:=P) xf aw,ay9];rfl,?_⟩;refine(hS N ro (aa l) f body _ [] _ _ h2 A7 (azk.inRound loc.b) bQ a1 _ _ (.inr ⟨l,loc,rfl,om,rfl⟩) i2 cS d1 ?_).wp;intro a2 w2 sY ch2 i3 l3 e2' d2 p2;refine HP hnp ?_;have gb:=l3.ext _ _ _ om;obtain⟨ld2,ts2,f2',Ks,va,Ch,ek⟩:=ko i3 A6 gb;obtain⟨i4,l4⟩:=AG (ro:=ro) (dM:=if(fV ex).isNone then .ready else .done) (Ag:=fV ex) (f':=f2') i3 qP A6 gb Ks Ch;refine⟨.bool (fV ex).isNone,_,by simp only[aDt,ayT,pH va,ayM,gC (P:=P) va aw,ay9];rfl,sY,?_,?_,?_⟩
        .exact .raw _
        .exact i4
        .have tQ:=Le.then i2 A7 l3 l4;have Ci:=Le.then i1 (by simp only[St.qK];exact eG) l2 tQ;exact Le.then hi eG l1 Ci
      .cases h
     .cases h
    .cases h
   .cases h
 .cases h
def jd{ρ:Operand->IV}{o:Oper}{out:gT}(h:aA P ro ρ o σ=aa out)(hd:∀d,out≠.dfr d):∀c,o.op≠.defer c:=by
 intro c hc;simp only[aA]at h
 grind
def EB(hS:iJ P S m)(hC:eX P S)(hm:bY S){o:Oper}{v:IV}{au:St}{next:Act->World->Prop}(h:kW P S ro e o σ=aa (v,au))(hN:au.n<=N)(hF:kH F rd ι)(hi:Inv N ι σ w)
 (he:dc ι e a.tmps)(hQ:∀u w' aM,Rv aM v u->Inv N aM au w'->Le ro ι w σ aM w' au->next (a.put o.dst u) w'):o.wpIn F 0 P a w next Q:=by
 refine⟨λf _=>hF.fn f,?_⟩;unfold kW at h;split at h
 .rename_i v1 av h1;cases h;rw[aAo _ _ _ (jd h1 aw)];have⟨u,w',aM,hr,h2,h3,h4⟩:=qO hi he.eval h1 hN;rcases hr with hr|⟨hr,rfl⟩
  .rw[hr,aBt];grind
  .rw[hr,aDg];grind
 .rename_i f args h1;rw[aAo _ _ _ (jd h1 aw)];have⟨us,hr,h2⟩:=qO hi he.eval h1;rw[hr,aB4];refine⟨hF.depth,(hF.calls (hC.call N ro f args σ v au h hN ι us w hi h2)).mono λe w' hR=>?_⟩;cases e with
  |returned u=>have⟨aM,h3,h4,h5⟩:=hR;grind
  |panicked chain=>cases hR
  |outgrown=>cases hR
 .rename_i l args h1;rw[aAo _ _ _ (jd h1 aw)];have⟨loc,us,hl,hr,h2⟩:=qO hi he.eval h1;have⟨f',ts,gL,bd,h3,h4⟩:=ae0 (F:=F) hS hm h hN hF hi hl h2;rw[hr,h3,Oper.uponIn_round];refine⟨hF.depth,RoundIn.mono h4 λe w' hR=>?_⟩;cases e with
  |returned u=>have⟨aM,h3,h4,h5⟩:=hR;grind
  |panicked chain=>cases hR
  |outgrown=>cases hR
 grind
theorem MG(hS:iJ P S m)(hC:eX P S)(hm:bY S)(hk:bI S){ops:Array Oper}:∀{l:List Oper} {k:Nat} {e:Env} {df:List Df} {σ:St} {cr:CR} {ι:Io} {a:Act} {w:World},
 ops.toList.drop k=l->BZ P S ro rd ops l e df σ=aa cr->cr.σ.n<=N->kH F rd ι->Inv N ι σ w->dc ι e a.tmps->mf ι df a.defers->uH N ro ι w σ cr Q->
 wpOpsIn F 0 P ops Q (aAx k l.length) a w
 |[],k,e,df,σ,cr,ι,a,w,hl,h,hN,hF,hi,he,hd,hQ=>by
  cases h;exact hQ a w ι [] hi (Le.refl _ _ _ _) he hd trivial
 |o::rest,k,e,df,σ,cr,ι,a,w,hl,h,hN,hF,hi,he,hd,hQ=>by
  have kj:ops.toList.drop (k+1)=rest:=by
   rw[<-aAR (i:=1) (j:=k),hl];rfl
  have bf:ops[k]?=aa o:=by
   have:(ops.toList.drop k)[0]?=aa o:=bc
   grind
  simp only[azh,aBf];rw[wpOpsIn_cons];unfold wpOpIn;rw[bf];simp only;unfold BZ at h;rw[u_ he];split at h
  .rename_i hw;rw[if_pos hw];split at h
   .rename_i v av h1;have eG:=ay6 (A5 hm hk h) hN;refine EB hS hC hm h1 eG hF hi he λu w' aM hv i1 l1=>?_;exact MG hS hC hm hk kj h hN (hF.mono l1.ext) i1 ((he.mono l1.ext).put hv _) (hd.mono l1.ext|>λx=>by cases o.dst<;>exact x) (hQ.from hi l1 eG)
   .split at h
    .rename_i d h1;split at h
     .have hrn:rd=ah:=yO
      have hFe:F=azk:=by
       rcases hF with⟨_,h2⟩|⟨_,_,h2,_⟩
       all_goals grind
      refine⟨λf _=>hF.fn f,?_⟩;have⟨dd,hr,Kt,c,hc⟩:=qO hi he.eval h1;have ae2:(o.semAt F.round a.eval)=execOp a.eval o:=by rw[hFe];rfl
      rw[ae2,hr,aC5];refine MG hS hC hm hk kj h hN hF hi ?_ ?_ hQ
      .cases eY:o.dst with
       |none=>exact he
       |some t=>exact he.set uG t
      .cases o.dst<;>exact⟨Kt,hd⟩
     grind
    .rename_i f args h1;split at h
     .rename_i v av h2;cases h;refine⟨λf _=>hF.fn f,?_⟩;rw[aAo _ _ _ (jd h1 aw)];have⟨us,hr,h3⟩:=qO hi he.eval h1;rw[hr,aB4];refine⟨hF.depth,(hF.calls (hC.cg N ro f args σ v av h2 hN ι us w hi h3)).mono λed w' hR=>?_⟩;cases ed with
      |returned u=>cases hR
      |outgrown=>cases hR
      |panicked chain=>
       have⟨aM,h4,h5,h6⟩:=hR;exact hQ a w' aM chain h5 h6 (he.mono h6.ext) (hd.mono h6.ext) h4
     grind
    .rename_i v h1;cases h;refine⟨λf _=>hF.fn f,?_⟩;rw[aAo _ _ _ (jd h1 aw)];have⟨u,hr,h3⟩:=qO hi he.eval h1;rw[hr,Oper.uponIn_panic];exact hQ a w ι [{v:=u,recovered:=af}] hi (Le.refl _ _ _ _) he hd ⟨u,rfl,h3⟩
    grind
  .rename_i hw;rw[if_neg hw];exact⟨λf _=>hF.fn f,MG hS hC hm hk kj h hN hF hi (he.put uG _) (by cases o.dst<;>exact hd) hQ⟩
def Tv(P:Program)(S:Self):Prop:=∀N ro rd ops e df σ cr,S3 P S ro ops e df σ=aa cr->cr.σ.n<=N->∀F ι a w Q id,kH F rd ι->Inv N ι σ w->dc ι e a.tmps->mf ι df a.defers->
 uH N ro ι w σ cr Q->(aD5 id ops ab).wpIn F 0 P Q a w
def Lb{x:IV}{b:Bool}{u:Value}(hx:x=.raw (.bool b))(h:Rv ι x u):u=.bool b:=by subst hx;cases h;rfl
theorem mf.append:∀{ds:List Df} {xs:List Deferred} {qe:List Df} {yZ:List Deferred},mf ι ds xs->mf ι qe yZ->mf ι (ds++qe) (xs++yZ)
 |[],[],_,_,_,h=>h
 |_::_,_::_,_,_,h,h'=>⟨h.1,mf.append h.2 h'⟩
 |[],_::_,_,_,h,_=>h.elim
 |_::_,[],_,_,h,_=>h.elim
def Tw(rd:Option Nat)(σ:St):Option (Nat×St×List Df):=
 match rd with
 |none=>aa (σ.n,σ.add (.Ha af),[.xu σ.n])
 |some l=>match σ.at l with
  |some (.loop _ _ _ _ _ _ _ _ ga)=>aa (ga,σ,[])
  |_=>ah
def Tx{ga:Nat}{av:St}{mark:List Df}(h:Tw rd σ=aa (ga,av,mark))(hN:av.n<=N)(hF:kH F rd ι)(hi:Inv N ι σ w):
 ∃w1 bQ ld marks,Inv N bQ av w1/\Le ro ι w σ bQ w1 av/\bQ ga 0=aa ld/\mf bQ mark marks/\
  ∀fn ts ps gL bd,(aDh fn ts ps gL bd F.round).run P w=.ok (w1.heap.size,marks) {w1 with heap:=w1.heap.push (.loop {state:=.ready,pending:=ah,fn,tmps:=ts,params:=ps,assign:=gL,body:=bd,defers:=ld.b})}:=by
 unfold Tw at h;split at h
 .cases h
  have hFe:F.round=ah:=by
   rcases hF with⟨_,rfl⟩|⟨_,_,h,_⟩
   .rfl
   grind
  have⟨h1,h2⟩:=hi.Ez (ro:=ro) (go:=.deferred (aa [])) (ob:=.Ha af) (by assumption) ⟨_,cC _ _ _ _,by simp⟩;refine⟨_,_,⟨w.heap.size,1,1⟩,[{target:=.collected w.heap.size,args:= #[]}],h1,h2,cC _ _ _ _,⟨⟨_,cC _ _ _ _,rfl⟩,trivial⟩,λfn ts ps gL bd=>?_⟩;rw[hFe];rfl
 .split at h
  .rename_i aT;cases h;rcases hF with⟨h,_⟩|⟨l',loc,h,hl,rfl⟩
   .cases h
   .cases h;have⟨ld,ts,f',hd,hh,he,ak⟩:=ko hi aT hl;refine⟨w,ι,ld,[],hi,Le.refl _ _ _ _,hd,trivial,λfn ts ps gL bd=>?_⟩;simp only[aDh,aDA,ayT,pH hh,run_newObj,ayM,ay9]
  grind
def ae3(hS:iJ P S m)(hC:eX P S)(hm:bY S)(hk:bI S){fn:FuncId}{g:Operand}{ps:Array Tmp}{gL bd:Code}{df:List Df}{cr:CR}
 (h:AW P S ro rd fn (.rangeFunc g ps gL bd) e df σ=aa cr)(hN:cr.σ.n<=N)(hF:kH F rd ι)(hi:Inv N ι σ w)(he:dc ι e a.tmps)(hd:mf ι df a.defers)(hQ:uH N ro ι w σ cr Q):
 (Code.rangeFunc g ps gL bd).wpIn F 0 P Q a w:=by
 simp only[AW]at h
 change(match Tw rd σ with
  |some (ga,σ,mark)=>_
  |none=>ah)=aa cr at h
 split at h
 .rename_i ga av mark tP;split at h
  .rename_i f args pI;split at h
   .rename_i v3 mh ahu;split at h
    .rename_i st DN f3 tm mb vb Ku vc nU A6;split at h<;>try cases h
     rename_i hb;have cd:=λhx=>hb (.inl hx);have dw:=aAL λhx=>hb (.inr hx)
     have Kv:mh.n<=N:=by
      split at h
      .cases h;exact hN
      .have:=hm _ _ _ _ _ _ _ _ h
       grind [St.qK]
     have A7:=hk.call _ _ _ _ _ _ ahu;simp only[St.pD]at A7;have⟨w1,bQ,ld,marks,i1,l1,vG,MH,Ou⟩:=Tx (P:=P) (ro:=ro) tP aj hF hi;refine wpIn_rangeFunc λQH _=>?_;have ki:=i1.fresh av.n (ayL _) aj 0;have iX:=mz (l:=⟨w1.heap.size,1,1⟩) ki
     have⟨i2,l2⟩:=i1.Ez (ro:=ro) (go:=.loop {state:=.ready,pending:=ah,fn:=QH,tmps:=a.tmps,params:=ps,assign:=gL,body:=bd,defers:=ld.b}) (ob:=.loop .ready ah fn e.t e.n ps.toList gL bd ga) aj
      ⟨⟨w1.heap.size,1,1⟩,ld,a.tmps,QH,cC _ _ _ _,iX _ _ _ vG,by simp,he.1.symm,λt=>((he.2 t).mono l1.ext).mono iX⟩
     have gb:eR bQ av.n 0 ⟨w1.heap.size,1,1⟩ av.n 0=aa ⟨w1.heap.size,1,1⟩:=cC _ _ _ _;generalize XC:({w1 with heap:=w1.heap.push (.loop {state:=.ready,pending:=ah,fn:=QH,tmps:=a.tmps,params:=ps,assign:=gL,body:=bd,defers:=ld.b})}:World)=w2 at i2 l2;generalize eR bQ av.n 0 ⟨w1.heap.size,1,1⟩=sY at i2 l2 gb iX;have⟨d,j8,jy⟩:=Cf (w:=w2) (((he.mono l1.ext).mono iX).eval g) (aN.cons (.sX av.n _ gb) aN.nil) pI;rcases jy with⟨f',as,vs,gw,hinv,eB,_⟩|⟨_,_,gw,_⟩
     .cases gw;refine⟨w1.heap.size,marks,w2,d,w2,f,vs.toArray,w2,by grind,?_,λf' _=>hF.fn f',hinv,hF.depth,?_⟩
      .simp_all[resolve,Act.eval]
      .refine(hF.calls (hC.call N ro f args _ _ _ ahu Kv sY vs w2 i2 eB)).mono λed w3 hR=>?_;cases ed with
       |panicked chain=>cases hR
       |outgrown=>cases hR
       |returned u=>
        have⟨XD,_,i3,l3⟩:=hR;have Cj:=l3.ext _ _ _ gb;have⟨ld3,ts3,f3',hd3,A8,QI,HQ⟩:=ko i3 A6 Cj;have⟨i4,l4⟩:=AG (ro:=ro) (dM:=.exhausted) (Ag:=DN) (f':=f3') i3 dw A6 Cj hd3 QI;refine⟨DN,_,by simp only[Instr.endLoop,ayT,pH A8,ayM,QG st cd,azi,if_false,gC (P:=P) A8 aw];rfl,?_⟩;have l34:=Le.then i2 Kv l3 l4;have Ci:=Le.then i1 (by grind [St.pD]) l2 l34;have tQ:=Le.then hi aj l1 Ci;have e4:=he.mono tQ.ext;have d4:=(MH.mono Ci.ext).append (hd.mono tQ.ext);split at h
        .cases h;exact hQ _ _ _ [] i4 tQ e4 d4 trivial
        .rename_i c;exact(hS N ro rd fn c e _ _ cr h hN F XD {a with defers:=marks++a.defers} _ Q (hF.mono tQ.ext) i4 e4 d4 (hQ.from hi tQ yO)).wp
     grind
    grind
   grind
  grind
 grind
def XE(hS:iJ P S m)(hC:eX P S)(hm:bY S)(hk:bI S)(hD:Tv P S):iJ P (nj P S) (m+1):=by
 intro N ro rd fn c e df σ cr h hN F ι a w Q hF hi he hd hQ;change AW P S ro rd fn c e df σ=aa cr at h;cases c<;>unfold AW at h<;>dsimp only at h
 case skip=>cases h;exact wpIn_skip (hQ a w ι [] hi (Le.refl _ _ _ _) he hd trivial)
 case label=>cases h;exact wpIn_label (hQ a w ι [] hi (Le.refl _ _ _ _) he hd trivial)
 case exit=>cases h;exact wpIn_exit (hQ a w ι [] hi (Le.refl _ _ _ _) he hd trivial)
 case goto=>cases h;exact wpIn_goto (hQ a w ι [] hi (Le.refl _ _ _ _) he hd trivial)
 case ret=>cases h;exact wpIn_ret (hQ a w ι [] hi (Le.refl _ _ _ _) he hd trivial)
 case refuse=>cases h
 case region id ops draw=>
  split at h
  .rename_i MB;subst MB;exact hD N ro rd ops e df σ cr h hN F ι a w Q id hF hi he hd hQ
  .have:draw=af:=bc;subst this;refine wpIn_region ?_;have:=MG (k:=0) hS hC hm hk aw h hN hF hi he hd hQ
   simp_all[aBE]
 case seq x y=>
  refine wpIn_seq ?_;split at h
  .rename_i e1 tR av h1;have eG:=ay6 (hm _ _ _ _ _ _ _ _ h) hN;refine(hS N ro rd fn x e df σ _ h1 eG F ι a w _ hF hi he hd ?_).wp;intro a1 w1 bQ fC i1 l1 cS d1 p1;exact(hS N ro rd fn y _ _ _ _ h hN F bQ a1 w1 Q (hF.mono l1.ext) i1 cS d1 (hQ.from hi l1 eG)).wp
  .rename_i gx;refine(hS N ro rd fn x e df σ _ h hN F ι a w _ hF hi he hd ?_).wp;intro a1 w1 bQ fC i1 l1 cS d1 p1;have:=hQ a1 w1 bQ fC i1 l1 cS d1 p1;cases hx:cr.ex with
   |normal=>exact absurd (by rw[h];cases cr;grind) (gx cr.e cr.df cr.σ)
   |exit id=>rw[hx]at this;exact this
   |goto l=>rw[hx]at this;exact this
   |ret=>rw[hx]at this;exact this
   |cg v=>rw[hx]at this;exact this
 case cond c x y=>
  split at h
  .rename_i t ht;have hc:=Lb ht (he.eval c);exact wpIn_cond hc (hS N ro rd fn _ e df σ cr h hN F ι a w Q hF hi he hd hQ).wp
  grind
 case block id x=>
  refine wpIn_block ?_;split at h
  .rename_i bz e1 tR av h1
   have eG:av.n<=N:=by
    grind
   refine(hS N ro rd fn x e df σ _ h1 eG F ι a w _ hF hi he hd ?_).wp;intro a1 w1 bQ fC i1 l1 cS d1 p1;simp only[HN,aDZ];split at h
   .rename_i hid;cases h;rw[if_pos hid];exact hQ a1 w1 bQ fC i1 l1 cS d1 p1
   .rename_i hid;cases h;rw[if_neg hid];exact hQ a1 w1 bQ fC i1 l1 cS d1 p1
  .rename_i gx;refine(hS N ro rd fn x e df σ _ h hN F ι a w _ hF hi he hd ?_).wp;intro a1 w1 bQ fC i1 l1 cS d1 p1;have:=hQ a1 w1 bQ fC i1 l1 cS d1 p1;cases hx:cr.ex with
   |exit bz=>exact absurd (by rw[h];cases cr;grind) (gx bz cr.e cr.df cr.σ)
   |normal=>rw[hx]at this;exact this
   |goto l=>rw[hx]at this;exact this
   |ret=>rw[hx]at this;exact this
   |cg v=>rw[hx]at this;exact this
 case loop x=>
  show aDP F 0 P x Q (m+1) a w;rw[roundsIn_succ];split at h
  .rename_i e1 tR av h1;have eG:=ay6 (hm _ _ _ _ _ _ _ _ h) hN;refine(hS N ro rd fn x e df σ _ h1 eG F ι a w _ hF hi he hd ?_).wp;intro a1 w1 bQ fC i1 l1 cS d1 p1;exact hS N ro rd fn (.loop x) _ _ _ _ h hN F bQ a1 w1 Q (hF.mono l1.ext) i1 cS d1 (hQ.from hi l1 eG)
  .rename_i gx;refine(hS N ro rd fn x e df σ _ h hN F ι a w _ hF hi he hd ?_).wp;intro a1 w1 bQ fC i1 l1 cS d1 p1;have:=hQ a1 w1 bQ fC i1 l1 cS d1 p1;cases hx:cr.ex with
   |normal=>exact absurd (by rw[h];cases cr;grind) (gx cr.e cr.df cr.σ)
   |exit id=>rw[hx]at this;exact this
   |goto l=>rw[hx]at this;exact this
   |ret=>rw[hx]at this;exact this
   |cg v=>rw[hx]at this;exact this
 case scope x=>
  refine ME ?_;split at h<;>try cases h
  rename_i gx;refine(hS N ro rd fn x e df σ _ h hN F ι a w _ hF hi he hd ?_).wp;intro a1 w1 bQ fC i1 l1 cS d1 p1;have:=hQ a1 w1 bQ fC i1 l1 cS d1 p1;cases hx:cr.ex with
  |goto l=>exact absurd (by rw[h];cases cr;grind) (gx l cr.e cr.df cr.σ)
  |normal=>rw[hx]at this;exact this
  |exit id=>rw[hx]at this;exact this
  |ret=>rw[hx]at this;exact this
  |cg v=>rw[hx]at this;exact this
 case rangeFunc g params assign body=>
  exact ae3 hS hC hm hk (by assumption) hN hF hi he hd hQ
def Ov{m:Option IV}{u:FrameMode}(h:pG ι m u):u≠.run:=by
 cases m with
 |none=>rw[show u=_ from h];simp
 |some v=>obtain⟨x,rfl,_⟩:=h;simp
theorem FA(hC:eX P S)(hk:bI S){fn:Func}{ts:Array Value}{R:Ending->World->Prop}:∀{df:List Df} {ds:List Deferred} {σ au:St} {m m':Option IV} {u:FrameMode} {ι:Io} {w:World},g_ S ro df m σ=aa (m',au)->
 mf ι df ds->pG ι m u->Inv N ι σ w->au.n<=N->
 (∀w' aM u',Inv N aM au w'->Le ro ι w σ aM w' au->pG aM m' u'->LeavesIn azk 0 P fn ts R [] u' w')->LeavesInM azk 0 P fn ts R ds u w
 |[],[],σ,au,m,m',u,ι,w,h,_,hu,hi,_,hQ=>by
  cases h;exact hQ w ι u hi (Le.refl _ _ _ _) hu
 |.xu id::df,d::ds,σ,au,m,m',u,ι,w,h,hd,hu,hi,hn,hQ=>by
  unfold g_ at h;obtain⟨⟨l,hl,rfl⟩,vH⟩:=hd;split at h
  .rename_i aT;split at h
   .rename_i eA;have⟨l',cJ,hh⟩:=hi.obj id _ aT;rw[hl]at cJ;cases cJ;have ak:=hi.gU id _ ⟨0,l,hl,rfl⟩;have⟨i1,l1⟩:=hi.xz (ro:=ro) (go:=.deferred ah) (fB:=.Ha ab) aT eA hl ⟨l,hl,heap_set ak⟩;have eO:=lL hk h;refine⟨Ov hu,.inl ⟨l.b,_,rfl,?_,FA hC hk h vH hu i1 hn λw' aM u' i2 l2 Kj=>hQ w' aM u' i2 (Le.then hi bc l1 l2) Kj⟩⟩;simp only[Instr.takeDeferred,ayT,c7 (P:=P) hh aw,ayM,azi,if_false,gC (P:=P) hh aw,ay9]
   grind
  grind
 |.call f args::df,d::ds,σ,au,m,m',u,ι,w,h,hd,hu,hi,hn,hQ=>by
  unfold g_ at h;obtain⟨⟨cap,us,vs,rfl,eB,kG⟩,vH⟩:=hd;split at h
  .rename_i m1 av h1;have eO:=lL hk h;have hc:=hC.zP N ro f args m σ m1 av h1 aj ι vs u w hu hi eB;refine⟨Ov hu,.inr ⟨by simp[azk],.func f,cap.toArray,f,vs.toArray,rfl,?_,λg _=>trivial,?_⟩⟩
   .have⟨QH,dk,hb⟩:=hC.EA ro f args m σ m1 av h1;simp only[invoke];rw[DP dk hb,kG];simp
   .refine hc.mono λe u' w' hR=>?_;cases e with
    |returned v=>
     have⟨bQ,xg,i1,l1⟩:=hR;exact FA hC hk h (vH.mono l1.ext) xg i1 hn λw2 sY u2 i2 l2 y6=>hQ w2 sY u2 i2 (Le.then hi aj l1 l2) y6
    |panicked chain=>cases hR
    |outgrown=>cases hR
  grind
 |[],_::_,_,_,_,_,_,_,_,_,h,_,_,_,_=>h.elim
 |.xu _::_,[],_,_,_,_,_,_,_,_,h,_,_,_,_=>h.elim
 |.call _ _::_,[],_,_,_,_,_,_,_,_,h,_,_,_,_=>h.elim
def DR(P:Program)(e:Env)(σ:St)(r:ResultVar):Option IV:=
 match r with
 |.tmp t=>aa (e.at t)
 |.cell a t=>match e.at a with
  |.ptr id off ep ext=>match aX P t,σ.at id with
   |some s,aa (.cells cs aE mn)=>if s<=ext/\mn<=ep/\ep<=aE then partOf P t cs off else ah
   |_,_=>ah
  |_=>ah
def Ty(ts:Array Value)(r:ResultVar):Sem Value:=
 match r with
 |.tmp t=>pure (ts.getD t azm)
 |.cell a t=>do loadVar t (<-asAddr (ts.getD a azm))
def alu{ts:Array Value}{r:ResultVar}{v:IV}(h:DR P e σ r=aa v)(hi:Inv N ι σ w)(he:dc ι e ts):∃u,(Ty ts r).run P w=.ok u w/\Rv ι v u:=by
 unfold DR at h;unfold Ty;cases r with
 |tmp t=>cases h;exact⟨_,by simp only[ay9],he.2 t⟩
 |cell a t=>
  simp only at h⊢;have hr:=he.2 a;split at h<;>try cases h
  rename_i id off ep ext hx;rw[hx]at hr;split at h<;>try cases h
  rename_i s cs aE mn hs aT;split at h<;>try cases h
  rename_i hc;have⟨ad,x,hu,h1,h2⟩:=HA hi hs aT hc.1 hc.2.1 hc.2.2 h hr;refine⟨x,?_,h2⟩;rw[hu];simp only[asAddr,ayT,ay9,ayM,h1]
theorem XF{ts:Array Value}(hi:Inv N ι σ w)(he:dc ι e ts):∀{rs:List ResultVar} {vs:List IV},rs.mapM (DR P e σ)=aa vs->∃us,(rs.mapM (Ty ts)).run P w=.ok us w/\aN ι vs us
 |[],vs,h=>by
  cases h;exact⟨[],by rfl,aN.nil⟩
 |r::rs,vs,h=>by
  rw[aBl]at h;cases h1:DR P e σ r with
  |none=>grind
  |some v=>
   rw[h1]at h;cases h2:rs.mapM (DR P e σ)with
   |none=>grind
   |some zQ=>
    rw[h2]at h;cases h;have⟨u,k1,k2⟩:=alu h1 hi he;have⟨us,k3,k4⟩:=XF hi he h2;exact⟨u::us,by simp_all,aN.cons k2 k4⟩
def ZK(fn:Func)(ts:Array Value):results fn ts=(do
 let vs<-fn.results.mapM (Ty ts)
 pure (if h:vs.size=1 then vs[0]else .tuple vs)):=by
 rfl
def W7{fn:Func}{v:IV}(h:dh P fn e σ=aa v):∃vs,fn.results.toList.mapM (DR P e σ)=aa vs/\((∃x,vs=[x]/\v=x)\/(vs.length≠1/\v=.aF vs)):=by
 change(match fn.results.toList with
  |[r]=>DR P e σ r
  |l=>match l.mapM (DR P e σ)with
   |some vs=>aa (.aF vs)
   |none=>ah)=aa v at h
 split at h<;>try simp_all
 rename_i hl;split at h
 .rename_i vs eB;cases h;refine⟨vs,eB,.inr ⟨λhlen=>?_,rfl⟩⟩
  have om:fn.results.toList.length=vs.length:=by
   clear hl hlen;generalize fn.results.toList=l at eB;induction l generalizing vs with
   |nil=>grind
   |cons r rs ih=>
    rw[aBl]at eB;cases h1:DR P e σ r with
    |none=>grind
    |some v=>
     rw[h1]at eB;cases h2:rs.mapM (DR P e σ)with
     |none=>grind
     |some zQ=>
      rw[h2]at eB;cases eB
      grind
  cases hc:fn.results.toList with
  |nil=>grind
  |cons r rs=>
   simp_all
 grind
def vI{fn:Func}{ts:Array Value}{v:IV}(h:dh P fn e σ=aa v)(hi:Inv N ι σ w)(he:dc ι e ts):∃u,(results fn ts).run P w=.ok u w/\Rv ι v u:=by
 have⟨vs,eB,h⟩:=W7 h;have⟨us,h1,h2⟩:=XF hi he eB
 have hm:(fn.results.mapM (Ty ts)).run P w=.ok us.toArray w:=by
  rw[Array.mapM_eq_mapM_toList,Sem.run_map,h1];rfl
 rw[ZK];simp only[ayT,hm];refine⟨_,rfl,?_⟩;rcases h with⟨x,rfl,rfl⟩|⟨hlen,rfl⟩
 .obtain⟨u,rfl,hu⟩:=Jo h2
  grind
 .have:¬us.toArray.size=1:=by rw[List.size_toArray,<-h2.1];omega
  rw[dif_neg this];exact sD h2
theorem Tz:∀{args:List IV} {us:List Value} {k:Nat} {e:Env} {ts:Array Value},dc ι e ts->aN ι args us->
 dc ι ((args.zipIdx k).foldl (λe (v,i)=>e.put (aa i) v) e) ((us.zipIdx k).foldl (λts (u,i)=>ts.setIfInBounds i u) ts)
 |[],us,k,e,ts,h,hr=>by simp_all[hr.of_nil]
 |v::args,us,k,e,ts,h,hr=>by
  obtain⟨u,w9,rfl,h1,h2⟩:=hr.yQ;simp only[aB5];exact Tz (h.set h1 k) h2
theorem MI:∀(us:List Value) (k:Nat) (ts:Array Value),k+us.length<=ts.size->(us.zipIdx k).foldl (λts (u,i)=>ts.setIfInBounds i u) ts=(ts.toList.take k++us++ts.toList.drop (k+us.length)).toArray
 |[],k,ts,_=>by simp
 |u::us,k,ts,h=>by
  simp only[aB5,azo];rw[MI us (k+1) _ bc]
  congr 1
  have h1:(ts.toList.set k u).take (k+1)=ts.toList.take k++[u]:=by
   grind [List.take_add_one,List.take_set_of_le]
  have h2:(ts.toList.set k u).drop (k+1+us.length)=ts.toList.drop (k+(us.length+1)):=by
   rw[List.drop_set_of_lt aj]
   grind
  grind
def ajw(n:Nat):dc ι ⟨n,.lf⟩ (azF n azm):=by
 refine⟨by simp,λt=>?_⟩
 have:(azF n azm).getD t azm=azm:=by
  rw[azL,aCk]
  grind
 rw[this];exact .raw _
def A9{args:List IV}{us:List Value}{n:Nat}(hr:aN ι args us)(hn:args.length<=n):
 dc ι (args.zipIdx.foldl (λe (v,i)=>e.put (aa i) v) ⟨n,.lf⟩) (us.toArray++azF (n- us.toArray.size) azm):=by
 have h:=Tz (k:=0) (ajw (ι:=ι) n) hr;have hl:=hr.1;rw[MI us 0 _ bc]at h
 have:(us.toArray++azF (n- us.toArray.size) azm)=((azF n azm).toList.take 0++us++(azF n azm).toList.drop (0+us.length)).toArray:=by
  simp
 grind
def XG(hS:iJ P S m)(hC:eX P S)(hm:bY S)(hk:bI S){f:FuncId}{args:List IV}{TA:Func}{e':Env}{mo:Option IV}{au:St}{us:List Value}{R:Ending->World->Prop}
 (h:El P S ro f args σ=aa (TA,e',mo,au))(hN:au.n<=N)(hi:Inv N ι σ w)(hr:aN ι args us)
 (hQ:∀ts w' aM u',Inv N aM au w'->Le ro ι w σ aM w' au->dc aM e' ts->pG aM mo u'->LeavesIn azk 0 P TA ts R [] u' w'):CallsIn azk 0 P f us.toArray w R:=by
 unfold El at h;split at h
 .rename_i fn dk;split at h
  .rename_i c hb;split at h<;>try cases h
   simp only at h
   have key:∀{ex:Ex} {e1:Env} {df:List Df} {av:St} {mi:Option IV},S.code ro ah f c (args.zipIdx.foldl (λe (v,i)=>e.put (aa i) v) ⟨fn.ntmps,.lf⟩) [] σ=aa ⟨ex,e1,df,av⟩->
    (((ex=.normal\/ex=.ret)/\mi=ah)\/∃v,ex=.cg v/\mi=aa v)->
    (match g_ S ro df mi av with
     |some (m,σ)=>aa (fn,e1,m,σ)
     |none=>ah)=aa (TA,e',mo,au)->CallsIn azk 0 P f us.toArray w R:=by
    intro ex e1 df av mi h1 hex h;split at h
    .rename_i m2 cO h2;obtain⟨rfl,rfl,rfl,rfl⟩:fn=TA/\e1=e'/\m2=mo/\cO=au:=bc;clear h;have eO:=lL hk h2;have eG:av.n<=N:=aj;refine callsIn_of_wp_marks dk hb trivial ?_;refine(hS N ro ah f c _ [] σ _ h1 eG azk ι {tmps:=us.toArray++azF (fn.ntmps- us.toArray.size) azm,defers:=[]} w _ (.inl ⟨rfl,rfl⟩) hi (A9 hr aj) trivial ?_).wp;intro a1 w1 bQ fC i1 l1 cS d1 p1
     have:∀u,pG bQ mi u->LeavesInM azk 0 P fn a1.tmps R a1.defers u w1:=λu hu=>
      FA hC hk h2 d1 hu i1 hN λw2 sY u2 i2 l2 y6=>hQ a1.tmps w2 sY u2 i2 (Le.then hi eG l1 l2) (cS.mono l2.ext) y6
     rcases hex with⟨rfl|rfl,rfl⟩|⟨v,rfl,rfl⟩
     .exact this _ rfl
     .exact this _ rfl
     .obtain⟨u,rfl,hu⟩:=p1;exact this _ ⟨u,rfl,hu⟩
    grind
   split at h
   .rename_i h1;exact key h1 (.inl ⟨.inl rfl,rfl⟩) h
   .rename_i h1;exact key h1 (.inl ⟨.inr rfl,rfl⟩) h
   .rename_i h1;exact key h1 (.inr ⟨_,rfl,rfl⟩) h
   grind
  grind
 grind
def ub(ι:Io):Option IV->FrameMode->Prop
 |none,u=>u=.returning\/∃x,u=.panicking [{v:=x,recovered:=ab}]
 |some v,u=>∃x,u=.panicking [{v:=x,recovered:=af}]/\Rv ι v x
def ub.of{m:Option IV}{u:FrameMode}(h:pG ι m u):ub ι m u:=by
 cases m with
 |none=>exact .inl h
 |some v=>exact h
theorem ub.mono{aM:Io}(i_:Ext ι aM){m:Option IV}{u:FrameMode}(h:ub ι m u):ub aM m u:=by
 cases m with
 |none=>exact h
 |some v=>have⟨x,h1,h2⟩:=h;exact⟨x,h1,h2.mono i_⟩
theorem ub.settle{m:Option IV}{u:FrameMode}(h:ub ι m u):pG ι m (Go.settle u):=by
 cases m with
 |none=>
  rcases h with rfl|⟨x,rfl⟩
  .rfl
  .rfl
 |some v=>obtain⟨x,rfl,h2⟩:=h;exact⟨x,rfl,h2⟩
def ZL(N ro:Nat)(ι:Io)(w:World)(σ:St)(cr:CR)(m:Option IV)(c0:Frame)(tN:List Frame)(Q:Exit->Act->List Frame->World->Prop):Prop:=
 ∀a' w' aM u' ch,Inv N aM cr.σ w'->Le ro ι w σ aM w' cr.σ->dc aM cr.e a'.tmps->mf aM cr.df a'.defers->Tu aM ch cr.ex->ub aM m u'->Q (HN ch cr.ex) a' ({c0 with mode:=u'}::tN) w'
theorem AH{ops:Array Oper}{Q:Exit->Act->List Frame->World->Prop}{c0:Frame}{tN:List Frame}:∀{l:List Oper} {k:Nat} {e:Env} {σ:St} {e':Env} {mo rJ:Option IV} {au:St} {ι:Io} {a:Act} {u:FrameMode} {w:World},
 ops.toList.drop k=l->qb P ro ops l e mo σ=aa (e',rJ,au)->au.n<=N->Inv N ι σ w->dc ι e a.tmps->a.defers=[]->ub ι mo u->ZL N ro ι w σ ⟨.normal,e',[],au⟩ rJ c0 tN Q->
 wpOpsSIn azk 0 P ops Q (aAx k l.length) a ({c0 with mode:=u}::tN) w
 |[],k,e,σ,e',mo,rJ,au,ι,a,u,w,hl,h,hN,hi,he,hd,hu,hQ=>by
  cases h;exact hQ a w ι u [] hi (Le.refl _ _ _ _) he (by rw[hd];trivial) trivial hu
 |o::rest,k,e,σ,e',mo,rJ,au,ι,a,u,w,hl,h,hN,hi,he,hd,hu,hQ=>by
  have kj:ops.toList.drop (k+1)=rest:=by
   rw[<-aAR (i:=1) (j:=k),hl];rfl
  have bf:ops[k]?=aa o:=by
   have:(ops.toList.drop k)[0]?=aa o:=bc
   grind
  simp only[azh,aBf];unfold wpOpsSIn;rw[bf];refine⟨λf _=>trivial,?_⟩;have Lc:∀v,(a.put o.dst v).defers=[]:=λv=>by cases o.dst<;>exact hd
  unfold qb at h;rw[u_ he];split at h
  .rename_i hw;rw[if_pos hw];split at h
   .rename_i HR
    have hex:(execOp a.eval o).run P w=.ok .recover w:=by
     unfold pw at HR;split at HR
     .rename_i fk;simp only[execOp,fk,resolve,ayT,ay9,ayM,invoke,builtin]
     grind
    rw[hex];split at h
    .obtain⟨x,rfl,hx⟩:=hu;exact AH kj h hN hi (he.put hx _) (Lc _) (.inr ⟨x,rfl⟩) hQ
    .have ki:recoverD ({c0 with mode:=u}::tN)=ah:=by
      rcases hu with rfl|⟨x,rfl⟩<;>rfl
     rw[ki];exact AH kj h hN hi (he.put (.raw _) _) (Lc _) hu hQ
   .split at h
    .rename_i v av h1;have eG:=ay6 (yY h) hN;have⟨u1,w1,bQ,hr,h2,h3,h4⟩:=qO hi he.eval h1 eG;have hQ':=λa' w' aM u' ch g1 g2 g3 g4 g5 g6=>hQ a' w' aM u' ch g1 (Le.then hi eG h4 g2) g3 g4 g5 g6;rcases hr with hr|⟨hr,rfl⟩
     .rw[hr];exact AH kj h hN h3 ((he.mono h4.ext).put h2 _) (Lc _) (hu.mono h4.ext) hQ'
     .rw[hr];exact AH kj h hN h3 ((he.mono h4.ext).put h2 _) (Lc _) (hu.mono h4.ext) hQ'
    grind
  .rename_i hw;rw[if_neg hw];exact AH kj h hN hi (he.put uG _) (Lc _) hu hQ
def auq(hS:iJ P S m)(hm:bY S){fn:FuncId}{c0:Frame}{tN:List Frame}:∀{c:Code} {Q:Exit->Act->List Frame->World->Prop} {e:Env} {mo rJ:Option IV} {σ:St} {cr:CR} {ι:Io} {a:Act} {u:FrameMode} {w:World},
 Em P S ro fn c e mo σ=aa (cr,rJ)->cr.σ.n<=N->Inv N ι σ w->dc ι e a.tmps->a.defers=[]->ub ι mo u->ZL N ro ι w σ cr rJ c0 tN Q->c.wpSIn azk 0 P Q a ({c0 with mode:=u}::tN) w:=by
 intro c
 have other:∀{c:Code} {Q:Exit->Act->List Frame->World->Prop} {e:Env} {mo rJ:Option IV} {σ:St} {cr:CR} {ι:Io} {a:Act} {u:FrameMode} {w:World},(match S.code ro ah fn c e [] σ with|some r=>aa (r,mo)|none=>ah)=aa (cr,rJ)->
  cr.σ.n<=N->Inv N ι σ w->dc ι e a.tmps->a.defers=[]->ub ι mo u->ZL N ro ι w σ cr rJ c0 tN Q->c.wpSIn azk 0 P Q a ({c0 with mode:=u}::tN) w:=by
  intro c Q e mo rJ σ cr ι a u w h hN hi he hd hu hQ;split at h
  .rename_i h1;cases h;refine wpSIn_of_wpIn rfl ?_;refine(hS N ro ah fn c e [] σ _ h1 hN azk ι a w _ (.inl ⟨rfl,rfl⟩) hi he (by rw[hd];trivial) ?_).wp;intro a1 w1 bQ fC i1 l1 e1 d1 p1;exact hQ a1 w1 bQ u fC i1 l1 e1 d1 p1 (hu.mono l1.ext)
  grind
 induction c with
 |seq x y ihx ihy=>
  intro Q e mo rJ σ cr ι a u w h hN hi he hd hu hQ;unfold Em at h;refine wpSIn_seq ?_;split at h
  .rename_i e1 av m1 h1;have eG:=ay6 (La hm h) hN;refine ihx h1 eG hi he hd hu ?_;intro a1 w1 bQ u1 fC i1 l1 cS d1 p1 xg;exact ihy h hN i1 cS d1.nil xg λa' w' aM u' ch g1 g2 g3 g4 g5 g6=>hQ a' w' aM u' ch g1 (Le.then hi eG l1 g2) g3 g4 g5 g6
  .cases h
  .rename_i ayn aur;refine ihx h hN hi he hd hu ?_;intro a1 w1 bQ u1 fC i1 l1 cS d1 p1 xg;have:=hQ a1 w1 bQ u1 fC i1 l1 cS d1 p1 xg;cases hx:cr.ex with
   |normal=>exact absurd (by rw[h];cases cr;grind) (aur cr.e cr.df cr.σ rJ)
   |exit id=>rw[hx]at this;exact this
   |goto l=>rw[hx]at this;exact this
   |ret=>rw[hx]at this;exact this
   |cg v=>rw[hx]at this;exact this
 |region id ops draw=>
  intro Q e mo rJ σ cr ι a u w h hN hi he hd hu hQ;unfold Em at h;split at h
  .have MB:draw=af:=by
    grind
   subst MB;split at h
   .rename_i h1;cases h;refine wpSIn_region ?_;have:=AH (k:=0) aw h1 hN hi he hd hu hQ
    simp_all[aBE]
   grind
  grind
 |_=>
  grind [Em]
def alv(hS:iJ P S m)(hm:bY S){f:FuncId}{args:List IV}{mo rJ:Option IV}{au:St}(h:Fl P S ro f args mo σ=aa (rJ,au))(hN:au.n<=N){us:List Value}{u:FrameMode}(hu:pG ι mo u)(hi:Inv N ι σ w)(hr:aN ι args us):
 CallsDIn azk 0 P f us.toArray u w (MF N ro ι w σ rJ au):=by
 unfold Fl at h;split at h
 .rename_i fn dk;split at h
  .cases h
  split at h
  .rename_i c hb;split at h<;>try cases h
   have key:∀{ex:Ex} {e1:Env} {av:St} {m1:Option IV},Em P S ro f c (args.zipIdx.foldl (λe (v,i)=>e.put (aa i) v) ⟨fn.ntmps,.lf⟩) mo σ=aa (⟨ex,e1,[],av⟩,m1)->(ex=.normal\/ex=.ret)->
    (match dh P fn e1 av with
     |some _=>aa (m1,av)
     |none=>ah)=aa (rJ,au)->CallsDIn azk 0 P f us.toArray u w (MF N ro ι w σ rJ au):=by
    intro ex e1 av m1 h1 hex h;split at h
    .rename_i v hv;cases h;refine callsDIn_of_wpSIn dk hb trivial λc0 cs Hb=>?_;have cU:c0={c0 with mode:=u}:=by rw[<-Hb]
     have:=auq hS hm (c0:=c0) (tN:=cs) (Q:=bodyPostS P fn c0 cs (MF N ro ι w σ rJ au)) (a:={tmps:=us.toArray++azF (fn.ntmps- us.toArray.size) azm,defers:=[]}) h1 hN hi (A9 hr aj) rfl (ub.of hu) ?_
     .grind
     .intro a1 w1 bQ u1 fC i1 l1 cS d1 p1 xg;have⟨x,k1,k2⟩:=vI hv i1 cS;have:bodyPostS P fn c0 cs (MF N ro ι w σ rJ au) .ret a1 ({c0 with mode:=u1}::cs) w1:=⟨d1.nil,u1,rfl,x,k1,bQ,xg.settle,i1,l1⟩;rcases hex with rfl|rfl<;>exact this
    grind
   grind
  grind
 grind
def Ow(hS:iJ P S m)(hC:eX P S)(hm:bY S)(hk:bI S):eX P (nj P S) where
 call:=by
  intro N ro f args σ v au h hN ι us w hi hr;simp only[nj,S4]at h;split at h
  .rename_i TA e1 av h1;split at h
   .rename_i v' h2;cases h;refine XG hS hC hm hk h1 hN hi hr λts w' aM u' i1 l1 cS hu=>?_;rw[show u'=_ from hu];have⟨u,k1,k2⟩:=vI h2 i1 cS;exact⟨u,k1,aM,k2,i1,l1⟩
   grind
  grind
 cg:=by
  intro N ro f args σ v au h hN ι us w hi hr;simp only[nj,Zt]at h;split at h
  .rename_i h1;cases h;refine XG hS hC hm hk h1 hN hi hr λts w' aM u' i1 l1 cS hu=>?_;obtain⟨x,rfl,hx⟩:=hu;exact⟨aM,⟨x,rfl,hx⟩,i1,l1⟩
  grind
 zP:=by
  intro N ro f args mo σ rJ au h hN ι us u w hu hi hr;exact alv hS hm h hN hu hi hr
 EA:=by
  intro ro f args mo σ rJ au h;simp only[nj,Fl]at h
  grind
theorem ahv(hD:∀m S,iJ P S m->eX P S->bY S->bI S->Tv P S):∀n,iJ P (ev P n) n/\eX P (ev P n)/\bY (ev P n)/\bI (ev P n)
 |0=>by
  refine⟨?_,⟨?_,?_,?_,?_⟩,?_,⟨?_,?_,?_⟩⟩
  .intro N ro rd fn c e df σ cr h;cases h
  .intro N ro f args σ v au h;cases h
  .intro N ro f args σ v au h;cases h
  .intro N ro f args m σ m' au h;cases h
  .intro ro f args m σ m' au h;cases h
  .intro ro rd fn c e df σ cr h;cases h
  .intro ro f args σ v au h;cases h
  .intro ro f args σ v au h;cases h
  .intro ro f args m σ m' au h;cases h
 |n+1=>by
  have⟨h1,h2,h3,h4⟩:=ahv hD n;exact⟨XE h1 h2 h3 h4 (hD n _ h1 h2 h3 h4),Ow h1 h2 h3 h4,QE h3 h4,HM h3 h4⟩
def sE{ρ Ck:Operand->IV}{o:Oper}(h:∀x∈o.op.operands,ρ x=Ck x):aA P ro ρ o σ=aA P ro Ck o σ:=by
 obtain⟨dst,op,type,pos,after,guard⟩:=o
 have ahw:∀ps:Array (Nat×Operand),(∀x∈(ps.toList.map (·.2)),ρ x=Ck x)->(ps.toList.map λ(i,x)=>(i,ρ x))=(ps.toList.map λ(i,x)=>(i,Ck x)):=λps hp=>
  aAT λp hm=>by
   obtain⟨i,x⟩:=p;simp only[hp x (List.mem_map.2 ⟨(i,x),hm,rfl⟩)]
 cases op<;>simp only[Op.operands]at h<;>unfold aA<;>dsimp only
 case move x=>rw[h x aw]
 case assign x=>rw[h x aw]
 case pick c x y=>rw[h c aw,h x aw,h y aw]
 case box t x=>rw[h x aw]
 case build t ps=>rw[ahw ps λx hx=>h x (by simpa using hx)]
 case buildSlice t n ps=>rw[ahw ps λx hx=>h x (by simpa using hx)]
 case load t x=>rw[h x aw]
 case store t x y=>rw[h x aw,h y aw]
 case nilCheck x=>rw[h x aw]
 case binOp op t x y yT=>rw[h x aw,h y aw]
 case unOp op t x=>rw[h x aw]
 case convert s d x=>rw[h x aw]
 case makeInterface t x=>rw[h x aw]
 case makeFunc fn first captured=>
  rw[aAT (l:=first.toList) λx hx=>h x (by simp at hx;simp[hx]),aAT (l:=captured.toList) λx hx=>h x (by simp at hx;simp[hx])]
 case makeMap t r=>cases r with|none=>rfl|some x=>dsimp only;rw[h x aw]
 case makeSlice t x y=>rw[h x aw,h y aw]
 case slice t x lo hi mx=>
  have e1:lo.map ρ=lo.map Ck:=by cases lo with|none=>rfl|some y=>simp only[azl,h y aw]
  have e2:hi.map ρ=hi.map Ck:=by cases hi with|none=>rfl|some y=>simp only[azl,h y aw]
  have e3:mx.map ρ=mx.map Ck:=by cases mx with|none=>rfl|some y=>simp only[azl,h y aw]
  rw[h x aw,e1,e2,e3]
 case fieldAddr t x f=>rw[h x aw]
 case field t x f=>rw[h x aw]
 case indexAddr t x y=>rw[h x aw,h y aw]
 case index t x y=>rw[h x aw,h y aw]
 case lookup t x y ok=>rw[h x aw,h y aw]
 case mapUpdate t x y z=>rw[h x aw,h y aw,h z aw]
 case insert t x y z=>rw[h x aw,h y aw,h z aw]
 case range t x=>rw[h x aw]
 case next x s=>rw[h x aw]
 case entry x=>rw[h x aw]
 case extract x i=>rw[h x aw]
 case typeAssert x xt t ok=>rw[h x aw]
 case panic x=>rw[h x aw]
 case call c=>
  have ha:c.args.toList.map ρ=c.args.toList.map Ck:=aAT λx hx=>h x (by simp[aBK];right;simpa using hx);rw[ha];cases hc:c.callee with
  |value f=>dsimp only;rw[h f (by simp[aBK,hc])]
  |invoke r m=>rfl
  |builtin b=>rfl
 case defer c=>
  have ha:c.args.toList.map ρ=c.args.toList.map Ck:=aAT λx hx=>h x (by simp[aBK];right;simpa using hx);rw[ha];cases hc:c.callee with
  |value f=>dsimp only;rw[h f (by simp[aBK,hc])]
  |invoke r m=>rfl
  |builtin b=>rfl
structure Gn(Fr:Nat->Prop)(ι:Io)(cur:Nat->Option Ob)(w:World):Prop where
 mem:∀b c,ι.m b=aa c->∃e f,w.heap[b]?=aa (.cells c e f)
 sep:∀b c id,ι.m b=aa c->¬Own ι id b
 gU:∀id b,Own ι id b->b<w.heap.size
 inj:∀i j b,Own ι i b->Own ι j b->i=j
 fresh:∀id,Fr id->∀e,ι id e=ah
 obj:∀id o,cur id=aa o->my ι w id o
def Gn.inv{Fr:Nat->Prop}{cur:Nat->Option Ob}(h:Gn Fr ι cur w)(sub:∀id o,σ.at id=aa o->cur id=aa o)(fr:∀id,σ.n<=id->id<N->Fr id)(wf:∀id,σ.n<=id->σ.at id=ah):Inv N ι σ w:=
 ⟨h.mem,h.sep,h.gU,λid h1 h2=>h.fresh id (fr id h1 h2),h.inj,λid o ho=>h.obj id o (sub id o ho),wf⟩
def ZM{id:Nat}{o:Ob}(h:my ι w id o):∃e l,ι id e=aa l:=by
 cases o with
 |cells cs ep mn=>obtain⟨_,⟨l,hl,_⟩,_⟩:=h;exact⟨_,l,hl⟩
 |map es c=>obtain⟨l,_,hl,_⟩:=h;exact⟨_,l,hl⟩
 |sB s p=>obtain⟨l,hl,_⟩:=h;exact⟨_,l,hl⟩
 |kV a b c d=>obtain⟨l,_,hl,_⟩:=h;exact⟨_,l,hl⟩
 |loop a b c d e f g h' i=>obtain⟨l,_,_,_,hl,_⟩:=h;exact⟨_,l,hl⟩
 |Ha t=>obtain⟨l,hl,_⟩:=h;exact⟨_,l,hl⟩
def Cm(cur:Nat->Option Ob)(σ au:St)(id:Nat):Option Ob:=if(σ.at id).isSome\/(σ.n<=id/\id<au.n)then au.at id else cur id
structure Cn(ro nk:Nat)(gz:Io)(w0:World)(er:St)(Fr:Nat->Prop)(ι:Io)(cur:Nat->Option Ob)(w:World):Prop extends Gn Fr ι cur w where
 ext:Ext gz ι
 zz:∀b c,ι.m b=aa c->gz.m b=aa c\/w0.heap.size<=b
 own:∀id b,Own ι id b->Own gz id b\/w0.heap.size<=b
 B8:∀id,er.at id=ah->(id<er.n\/nk<=id)->∀e,ι id e=gz id e
 dead:∀id,er.at id=ah->(id<er.n\/nk<=id)->cur id=ah
 zx:∀id,id<ro->id<er.n->cur id=er.at id
 os:w.os=w0.os
 tape:w.tape=w0.tape
 output:w.output=w0.output
 size:w0.heap.size<=w.heap.size
 frame:∀b,b<w0.heap.size->(∀id,Own gz id b->id<ro\/er.at id=ah)->w.heap[b]?=w0.heap[b]?
def Cn.start{nk:Nat}(h:Inv N ι σ w)(A_:nk<=N):Cn ro nk ι w σ (λid=>σ.n<=id/\id<N) ι σ.at w:=
 {mem:=h.mem,sep:=h.sep,gU:=h.gU,inj:=h.inj,fresh:=λid hid=>h.fresh id hid.1 hid.2,obj:=h.obj,ext:=Ext.refl _,zz:=λ_ _ h=>.inl h,own:=λ_ _ h=>.inl h,
  B8:=λ_ _ _ _=>rfl,dead:=λ_ h _=>h,zx:=λ_ _ _=>rfl,os:=rfl,tape:=rfl,output:=rfl,size:=ayL _,frame:=λ_ _ _=>rfl}
def Cn.step{nk N' gq:Nat}{gz aM:Io}{w0 w':World}{er au:St}{Fr:Nat->Prop}{cur:Nat->Option Ob}(h:Cn ro nk gz w0 er Fr ι cur w)(TB:∀id,er.n<=id->id<nk->∀e,gz id e=ah)
 (sub:∀id o,σ.at id=aa o->cur id=aa o)(jQ:∀id,σ.n<=id->id<au.n->er.n<=id/\id<nk)(eA:∀id,id<ro->(σ.at id).isSome=ab->id<gq)(wf:∀id,σ.n<=id->σ.at id=ah)
 (hi:Inv N' aM au w')(hl:Le gq ι w σ aM w' au):Cn ro nk gz w0 er (λid=>Fr id/\¬(σ.n<=id/\id<au.n)) aM (Cm cur σ au) w':=by
 have XH:∀id,cur id=ah->σ.at id=ah:=λid hc=>by
  cases hs:σ.at id with
  |none=>rfl
  |some o=>rw[sub id o hs]at hc;cases hc
 have out:∀id,¬(σ.n<=id/\id<au.n)->id<σ.n\/au.n<=id:=λid hn=>by omega
 have MJ:∀id,(id<er.n\/nk<=id)->¬(σ.n<=id/\id<au.n):=λid hh hn=>by have:=jQ id hn.1 hn.2;omega
 exact{
  mem:=hi.mem,sep:=hi.sep,gU:=hi.gU,inj:=hi.inj
  fresh:=λid hid e=>by
   have hn:σ.at id=ah:=by
    cases hs:σ.at id with
    |none=>rfl
    |some o=>
     obtain⟨e',l,cJ⟩:=ZM (h.obj id o (sub id o hs));rw[h.fresh id hid.1 e']at cJ;cases cJ
   rw[hl.B8 id hn (out id hid.2) e,h.fresh id hid.1 e]
  obj:=λid o ho=>by
   unfold Cm at ho;split at ho
   .exact hi.obj id o ho
   .rename_i hc
    have hn:σ.at id=ah:=by
     cases hs:σ.at id with
     |none=>rfl
     |some o=>exact absurd (.inl (by rw[hs];rfl)) hc
    have hr:¬(σ.n<=id/\id<au.n):=λhx=>hc (.inr hx);refine(h.obj id o ho).vz hl.ext (λe=>hl.B8 id hn (out id hr) e) λb hb=>?_;refine hl.frame b (h.gU id b hb) λbz j9=>.inr ?_;rw[h.inj bz id b j9 hb];exact hn
  ext:=h.ext.trans hl.ext
  zz:=λb c hb=>(hl.zz b c hb).elim (λhb=>h.zz b c hb) (λhb=>.inr (ay6 h.size hb))
  own:=λid b hb=>(hl.own id b hb).elim (λhb=>h.own id b hb) (λhb=>.inr (ay6 h.size hb))
  B8:=λid hn hr e=>(hl.B8 id (XH id (h.dead id hn hr)) (out id (MJ id hr)) e).trans (h.B8 id hn hr e)
  dead:=λid hn hr=>by
   unfold Cm;rw[if_neg]
   .exact h.dead id hn hr
   .rw[XH id (h.dead id hn hr)];intro hx;rcases hx with hx|hx
    .cases hx
    .exact MJ id hr hx
  zx:=λid hr hn=>by
   unfold Cm;split
   .rename_i hc;have hs:(σ.at id).isSome:=hc.resolve_right (MJ id (.inl hn));obtain⟨o,ho⟩:=aAS.1 hs;have ak:id<σ.n:=aAV λhle=>by rw[wf id hle]at ho;cases ho
    rw[hl.zx id (eA id hr hs) ak,ho,<-sub id o ho];exact h.zx id hr hn
   .exact h.zx id hr hn
  os:=hl.os.trans h.os
  tape:=hl.tape.trans h.tape
  output:=hl.output.trans h.output
  size:=ay6 h.size hl.size
  frame:=λb hb hc=>by
   rw[hl.frame b (aAl hb h.size) ?_,h.frame b hb hc];intro id hid;cases hs:σ.at id with
   |none=>exact .inr rfl
   |some o=>
    have ak:id<σ.n:=aAV λhle=>by rw[wf id hle]at hs;cases hs
    rcases h.own id b hid with ho|ho
    .rcases hc id ho with hr|hd
     .exact .inl (eA id hr (by rw[hs];rfl))
     .right
      have hr:id<er.n\/nk<=id:=by
       by_cases h1:id<er.n
       .exact .inl h1
       .by_cases h2:id<nk
        .obtain⟨e,l,cJ,_⟩:=ho;rw[TB id aj h2 e]at cJ;cases cJ
        .exact .inr aj
      have:=sub id o hs;rw[h.dead id hd hr]at this;cases this
    .omega}
def Cn.fr{nk:Nat}{gz:Io}{w0:World}{er:St}{Fr Fr':Nat->Prop}{cur:Nat->Option Ob}(h:Cn ro nk gz w0 er Fr ι cur w)(hf:∀id,Fr' id->Fr id):Cn ro nk gz w0 er Fr' ι cur w:=
 {h with fresh:=λid hid=>h.fresh id (hf id hid)}
def Cn.fin{nk:Nat}{gz:Io}{w0:World}{er:St}{Fr:Nat->Prop}{cur:Nat->Option Ob}{t:T Ob}(h:Cn ro nk gz w0 er Fr ι cur w)(hn:er.n<=nk)(qc:∀id,nk<=id->id<N->Fr id)
 (sub:∀id o,t.get id=aa o->cur id=aa o)(wf:∀id,nk<=id->t.get id=ah)(hp:∀id,id<ro->id<er.n->t.get id=er.at id):
 Inv N ι ⟨nk,t⟩ w/\Le ro gz w0 er ι w ⟨nk,t⟩:=by
 refine⟨h.toGn.inv sub qc wf,h.ext,h.own,h.B8,λid hn hr=>?_,hp,hn,h.os,h.tape,h.output,h.size,h.frame,h.zz⟩;have:=h.dead id hn hr;cases hs:t.get id with
 |none=>exact hs
 |some o=>rw[sub id o hs]at this;cases this
end
section
variable{P:Program}{S:Self}{ro:Nat}{ops:Array Oper}{pl:ey}[Sm]
def kq(ops:Array Oper)(i:Nat):Option Tmp:=(ops[i]?).bind (·.dst)
def DT(ops:Array Oper)(i:Nat):List Nat:=(ops.toList.map (xw ops)).getD i []
def bt(pl:ey)(i:Nat):Kind:=pl.kinds.getD i .effect
def ku(pl:ey)(j i:Nat):Prop:=ay7 (pl.cq.getD j 0) i=ab
structure qf(ops:Array Oper)(pl:ey):Prop where
 back:∀(j:Nat) (o:Oper),ops[j]?=aa o->∀e∈o.after.toList,az7 .any e=ab->e.on<j
 ae4:∀j,j<ops.size->bt pl j=.load->∀t,kq ops j=aa t->t∉DT ops j
 single:∀i j,i<j->j<ops.size->∀t,kq ops i=aa t->kq ops j≠aa t
 ab6:∀i j,i<j->j<ops.size->bt pl i=.load->∀t,kq ops j=aa t->t∉DT ops i
 free:∀i j,i<j->j<ops.size->¬ku pl j i->(∀t,kq ops i=aa t->t∉DT ops j)/\(∀t,kq ops j=aa t->t∉DT ops i)/\aht (bt pl i) (bt pl j)=af
 bits:∀(j:Nat) (o:Oper),ops[j]?=aa o->∀i,ku pl j i->∃e∈o.after.toList,az7 .any e=ab/\(e.on=i\/ku pl e.on i)
theorem vJ{o:Oper}{l:List Nat}(h:writes o l=af):∀t,o.dst=aa t->t∉l:=by
 intro t ht hm;unfold writes at h;rw[ht]at h;simp[hm]at h
theorem QJ{f:Edge->Nat}{c:Edge->Bool}{i:Nat}:∀(l:List Edge) (s:Nat),ay7 (l.foldl (λs e=>if c e then aCp s (f e)else s) s) i=ab->
 ay7 s i=ab\/∃e∈l,c e=ab/\ay7 (f e) i=ab
 |[],s,h=>.inl h
 |e::l,s,h=>by
  simp only[azo]at h;rcases QJ l _ h with h|⟨e',gw,h1,h2⟩
  .split at h
   .rename_i hc;have:ay7 (s|||f e) i=ab:=h;rw[aDQ,azp]at this;rcases this with h|h
    .exact .inl h
    .exact .inr ⟨e,by simp,hc,h⟩
   .exact .inl h
  .exact .inr ⟨e',by simp[gw],h1,h2⟩
theorem ab7{a i:Nat}(h:ay7 (aBN 1 a) i=ab):a=i:=by
 have h':ay7 (1<<<a) i=ab:=h;rw[Nat.testBit_shiftLeft]at h';simp only[ayI,decide_eq_true_eq]at h';have h2:=h'.2
 have:i- a=0:=by
  cases hk:i- a with
  |zero=>rfl
  |succ n=>rw[hk]at h2;simp[Nat.testBit_succ]at h2
 omega
theorem TC:∀(l:List Oper) (acc:List Nat),∃rest,l.foldl Jl acc=acc++rest/\rest.length=l.length/\
 ∀(q:Nat) (o:Oper),l[q]?=aa o->∀i,ay7 ((acc++rest).getD (acc.length+q) 0) i=ab->
  ∃e∈o.after.toList,az7 .any e=ab/\(e.on=i\/ay7 ((acc++rest).getD e.on 0) i=ab)
 |[],acc=>⟨[],by simp,rfl,λq o h=>by simp at h⟩
 |o::l,acc=>by
  obtain⟨rest,h1,h2,h3⟩:=TC l (Jl acc o);obtain⟨x,hx⟩:∃x,Jl acc o=acc++[x]:=⟨_,rfl⟩
  have Co:x=o.after.toList.foldl (λs e=>if az7 .any e then aCp s (aCp (aBN 1 e.on) (acc.getD e.on 0))else s) 0:=by
   have:acc++[x]=acc++[o.after.toList.foldl (λs e=>if az7 .any e then aCp s (aCp (aBN 1 e.on) (acc.getD e.on 0))else s) 0]:=hx▸rfl;simpa using this
  rw[hx]at h1 h3;refine⟨x::rest,by rw[azo,hx,h1];simp,by simp[h2],λq o' hq i hi=>?_⟩;have je:acc++x::rest=acc++[x]++rest:=aw;cases q with
  |zero=>
   simp only[List.getElem?_cons_zero,ayO]at hq;subst hq;have hg:(acc++x::rest).getD (acc.length+0) 0=x:=aw;rw[hg,Co]at hi;rcases QJ _ _ hi with hi|⟨e,he,hb,hi⟩
   .simp at hi
   .refine⟨e,he,hb,?_⟩;have ct:ay7 (aBN 1 e.on|||acc.getD e.on 0) i=ab:=hi;rw[aDQ,azp]at ct;rcases ct with hi|hi
    .exact .inl (ab7 hi)
    .right;by_cases hl:e.on<acc.length
     .have:(acc++x::rest).getD e.on 0=acc.getD e.on 0:=by
       rw[azu,azu,ayZ hl]
      rw[this];exact hi
     .rw[azu,List.getElem?_eq_none aj]at hi;simp at hi
  |succ q=>
   simp only[List.getElem?_cons_succ]at hq;rw[je]at hi⊢
   have:=h3 q o' hq i (by
    have e1:(acc++[x]).length+q=acc.length+(q+1):=by simp;omega
    rw[e1];exact hi)
   exact this
theorem EC{ops:Array Oper}{j:Nat}{o:Oper}(ho:ops[j]?=aa o){i:Nat}(h:ay7 ((K6 ops).getD j 0) i=ab):
 ∃e∈o.after.toList,az7 .any e=ab/\(e.on=i\/ay7 ((K6 ops).getD e.on 0) i=ab):=by
 obtain⟨rest,h1,_,h3⟩:=TC ops.toList [];have hb:K6 ops=rest:=by unfold K6;rw[h1];simp
 rw[hb]at h⊢;have:=h3 j o (by simpa using ho) i (by simpa using h);simpa using this
theorem ab8(h:(bS ops).ok=ab):qf ops (bS ops):=by
 have bX:∀(j:Nat) (o:Oper),ops[j]?=aa o->(o.after.toList.all λe=> !az7 .any e||azy e.on j)=ab/\(!(bt (bS ops) j==.load)|| !writes o (DT ops j))=ab/\
  ∀(i:Nat) (p:Oper),ops[i]?=aa p->i<j->Ek (bS ops).cq (bS ops).kinds (ops.toList.map (xw ops)) p i o j=ab:=by
  intro j o ho;have hm:(o,j)∈ops.toList.zipIdx:=aAe.2 (by simpa using ho);unfold bS at h;dsimp only at h;rw[ayY]at h;have:=h (o,j) hm;simp only[ayI]at this;obtain⟨⟨h1,h2⟩,h3⟩:=this;refine⟨h1,h2,λi p hp qN=>?_⟩;rw[ayY]at h3;have TD:(p,i)∈ops.toList.zipIdx:=aAe.2 (by simpa using hp);have:=h3 (p,i) TD;have ak:azy i j=ab:=by simpa using qN
  simp only[ak,azV,aAJ]at this;exact this
 have fk:∀{j:Nat},j<ops.size->∃o,ops[j]?=aa o:=λhj=>⟨ops[_],aza hj⟩;have eY:∀{j:Nat} {o:Oper},ops[j]?=aa o->kq ops j=o.dst:=λho=>by unfold kq;rw[ho];rfl
 have pair:∀i j,i<j->j<ops.size->∃p o,ops[i]?=aa p/\ops[j]?=aa o/\Ek (bS ops).cq (bS ops).kinds (ops.toList.map (xw ops)) p i o j=ab:=λi j qN hj=>by
  obtain⟨o,ho⟩:=fk hj;obtain⟨p,hp⟩:=fk (show i<ops.size by omega);exact⟨p,o,hp,ho,(bX j o ho).2.2 i p hp qN⟩
 refine⟨λj o ho e he hb=>?_,λj hj hk t ht=>?_,λi j qN hj t hi hjt=>?_,λi j qN hj hk t ht=>?_,λi j qN hj s7=>?_,λj o ho i hb=>EC ho hb⟩
 .have:=(ayY.1 (bX j o ho).1) e he;rw[hb]at this;simpa using this
 .obtain⟨o,ho⟩:=fk hj;have:=(bX j o ho).2.1;rw[hk]at this;simp only[beq_self_eq_true,azV,aAJ,azY]at this;rw[eY ho]at ht;exact vJ this t ht
 .obtain⟨p,o,hp,ho,oV⟩:=pair i j qN hj;rw[eY hp]at hi;rw[eY ho]at hjt;unfold Ek at oV;rw[hi,hjt]at oV;simp at oV
 .obtain⟨p,o,hp,ho,oV⟩:=pair i j qN hj;unfold Ek at oV;simp only[ayI]at oV;have h2:=oV.1.2;have c8:(bS ops).kinds.getD i .effect=.load:=hk;rw[c8]at h2;simp only[beq_self_eq_true,azV,aAJ,azY]at h2;rw[eY ho]at ht;exact vJ h2 t ht
 .obtain⟨p,o,hp,ho,oV⟩:=pair i j qN hj;unfold Ek at oV;simp only[ayI]at oV;have h3:=oV.2
  have hb:ay7 ((bS ops).cq.getD j 0) i=af:=by
   cases hc:ay7 ((bS ops).cq.getD j 0) i with
   |false=>rfl
   |true=>exact absurd hc s7
  rw[hb]at h3;simp only[aAJ,ayI,azY]at h3;refine⟨λt ht=>?_,λt ht=>?_,h3.2⟩
  .rw[eY hp]at ht;exact vJ h3.1.1 t ht
  .rw[eY ho]at ht;exact vJ h3.1.2 t ht
end
section
variable{P:Program}{S:Nat->Self}{ro:Nat}{ops:Array Oper}{pl:ey}[Sm]
theorem mj(b:T Ob)(p:Piece)(id:Nat):(dO b p).get id=if p.lo<=id/\id<p.hi then(p.t.get id).or (b.get id)else b.get id:=by
 have aux:∀(l:List Nat) (b:T Ob),(l.foldl (λb id=>match p.t.get id with|some o=>b.set id o|none=>b) b).get id=if id∈l then(p.t.get id).or (b.get id)else b.get id:=by
  intro l;induction l with
  |nil=>simp
  |cons x l ih=>
   intro b;rw[azo,ih];by_cases hx:x=id
   .grind [T.hZ]
   .have hb:(match p.t.get x with|some o=>b.set x o|none=>b).get id=b.get id:=by
     cases p.t.get x with
     |none=>rfl
     |some o=>simp[T.hZ,hx]
    grind
 refine(aux (aAx p.lo (p.hi- p.lo)) b).trans ?_
 grind
theorem FB:∀(l:List Piece) (b:T Ob) (id:Nat) (o:Ob),(l.foldl dO b).get id=aa o->(∃p∈l,p.lo<=id/\id<p.hi/\p.t.get id=aa o)\/b.get id=aa o
 |[],b,id,o,h=>.inr h
 |p::l,b,id,o,h=>by
  rw[azo]at h;rcases FB l _ id o h with⟨q,hq,h1⟩|h
  .exact .inl ⟨q,by simp[hq],h1⟩
  .rw[mj]at h;split at h<;>try exact .inr h
   rename_i hc;cases hp:p.t.get id with
   |none=>rw[hp]at h;exact .inr h
   |some x=>rw[hp]at h;exact .inl ⟨p,by simp,hc.1,hc.2,by rw[hp];exact h⟩
theorem Ld:∀(l:List Piece) (b:T Ob) (id:Nat),(∀p∈l,id<p.lo)->(l.foldl dO b).get id=b.get id
 |[],b,id,_=>rfl
 |p::l,b,id,h=>by
  rw[azo,Ld l _ id (λq hq=>h q bc),mj,if_neg]
  grind
theorem Lf{aU:List Piece}{bits:Nat}{b:T Ob}{id:Nat}{o:Ob}(h:(seen aU bits b).get id=aa o):
 (∃p∈aU,ay7 bits p.j=ab/\p.lo<=id/\id<p.hi/\p.t.get id=aa o)\/b.get id=aa o:=by
 rcases FB _ _ _ _ h with⟨p,hp,h1⟩|h
 all_goals grind
theorem ae5{aU:List Piece}{bits:Nat}{b:T Ob}{id:Nat}(h:∀p∈aU,id<p.lo):(seen aU bits b).get id=b.get id:=
 Ld _ _ _ λp hp=>h p (azB.1 hp).1
inductive Stp(P:Program)(S:Self)(pl:ey)(ro:Nat)(ops:Array Oper)(o:Oper)(j:Nat)(d d':DS)(v:IV):Prop
 |skip (h:aY o ops d.e=af) (hv:v=.undef) (hn:d'.n=d.n) (hp:d'.aU=d.aU) (hk:bt pl j≠.effect) (hb:d'.bs=d.bs)
 |Jq (h:aY o ops d.e=af) (hv:v=.undef) (hn:d'.n=d.n) (hp:d'.aU=d.aU) (hk:bt pl j=.effect) (i0:Nat) (b:T Ob) (rest:List (Nat×T Ob)) (jR:d.bs=(i0,b)::rest)
   (hb:d'.bs=(j,b)::d.bs) (hr:recheck P pl ops (pl.cq.getD j 0) d.e d.n d.aU b (ops.toList.zipIdx.take j)=ab)
 |pure (h:aY o ops d.e=ab) (hk:bt pl j=.pure) (hn:d'.n=d.n) (hp:d'.aU=d.aU) (hb:d'.bs=d.bs) (σ:St) (he:aA P 0 (aD d.e) o ⟨0,.lf⟩=aa (.val v σ)) (h0:σ.n=0)
 |alloc (h:aY o ops d.e=ab) (hk:bt pl j=.alloc) (hb:d'.bs=d.bs) (σ:St) (he:aA P 0 (aD d.e) o ⟨d.n,.lf⟩=aa (.val v σ)) (hn:d'.n=σ.n) (hp:d'.aU=⟨j,d.n,σ.n,σ.t⟩::d.aU)
 |load (h:aY o ops d.e=ab) (hk:bt pl j=.load) (hn:d'.n=d.n) (hp:d'.aU=d.aU) (hb:d'.bs=d.bs) (i0:Nat) (b:T Ob) (rest:List (Nat×T Ob)) (jR:d.bs=(i0,b)::rest)
   (σ:St) (he:aA P d.n (aD d.e) o ⟨d.n,seen d.aU (pl.cq.getD j 0) b⟩=aa (.val v σ)) (h0:σ.n=d.n)
   (hl:(ay7 (pl.cq.getD j 0) i0||nS P d.e o d.n v d.aU (pl.cq.getD j 0) rest)=ab)
 |call (h:aY o ops d.e=ab) (hk:bt pl j=.call) (hb:d'.bs=d.bs) (i0:Nat) (b:T Ob) (rest:List (Nat×T Ob)) (jR:d.bs=(i0,b)::rest)
   (σ:St) (he:kW P S d.n d.e o ⟨d.n,seen d.aU (pl.cq.getD j 0) b⟩=aa (v,σ)) (hn:d'.n=σ.n) (hp:d'.aU=⟨j,d.n,σ.n,σ.t⟩::d.aU)
 |effect (h:aY o ops d.e=ab) (hk:bt pl j=.effect) (i0:Nat) (b:T Ob) (rest:List (Nat×T Ob)) (jR:d.bs=(i0,b)::rest)
   (σ:St) (he:kW P S ro d.e o ⟨d.n,seen d.aU (pl.cq.getD j 0) b⟩=aa (v,σ)) (hn:d'.n=σ.n) (hb:d'.bs=(j,σ.t)::d.bs) (hp:d'.aU=d.aU.filter λp=> !ay7 (pl.cq.getD j 0) p.j)
   (hr:recheck P pl ops (pl.cq.getD j 0) d.e d'.n d'.aU σ.t (ops.toList.zipIdx.take j)=ab)
theorem TE{U:Self}{o:Oper}{j:Nat}{d d':DS}(h:bW P U pl ro ops o j d=aa d'):∃v,d'.e=d.e.put o.dst v/\d.bs≠[]/\Stp P U pl ro ops o j d d' v:=by
 simp only[bW]at h;split at h<;>try cases h
 rename_i i0 b rest jR;have bA:d.bs≠[]:=bc;split at h
 .rename_i hw;split at h
  .rename_i hk;split at h
   .rename_i v σ he;split at h
    .rename_i h0;cases h;exact⟨v,rfl,bA,.pure hw hk rfl rfl rfl σ he h0⟩
    grind
   grind
  .rename_i hk;split at h
   .rename_i v σ he;cases h;exact⟨v,rfl,bA,.alloc hw hk rfl σ he rfl rfl⟩
   grind
  .rename_i hk;split at h
   .rename_i v σ he;split at h
    .rename_i hc;cases h;exact⟨v,rfl,bA,.load hw hk rfl rfl rfl i0 b rest jR σ he hc.1 hc.2⟩
    grind
   grind
  .rename_i hk;split at h
   .rename_i v σ he;cases h;exact⟨v,rfl,bA,.call hw hk rfl i0 b rest jR σ he rfl rfl⟩
   grind
  .rename_i hk;split at h
   .rename_i v σ he;split at h
    .rename_i hc;cases h;exact⟨v,rfl,bA,.effect hw hk i0 b rest jR σ he rfl rfl rfl hc⟩
    grind
   grind
 .have hw:aY o ops d.e=af:=bc;split at h
  .rename_i hk;split at h
   .rename_i hc;cases h;exact⟨.undef,rfl,bA,.Jq hw rfl rfl rfl hk i0 b rest jR rfl hc⟩
   grind
  .rename_i hk;cases h;exact⟨.undef,rfl,bA,.skip hw rfl rfl rfl hk rfl⟩
structure Tr(P:Program)(S:Nat->Self)(pl:ey)(ro:Nat)(ops:Array Oper)(D:Nat->DS):Prop where
 step:∀(j:Nat) (o:Oper),ops[j]?=aa o->bW P (S j) pl ro ops o j (D j)=aa (D (j+1))
def qg(P:Program)(S:Nat->Self)(pl:ey)(ro:Nat)(ops:Array Oper)(d:DS):Nat->DS
 |0=>d
 |j+1=>match ops[j]? with
  |some o=>(bW P (S j) pl ro ops o j (qg P S pl ro ops d j)).getD (qg P S pl ro ops d j)
  |none=>qg P S pl ro ops d j
theorem QK{d0:DS}:∀{l:List Oper} {k:Nat} {d':DS},ops.toList.drop k=l->k<=ops.size->j2 P S pl ro ops (l.zipIdx k) (qg P S pl ro ops d0 k)=aa d'->
 (∀(j:Nat) (o:Oper),k<=j->ops[j]?=aa o->bW P (S j) pl ro ops o j (qg P S pl ro ops d0 j)=aa (qg P S pl ro ops d0 (j+1)))/\d'=qg P S pl ro ops d0 ops.size
 |[],k,d',hl,hk,h=>by
  have hs:ops.size<=k:=by
   simp_all
  cases h
  grind
 |o::l,k,d',hl,hk,h=>by
  have bf:ops[k]?=aa o:=by
   have:(ops.toList.drop k)[0]?=aa o:=bc
   grind
  have kj:ops.toList.drop (k+1)=l:=by
   rw[<-aAR (i:=1) (j:=k),hl];rfl
  have ak:=(azx.1 bf).1;rw[aB5]at h;unfold j2 at h;split at h
  .rename_i d1 h1
   have Cg:qg P S pl ro ops d0 (k+1)=d1:=by
    simp_all[qg]
   rw[<-Cg]at h;have⟨h2,h3⟩:=QK kj aj h
   grind
  grind
theorem ae6{d0 d':DS}(h:j2 P S pl ro ops ops.toList.zipIdx d0=aa d'):Tr P S pl ro ops (qg P S pl ro ops d0)/\d'=qg P S pl ro ops d0 ops.size:=by
 have⟨h1,h2⟩:=QK (k:=0) aw aj h;exact⟨⟨λj o ho=>h1 j o aj ho⟩,h2⟩
section tr
variable{D:Nat->DS}(ht:Tr P S pl ro ops D)
include ht
theorem Tr.TF{j:Nat}(hj:j<ops.size):∃o v,ops[j]?=aa o/\(D (j+1)).e=(D j).e.put o.dst v/\(D j).bs≠[]/\Stp P (S j) pl ro ops o j (D j) (D (j+1)) v:=by
 have ho:=aza hj;have⟨v,h1,h2,h3⟩:=TE (ht.step j _ ho)
 grind
theorem Tr.ab9(hc:∀j,bY (S j))(hk:∀j,bI (S j)){j:Nat}(hj:j<ops.size):(D j).n<=(D (j+1)).n:=
 He (hc j) (hk j) (ht.step j _ (aza hj))
theorem Tr.gM(hc:∀j,bY (S j))(hk:∀j,bI (S j)){i j:Nat}(qN:i<=j)(hj:j<=ops.size):(D i).n<=(D j).n:=by
 induction j with
 |zero=>grind
 |succ j ih=>
  rcases aBT qN with h|rfl
  .exact ay6 (ih aj aj) (ht.ab9 hc hk aj)
  simp
theorem Tr.apart(hc:∀j,bY (S j))(hk:∀j,bI (S j)){i j id:Nat}(hi:i<ops.size)(hj:j<ops.size)(h1:(D i).n<=id/\id<(D (i+1)).n)(h2:(D j).n<=id/\id<(D (j+1)).n):i=j:=by
 rcases aBp i j with h|h|h
 .have:=ht.gM hc hk (show i+1<=j from h) aj;omega
 .exact h
 .have:=ht.gM hc hk (show j+1<=i from h) aj;omega
theorem Tr.ajx{j:Nat}(hj:j<ops.size):(D (j+1)).bs=(D j).bs\/(bt pl j=.effect/\∃b,(D (j+1)).bs=(j,b)::(D j).bs):=by
 have⟨o,v,_,_,_,h⟩:=ht.TF hj;cases h with
 |skip _ _ _ _ _ hb=>grind
 |Jq _ _ _ _ hk _ b _ _ hb _=>grind
 |pure _ _ _ _ hb=>grind
 |alloc _ _ hb=>grind
 |load _ _ _ _ hb=>grind
 |call _ _ hb=>grind
 |effect _ hk _ _ _ _ σ _ _ hb=>grind
theorem Tr.QL{m j:Nat}(hm:m<=j)(hj:j<=ops.size):∃pre,(D j).bs=pre++(D m).bs/\∀x∈pre,m<=x.1/\x.1<j/\bt pl x.1=.effect:=by
 induction j with
 |zero=>simp_all
 |succ j ih=>
  rcases aBT hm with h|rfl
  .have⟨pre,h1,h2⟩:=ih aj aj;rcases ht.ajx (show j<ops.size by omega)with hb|⟨hk,b,hb⟩
   all_goals grind
  simp
theorem Tr.TG{m j:Nat}(hm:m<=j)(hj:j<=ops.size)(bA:∀i,m<=i->i<j->bt pl i≠.effect):(D j).bs=(D m).bs:=by
 have⟨pre,h1,h2⟩:=ht.QL hm hj;cases pre with
 |nil=>grind
 |cons x pre=>grind
end tr
structure vK(ops:Array Oper)(D:Nat->DS)(A:Nat->Prop)(e:Env):Prop where
 n:e.n=(D 0).e.n
 put:∀j,A j->∀t,kq ops j=aa t->e.at t=(D (j+1)).e.at t
 cQ:∀t,(∀j,A j->kq ops j≠aa t)->e.at t=(D 0).e.at t
def ab_{e:Env}{dst:Option Tmp}{v:IV}{t:Nat}(h:dst≠aa t):(e.put dst v).at t=e.at t:=by
 cases dst with
 |none=>rfl
 |some d=>
  simp_all[Env.dt]
def vK.step{D:Nat->DS}{A:Nat->Prop}{e:Env}(ho:qf ops pl){j:Nat}{o:Oper}{v:IV}(h:vK ops D A e)(hA:∀i,A i->i<ops.size)(hj:ops[j]?=aa o)(hnj:¬A j)
 (hd:(D (j+1)).e=(D j).e.put o.dst v)(hold:∀t,kq ops j=aa t->(D j).e.at t=(D 0).e.at t)(hn:(D j).e.n=(D 0).e.n):vK ops D (λi=>A i\/i=j) (e.put o.dst v):=by
 have ak:=(azx.1 hj).1;have eY:kq ops j=o.dst:=by simp_all[kq]
 have ahx:∀i t,A i->kq ops i=aa t->o.dst≠aa t:=by
  intro i t hi hit;have zT:=hA i hi;have bA:i≠j:=λhx=>hnj (hx▸hi);rw[<-eY];rcases Nat.lt_or_gt_of_ne bA with gB|gB
  .exact ho.single i j gB ak t hit
  .intro hc;exact ho.single j i gB zT t hc hit
 refine⟨by rw[Env.qK];exact h.n,λi hi t hit=>?_,λt gx=>?_⟩
 .rcases hi with hi|rfl
  .rw[ab_ (ahx i t hi hit)];exact h.put i hi t hit
  .rw[eY]at hit;rw[hd,hit,Env.dt,Env.dt,h.n,hn];split
   .rfl
   .rw[hold t bc];refine h.cQ t λi hi hc=>ahx i t hi hc hit
 .rw[ab_ bc];exact h.cQ t λi hi=>gx i (.inl hi)
theorem Tr.env{D:Nat->DS}(ht:Tr P S pl ro ops D)(ho:qf ops pl):∀j,j<=ops.size->vK ops D (λi=>i<j) (D j).e
 |0,_=>⟨rfl,λi hi=>absurd hi aj,λt _=>rfl⟩
 |j+1,hj=>by
  have⟨o,v,h1,h2,_,_⟩:=ht.TF (show j<ops.size by omega);have ih:=ht.env ho j aj;have:=vK.step (A:=λi=>i<j) (v:=v) ho ih (λi hi=>by omega) h1 aj h2 (λt hd=>ih.cQ t λi hi hc=>ho.single i j hi aj t hc hd) ih.n
  grind
def alw(ho:qf ops pl):∀(j:Nat),j<ops.size->∀i,ku pl j i->i<j:=by
 intro j;induction j using aDC with
 |_ j ih=>
  intro hj i hb;have⟨e,he,cd,h1⟩:=ho.bits j _ (aza hj) i hb;have ak:=ho.back j _ (aza hj) e he cd
  grind
def Lg{D:Nat->DS}{A B:Nat->Prop}{e e':Env}(h:vK ops D A e)(h':vK ops D B e'){t:Nat}(hAB:∀i,kq ops i=aa t->(A i↔B i)):e.at t=e'.at t:=by
 by_cases hx:∃i,A i/\kq ops i=aa t
 .have⟨i,hi,hd⟩:=hx;rw[h.put i hi t hd,h'.put i ((hAB i hd).1 hi) t hd]
 .rw[h.cQ t λi hi hd=>hx ⟨i,hi,hd⟩,h'.cQ t λi hi hd=>hx ⟨i,(hAB i hd).2 hi,hd⟩]
def vL{e e':Env}{j:Nat}{o:Oper}(hj:ops[j]?=aa o)(h:∀t∈DT ops j,e.at t=e'.at t)(hn:e.n=e'.n):
 (∀x∈o.op.operands,aD e x=aD e' x)/\aY o ops e=aY o ops e':=by
 have hr:DT ops j=xw ops o:=by
  unfold DT;rw[azu,List.getElem?_map];have:ops.toList[j]?=aa o:=by simpa using hj
  rw[this];rfl
 rw[hr]at h;refine⟨λx hx=>?_,?_⟩
 .cases x with
  |tmp t=>exact h t (by unfold xw;rw[ayS];left;exact List.mem_filterMap.2 ⟨.tmp t,by simpa using hx,rfl⟩)
  |_=>rfl
 .unfold aY;cases hg:o.guard with
  |none=>rfl
  |some g=>
   have⟨i,want⟩:=g;dsimp only;cases hd:(ops[i]?).bind (·.dst)with
   |none=>rfl
   |some d=>
    dsimp only;rw[hn,h d (by unfold xw;rw[ayS];right;rw[hg];dsimp only;rw[hd];simp)]
end
section
variable{P:Program}{S:Nat->Self}{ro:Nat}{ops:Array Oper}{pl:ey}{D:Nat->DS}{N:Nat}[Sm]
structure Made(ops:Array Oper)(D:Nat->DS)(p:Piece):Prop where
 lt:p.j<ops.size
 lo:p.lo=(D p.j).n
 hi:p.hi=(D (p.j+1)).n
 aU:(D (p.j+1)).aU=p::(D p.j).aU
def XI(ops:Array Oper)(pl:ey)(D:Nat->DS)(i:Nat):Prop:=bt pl i=.effect/\∃o,ops[i]?=aa o/\aY o ops (D i).e=ab
def vM(ops:Array Oper)(pl:ey)(D:Nat->DS)(A:Nat->Prop)(q:Nat):Prop:=∀i,A i->XI ops pl D i->¬ku pl i q
def il(l:List (Nat×T Ob)):T Ob:=match l with|(_,b)::_=>b|[]=>.lf
theorem Tr.aU(ht:Tr P S pl ro ops D)(ho:qf ops pl)(h0:(D 0).aU=[]):∀j,j<=ops.size->∀p∈(D j).aU,Made ops D p/\p.j<j/\∀i,i<j->XI ops pl D i->¬ku pl i p.j:=by
 intro j;induction j with
 |zero=>intro _ p hp;rw[h0]at hp;cases hp
 |succ j ih=>
  intro hj p hp;have TH:j<ops.size:=aj;obtain⟨o,v,h1,_,_,hs⟩:=ht.TF TH
  have cQ:p∈(D j).aU->(XI ops pl D j->¬ku pl j p.j)->Made ops D p/\p.j<j+1/\∀i,i<j+1->XI ops pl D i->¬ku pl i p.j:=λhp hw=>by
   obtain⟨a,b,c⟩:=ih aj p hp;refine⟨a,by omega,λi hi kI=>?_⟩;rcases aBT (Nat.le_of_lt_succ hi)with hi|rfl
   .exact c i hi kI
   .exact hw kI
  have new:∀σ:St,p=⟨j,(D j).n,σ.n,σ.t⟩->(D (j+1)).n=σ.n->(D (j+1)).aU=⟨j,(D j).n,σ.n,σ.t⟩::(D j).aU->Made ops D p/\p.j<j+1/\∀i,i<j+1->XI ops pl D i->¬ku pl i p.j:=λσ Cp hn lg=>by
   subst Cp;refine⟨⟨TH,rfl,hn.symm,lg⟩,Nat.lt_succ_self _,λi hi _ hb=>?_⟩;have:=alw ho i aj _ hb;dsimp only at this;omega
  cases hs with
  |skip hw hv hn lg hk hb=>rw[lg]at hp;exact cQ hp λh=>absurd h.1 hk
  |Jq hw hv hn lg hk=>
   rw[lg]at hp;refine cQ hp λh=>?_;obtain⟨_,o',h2,h3⟩:=h;rw[h1]at h2;cases h2;rw[hw]at h3;cases h3
  |pure hw hk hn lg=>rw[lg]at hp;exact cQ hp λh=>(by have:=h.1;rw[hk]at this;cases this)
  |load hw hk hn lg=>rw[lg]at hp;exact cQ hp λh=>(by have:=h.1;rw[hk]at this;cases this)
  |alloc hw hk hb σ he hn lg=>
   have vA:=hp;rw[lg]at vA;rcases ayW.1 vA with rfl|vA
   .exact new σ rfl hn lg
   .exact cQ vA λh=>(by have:=h.1;rw[hk]at this;cases this)
  |call hw hk hb i0 b rest jR σ he hn lg=>
   have vA:=hp;rw[lg]at vA;rcases ayW.1 vA with rfl|vA
   .exact new σ rfl hn lg
   .exact cQ vA λh=>(by have:=h.1;rw[hk]at this;cases this)
  |effect hw hk i0 b rest jR σ he hn hb lg=>
   rw[lg,azB]at hp;refine cQ hp.1 λ_ hb=>?_;have h2:=hp.2;unfold ku at hb;rw[hb]at h2;cases h2
theorem TI(ht:Tr P S pl ro ops D){p:Piece}(hp:Made ops D p):bt pl p.j≠.effect:=by
 intro hk;obtain⟨o,v,h1,_,_,hs⟩:=ht.TF hp.lt;have lg:=hp.aU;have len:=congrArg List.length lg;simp only[azh]at len;cases hs with
 |skip _ _ _ h=>rw[h]at len;omega
 |Jq _ _ _ h=>rw[h]at len;omega
 |pure _ h=>rw[hk]at h;cases h
 |load _ h=>rw[hk]at h;cases h
 |alloc _ h=>rw[hk]at h;cases h
 |call _ h=>rw[hk]at h;cases h
 |effect _ _ _ _ _ _ _ _ _ _ h=>
  rw[h]at len;have:=List.length_filter_le (λq=> !ay7 (pl.cq.getD p.j 0) q.j) (D p.j).aU;omega
theorem TJ{p q:Piece}(hp:Made ops D p)(hq:Made ops D q)(h:p.j=q.j):p=q:=by
 have h1:=hp.aU;have h2:=hq.aU;rw[h,h2]at h1;exact(aA1 h1).1.symm
structure tS(ops:Array Oper)(pl:ey)(D:Nat->DS)(N ro:Nat)(gz:Io)(w0:World)(er:St)(A:Nat->Prop)(m:Nat)(e:Env)(ι:Io)(cur:Nat->Option Ob)(w:World):Prop where
 sub:∀i,A i->i<ops.size
 closed:∀j,A j->∀i,ku pl j i->A i
 env:vK ops D A e
 TK:m<=ops.size
 QM:∀i,i<ops.size->bt pl i=.effect->(A i↔i<m)
 last:m=0\/∃i,m=i+1/\A i/\bt pl i=.effect
 zU:Cn ro (D ops.size).n gz w0 er (λid=>(∃j,j<ops.size/\¬A j/\(D j).n<=id/\id<(D (j+1)).n)\/((D ops.size).n<=id/\id<N)) ι cur w
 piece:∀p,Made ops D p->A p.j->vM ops pl D A p.j->∀id o,p.lo<=id->id<p.hi->p.t.get id=aa o->cur id=aa o
 base:∀id o,(il (D m).bs).get id=aa o->cur id=aa o
 Ox:∀p,Made ops D p->vM ops pl D A p.j->∀id,p.lo<=id->id<p.hi->(il (D m).bs).get id=ah
 top:∀id,(D m).n<=id->(il (D m).bs).get id=ah
 low:∀id,id<ro->id<er.n->(il (D m).bs).get id=er.at id
section X
variable{gz ι aM:Io}{w0 w w':World}{er:St}{A:Nat->Prop}{m:Nat}{e:Env}{cur vN:Nat->Option Ob}
theorem tS.see(h:tS ops pl D N ro gz w0 er A m e ι cur w){j n':Nat}{aU:List Piece}(hb:∀i,ku pl j i->A i)(hp:∀p∈aU,Made ops D p/\vM ops pl D A p.j/\p.hi<=n')(hn:(D m).n<=n'):
 (∀id o,(seen aU (pl.cq.getD j 0) (il (D m).bs)).get id=aa o->cur id=aa o)/\(∀id,n'<=id->(seen aU (pl.cq.getD j 0) (il (D m).bs)).get id=ah):=by
 refine⟨λid o hs=>?_,λid hid=>?_⟩
 .rcases Lf hs with⟨p,Hf,lM,h1,h2,h3⟩|hs
  .obtain⟨a,b,_⟩:=hp p Hf;exact h.piece p a (hb _ lM) b id o h1 h2 h3
  .exact h.base id o hs
 .cases hs:(seen aU (pl.cq.getD j 0) (il (D m).bs)).get id with
  |none=>rfl
  |some o=>
   rcases Lf hs with⟨p,Hf,lM,h1,h2,h3⟩|hs
   .obtain⟨_,_,c⟩:=hp p Hf;omega
   .rw[h.top id aj]at hs;cases hs
theorem vM.less{A':Nat->Prop}{q:Nat}(h:vM ops pl D A' q)(hA:∀i,A i->A' i):vM ops pl D A q:=λi hi=>h i (hA i hi)
theorem tS.next(h:tS ops pl D N ro gz w0 er A m e ι cur w)(ht:Tr P S pl ro ops D)(hc:∀j,bY (S j))(hk:∀j,bI (S j)){j:Nat}{e':Env}(hj:j<ops.size)(ot:¬A j)(hb:∀i,ku pl j i->A i)(iA:bt pl j≠.effect)
 (he:vK ops D (λi=>A i\/i=j) e'){Fr:Nat->Prop}(qG:Cn ro (D ops.size).n gz w0 er Fr aM vN w')
 (qc:∀id,((∃i,i<ops.size/\¬(A i\/i=j)/\(D i).n<=id/\id<(D (i+1)).n)\/((D ops.size).n<=id/\id<N))->Fr id)
 (alx:∀id o,¬((D j).n<=id/\id<(D (j+1)).n)->cur id=aa o->vN id=aa o)(hr:(D (j+1)).n=(D j).n\/∃p,Made ops D p/\p.j=j)
 (lg:∀p,Made ops D p->p.j=j->∀id o,p.lo<=id->id<p.hi->p.t.get id=aa o->vN id=aa o):tS ops pl D N ro gz w0 er (λi=>A i\/i=j) m e' aM vN w' where
 sub:=λi hi=>hi.elim (h.sub i) (λx=>x▸hj)
 closed:=λi hi q hq=>hi.elim (λhi=>.inl (h.closed i hi q hq)) (λx=>.inl (hb q (x▸hq)))
 env:=he
 TK:=h.TK
 QM:=λi hi qQ=>by
  rw[<-h.QM i hi qQ];exact⟨λx=>x.elim id (λx=>absurd (x▸qQ) iA),.inl⟩
 last:=h.last.imp id (λ⟨i,h1,h2,h3⟩=>⟨i,h1,.inl h2,h3⟩)
 zU:=qG.fr qc
 piece:=λp hp hA hu id o h1 h2 h3=>by
  by_cases qR:p.j=j
  .exact lg p hp qR id o h1 h2 h3
  .refine alx id o (λhx=>?_) (h.piece p hp (hA.resolve_right qR) (hu.less λ_ x=>.inl x) id o h1 h2 h3);rw[hp.lo]at h1;rw[hp.hi]at h2;exact qR (ht.apart hc hk hp.lt hj ⟨h1,h2⟩ hx)
 base:=λid o hg=>by
  refine alx id o (λhx=>?_) (h.base id o hg);rcases hr with hr|⟨p,hp,qR⟩
  .omega
  .have:=h.Ox p hp (λi hi _ Xx=>ot (h.closed i hi j (qR▸Xx))) id (by rw[hp.lo,qR];exact hx.1) (by rw[hp.hi,qR];exact hx.2);rw[this]at hg;cases hg
 Ox:=λp hp hu=>h.Ox p hp (hu.less λ_ x=>.inl x)
 top:=h.top
 low:=h.low
theorem tS.ahy(h:tS ops pl D N ro gz w0 er A m e ι cur w){j:Nat}{e':Env}(hj:j<ops.size)(hb:∀i,ku pl j i->A i)(iA:bt pl j=.effect)(zA:∀i,i<ops.size->bt pl i=.effect->(A i↔i<j))
 (he:vK ops D (λi=>A i\/i=j) e'){Fr:Nat->Prop}(qG:Cn ro (D ops.size).n gz w0 er Fr aM vN w')
 (qc:∀id,((∃i,i<ops.size/\¬(A i\/i=j)/\(D i).n<=id/\id<(D (i+1)).n)\/((D ops.size).n<=id/\id<N))->Fr id)
 (lg:∀p,Made ops D p->p.j≠j->A p.j->vM ops pl D (λi=>A i\/i=j) p.j->∀id o,p.lo<=id->id<p.hi->cur id=aa o->vN id=aa o)(bA:∀p,Made ops D p->p.j≠j)
 (Jr:∀id o,(il (D (j+1)).bs).get id=aa o->vN id=aa o)
 (aqe:∀p,Made ops D p->vM ops pl D (λi=>A i\/i=j) p.j->∀id,p.lo<=id->id<p.hi->(il (D (j+1)).bs).get id=ah)
 (Lh:∀id,(D (j+1)).n<=id->(il (D (j+1)).bs).get id=ah)(ae7:∀id,id<ro->id<er.n->(il (D (j+1)).bs).get id=er.at id):
 tS ops pl D N ro gz w0 er (λi=>A i\/i=j) (j+1) e' aM vN w' where
 sub:=λi hi=>hi.elim (h.sub i) (λx=>x▸hj)
 closed:=λi hi q hq=>hi.elim (λhi=>.inl (h.closed i hi q hq)) (λx=>.inl (hb q (x▸hq)))
 env:=he
 TK:=hj
 QM:=λi hi qQ=>by
  constructor
  .intro x;rcases x with x|rfl
   .have:=(zA i hi qQ).1 x;omega
   .omega
  .intro x;by_cases qN:i=j
   .exact .inr qN
   .exact .inl ((zA i hi qQ).2 aj)
 last:=.inr ⟨j,rfl,.inr rfl,iA⟩
 zU:=qG.fr qc
 piece:=λp hp hA hu id o h1 h2 h3=>lg p hp (bA p hp) (hA.resolve_right (bA p hp)) hu id o h1 h2 (h.piece p hp (hA.resolve_right (bA p hp)) (hu.less λ_ x=>.inl x) id o h1 h2 h3)
 base:=Jr
 Ox:=aqe
 top:=Lh
 low:=ae7
end X
end
section
variable{P:Program}{S:Nat->Self}{ro:Nat}{ops:Array Oper}{pl:ey}{D:Nat->DS}{N:Nat}[Sm]
theorem QN{e:Env}{o:Oper}{n bits:Nat}{v:IV}{aU:List Piece}{b:T Ob}(h:loadAt P e o n v aU bits b=ab):
 ∃σ,aA P n (aD e) o ⟨n,seen aU bits b⟩=aa (.val v σ)/\σ.n=n:=by
 unfold loadAt at h;split at h
 .rename_i u σ he;simp only[ayI]at h;rw[Sm.ok _ _ h.2]at he;exact⟨σ,he,Nat.eq_of_beq_eq_true h.1⟩
 .cases h
theorem Kw{e:Env}{o:Oper}{n bits:Nat}{v:IV}{aU:List Piece}{i:Nat}{b:T Ob}{rest:List (Nat×T Ob)}:∀{pre:List (Nat×T Ob)},nS P e o n v aU bits (pre++(i,b)::rest)=ab->
 (∀x∈pre,ay7 bits x.1≠ab)->loadAt P e o n v aU bits b=ab
 |[],h,_=>by
  simp only[azN,nS,ayI]at h;exact h.1
 |x::pre,h,hp=>by
  obtain⟨i',b'⟩:=x;simp only[azO,nS,ayI,azp]at h;exact Kw (h.2.resolve_left (hp (i',b') aw)) λy hy=>hp y (by simp[hy])
theorem aca{i:Nat}{t:Tmp}(h:kq ops i=aa t):i<ops.size:=by
 unfold kq at h;cases ho:ops[i]? with
 |none=>rw[ho]at h;cases h
 |some o=>exact(azx.1 ho).1
section step
variable{gz ι:Io}{w0 w:World}{er:St}{A:Nat->Prop}{m:Nat}{e:Env}{cur:Nat->Option Ob}{j:Nat}
theorem tS.reads(h:tS ops pl D N ro gz w0 er A m e ι cur w)(ht:Tr P S pl ro ops D)(ho:qf ops pl)(hj:j<ops.size)(ot:¬A j)(hb:∀i,ku pl j i->A i):∀t∈DT ops j,e.at t=(D j).e.at t:=by
 intro t hm;refine Lg h.env (ht.env ho j aj) λi hd=>?_;have hi:=aca hd;rcases aBp i j with ak|rfl|ak
 .refine⟨λ_=>ak,λ_=>azs λhn=>?_⟩;exact(ho.free i j ak hj (λhx=>hn (hb i hx))).1 t hd hm
 .exact⟨λx=>absurd x ot,λx=>absurd x aj⟩
 .refine⟨λhA=>absurd hm ?_,λx=>by omega⟩;exact(ho.free j i ak hi (λhx=>ot (h.closed i hA j hx))).2.1 t hd
theorem tS.order(h:tS ops pl D N ro gz w0 er A m e ι cur w)(ht:Tr P S pl ro ops D)(ho:qf ops pl)(hj:j<ops.size)(ot:¬A j)(hb:∀i,ku pl j i->A i)(iA:bt pl j=.effect\/bt pl j=.call):
 (∀i,i<ops.size->bt pl i=.effect->(A i↔i<j))/\m<=j/\(D j).bs=(D m).bs:=by
 have h1:∀i,i<ops.size->bt pl i=.effect->(A i↔i<j):=by
  intro i hi qQ;rcases aBp i j with ak|rfl|ak
  .refine⟨λ_=>ak,λ_=>azs λhn=>?_⟩;have:=(ho.free i j ak hj (λhx=>hn (hb i hx))).2.2;rw[qQ]at this;rcases iA with iA|iA<;>(rw[iA]at this;cases this)
  .exact⟨λx=>absurd x ot,λx=>absurd x aj⟩
  .refine⟨λhA=>?_,λx=>by omega⟩;have:=(ho.free j i ak hi (λhx=>ot (h.closed i hA j hx))).2.2;rw[qQ]at this;rcases iA with iA|iA<;>(rw[iA]at this;cases this)
 have h2:m<=j:=by
  rcases h.last with hm|⟨i,hm,hA,qQ⟩
  .omega
  .have:=(h1 i (h.sub i hA) qQ).1 hA;omega
 refine⟨h1,h2,ht.TG h2 aj λi XJ QO qQ=>?_⟩;have:=(h1 i aj qQ).2 QO;have:=(h.QM i aj qQ).1 this;omega
theorem Tr.aqf(ht:Tr P S pl ro ops D)(hj:j<ops.size):(D j).bs≠[]:=by
 obtain⟨_,_,_,_,h,_⟩:=ht.TF hj;exact h
theorem tS.aqg(h:tS ops pl D N ro gz w0 er A m e ι cur w)(ht:Tr P S pl ro ops D)(ho:qf ops pl)(hc:∀j,bY (S j))(hk:∀j,bI (S j))(h0:(D 0).aU=[])(hj:j<ops.size)(ot:¬A j)(hb:∀i,ku pl j i->A i)
 {o:Oper}{v:IV}(qi:ops[j]?=aa o)(hw:aY o ops (D j).e=ab)(iA:bt pl j=.load)(hej:(D (j+1)).e=(D j).e.put o.dst v)
 {i0:Nat}{b:T Ob}{rest:List (Nat×T Ob)}(jR:(D j).bs=(i0,b)::rest){σ:St}(he:aA P (D j).n (aD (D j).e) o ⟨(D j).n,seen (D j).aU (pl.cq.getD j 0) b⟩=aa (.val v σ))(m7:σ.n=(D j).n)
 (hl:(ay7 (pl.cq.getD j 0) i0||nS P (D j).e o (D j).n v (D j).aU (pl.cq.getD j 0) rest)=ab):
 ∃aU n' u au,aA P n' (aD e) o ⟨n',seen aU (pl.cq.getD j 0) (il (D m).bs)⟩=aa (.val u au)/\au.n=n'/\(∀p∈aU,Made ops D p/\vM ops pl D A p.j/\p.hi<=n')/\(D m).n<=n'/\e.put o.dst u=e.put o.dst v:=by
 have fm:=h.reads ht ho hj ot hb;have tP:e.n=(D j).e.n:=by rw[h.env.n,(ht.env ho j aj).n]
 by_cases MK:m<=j
 .have lg:∀p∈(D j).aU,Made ops D p/\vM ops pl D A p.j/\p.hi<=(D j).n:=by
   intro p hp;obtain⟨a,b,c⟩:=ht.aU ho h0 j aj p hp;refine⟨a,λi hA Ky=>c i ?_ Ky,by rw[a.hi];exact ht.gM hc hk b aj⟩;have:=(h.QM i (h.sub i hA) Ky.1).1 hA;omega
  have Si:=λ(n':Nat) (σ:St)=>sE (P:=P) (ro:=n') (σ:=σ) (vL qi fm tP).1;obtain⟨pre,Li,oq⟩:=ht.QL MK (by omega:j<=ops.size);cases pre with
  |nil=>
   have A4:il (D m).bs=b:=by
    rw[azN]at Li;rw[<-Li,jR];rfl
   exact⟨(D j).aU,(D j).n,v,σ,by rw[Si,A4];exact he,m7,lg,ht.gM hc hk MK aj,rfl⟩
  |cons x pre=>
   obtain⟨i1,b1,Sj,xc⟩:∃i1 b1 Sj,(D m).bs=(i1,b1)::Sj:=by
    cases hx:(D m).bs with
    |nil=>exact absurd hx (ht.aqf aj)
    |cons y ys=>exact⟨y.1,y.2,ys,rfl⟩
   have nob:∀y∈x::pre,ay7 (pl.cq.getD j 0) y.1≠ab:=by
    intro y hy lM;obtain⟨g1,g2,g3⟩:=oq y hy;have:=(h.QM y.1 aj g3).1 (hb y.1 lM);omega
   rw[jR]at Li;simp only[azO,aBb]at Li;obtain⟨hx,kj⟩:=Li
   have s7:ay7 (pl.cq.getD j 0) i0=af:=by
    have:=nob x aw;rw[<-hx]at this;simpa using this
   rw[s7,aAJ,kj,xc]at hl;obtain⟨au,h1,h2⟩:=QN (Kw hl λy hy=>nob y (by simp[hy]));refine⟨(D j).aU,(D j).n,v,au,?_,h2,lg,ht.gM hc hk MK aj,rfl⟩;rw[Si,xc];exact h1
 .obtain⟨i,hmi,hA,qQ⟩:∃i,m=i+1/\A i/\bt pl i=.effect:=h.last.resolve_left aj;have hi:=h.sub i hA;have qN:i≠j:=λhx=>ot (hx▸hA);have ak:j<i:=aj;have aqh:¬ku pl i j:=λhx=>ot (h.closed i hA j hx)
  have lg:∀p∈(D m).aU,Made ops D p/\vM ops pl D A p.j/\p.hi<=(D m).n:=by
   intro p hp;obtain⟨a,b,c⟩:=ht.aU ho h0 m h.TK p hp;refine⟨a,λi hA Ky=>c i ?_ Ky,by rw[a.hi];exact ht.gM hc hk b h.TK⟩;exact(h.QM i (h.sub i hA) Ky.1).1 hA
  have ZN:=ht.env ho i aj
  have aly:∀t∈DT ops j,e.at t=(D i).e.at t:=by
   intro t htm;refine Lg h.env ZN λq hd=>?_;have hq:=aca hd;rcases aBp q j with TL|rfl|TL
   .have:A q:=azs λhn=>(ho.free q j TL hj (λhx=>hn (hb q hx))).1 t hd htm;exact⟨λ_=>by omega,λ_=>this⟩
   .exact absurd htm (ho.ae4 q hj iA t hd)
   .exact absurd htm (ho.ab6 j q TL hq iA t hd)
  have alz:e.n=(D i).e.n:=by rw[h.env.n,ZN.n]
  have Si:=λ(n':Nat) (σ:St)=>sE (P:=P) (ro:=n') (σ:=σ) (vL qi aly alz).1;have kI:aY o ops (D i).e=ab:=by rw[<-(vL qi aly alz).2,(vL qi fm tP).2,hw]
  have HR:recheck P pl ops (pl.cq.getD i 0) (D i).e (D m).n (D m).aU (il (D m).bs) (ops.toList.zipIdx.take i)=ab:=by
   obtain⟨o',v',_,_,_,hs⟩:=ht.TF hi;rw[hmi];cases hs with
   |skip _ _ _ _ hx=>exact absurd qQ hx
   |Jq _ _ hn hp _ i1 b1 Sj _ cd hr=>rw[hn,hp,cd];exact hr
   |pure _ hx=>rw[qQ]at hx;cases hx
   |alloc _ hx=>rw[qQ]at hx;cases hx
   |load _ hx=>rw[qQ]at hx;cases hx
   |call _ hx=>rw[qQ]at hx;cases hx
   |effect _ _ i1 b1 Sj _ av _ hn cd hp hr=>rw[cd];exact hr
  unfold recheck at HR;rw[ayY]at HR
  have dR:(o,j)∈ops.toList.zipIdx.take i:=by
   rw[List.mem_iff_getElem?];refine⟨j,?_⟩;rw[azn,if_pos ak,aCH];have:ops.toList[j]?=aa o:=by simpa using qi
   rw[this];simp
  have hx:=HR (o,j) dR;dsimp only at hx;have aus:pl.kinds.getD j .effect=.load:=iA;rw[aus]at hx
  have s7:ay7 (pl.cq.getD i 0) j=af:=by
   cases hc:ay7 (pl.cq.getD i 0) j with
   |false=>rfl
   |true=>exact absurd hc aqh
  rw[s7,kI]at hx;simp only[azV,aAJ]at hx;split at hx
  .rename_i d hd;obtain⟨au,h1,h2⟩:=QN hx;refine⟨(D m).aU,(D m).n,(D i).e.at d,au,?_,h2,lg,ayL _,?_⟩
   .rw[Si];exact h1
   .rw[hd];have hdj:kq ops j=aa d:=by unfold kq;rw[qi];exact hd
    have aT:(D i).e.at d=(D (j+1)).e.at d:=ZN.put j ak d hdj;rw[aT,hej,hd,Env.dt];by_cases hdn:d<e.n
    .rw[if_pos ⟨by rw[<-tP];exact hdn,rfl⟩]
    .have gx:∀z:IV,e.put (aa d) z=e:=λz=>by
      have:azy d e.n=af:=by
       cases hc:azy d e.n with
       |false=>rfl
       |true=>exact absurd (by simpa using hc) hdn
      simp only[Env.put,this];rfl
     rw[gx,gx]
  .cases hx
end step
end
section
variable{P:Program}{S:Nat->Self}{ro nn:Nat}{ops:Array Oper}{pl:ey}{D:Nat->DS}{N:Nat}{F:Fence}{rd:Option Nat}{Q:Exit->Act->World->Prop}[Sm]
theorem put_defers{a:Act}{dst:Option Tmp}{u:Value}:(a.put dst u).defers=a.defers:=by cases dst<;>rfl
theorem ae8{cur:Nat->Option Ob}{σ au:St}(h:∀id,σ.at id=ah)(hn:au.n<=σ.n):Cm cur σ au=cur:=by
 funext id;unfold Cm
 grind
section step
variable{gz ι:Io}{w0 w:World}{er:St}{A:Nat->Prop}{m:Nat}{e:Env}{cur:Nat->Option Ob}{j:Nat}{a:Act}{K:Act->World->Prop}
theorem tS.step(hS:∀j,iJ P (S j) nn)(hC:∀j,eX P (S j))(hm:∀j,bY (S j))(hk:∀j,bI (S j))(ho:qf ops pl)(ht:Tr P S pl ro ops D)(h0:(D 0).aU=[])(m7:(D 0).n=er.n)(A_:(D ops.size).n<=N)(HS:Inv N gz er w0)
 (h:tS ops pl D N ro gz w0 er A m e ι cur w)(hj:j<ops.size)(ot:¬A j)(hb:∀i,ku pl j i->A i)(hF0:kH F rd gz)(he:dc ι e a.tmps)
 (hK:∀m' e' aM vN w' a',tS ops pl D N ro gz w0 er (λi=>A i\/i=j) m' e' aM vN w'->dc aM e' a'.tmps->a'.defers=a.defers->K a' w'):wpOpIn F 0 P ops Q j K a w:=by
 have⟨o,v,qi,hej,ayo,hs⟩:=ht.TF hj;have hF:kH F rd ι:=hF0.mono h.zU.ext;have ZO:=ht.env ho j aj;have fm:=h.reads ht ho hj ot hb;have tP:e.n=(D j).e.n:=by rw[h.env.n,ZO.n]
 have fD:=vL qi fm tP;have hold:∀t,kq ops j=aa t->(D j).e.at t=(D 0).e.at t:=λt hd=>ZO.cQ t λi hi hc=>ho.single i j hi hj t hc hd;have FC:vK ops D (λi=>A i\/i=j) (e.put o.dst v):=h.env.step ho h.sub qi ot hej hold ZO.n;have TB:∀id,er.n<=id->id<(D ops.size).n->∀e,gz id e=ah:=λid h1 h2=>HS.fresh id h1 aj;have hnj:(D j).n<=(D (j+1)).n:=ht.ab9 hm hk hj;have ae9:er.n<=(D j).n:=by rw[<-m7];exact ht.gM hm hk aj aj
 have ayp:(D (j+1)).n<=(D ops.size).n:=ht.gM hm hk aj aj
 have hX:∀id,((∃i,i<ops.size/\¬(A i\/i=j)/\(D i).n<=id/\id<(D (i+1)).n)\/((D ops.size).n<=id/\id<N))->
  ((∃i,i<ops.size/\¬A i/\(D i).n<=id/\id<(D (i+1)).n)\/((D ops.size).n<=id/\id<N))/\¬((D j).n<=id/\id<(D (j+1)).n):=by
  intro id hx;rcases hx with⟨i,h1,h2,h3⟩|hx
  .exact⟨.inl ⟨i,h1,λhA=>h2 (.inl hA),h3⟩,λhr=>h2 (.inr (ht.apart hm hk h1 hj h3 hr))⟩
  omega
 have hFr:∀id,(D j).n<=id->id<(D (j+1)).n->((∃i,i<ops.size/\¬A i/\(D i).n<=id/\id<(D (i+1)).n)\/((D ops.size).n<=id/\id<N)):=λid h1 h2=>.inl ⟨j,hj,ot,h1,h2⟩
 have Oy:(D (j+1)).n=(D j).n->∀p,Made ops D p->p.j=j->∀(vN:Nat->Option Ob) id o,p.lo<=id->id<p.hi->p.t.get id=aa o->vN id=aa o:=by
  intro hn p hp qR vN id o h1 h2;rw[hp.lo,qR]at h1;rw[hp.hi,qR]at h2;omega
 have hbB:∀{i0:Nat} {b:T Ob} {rest:List (Nat×T Ob)},(D j).bs=(i0,b)::rest->(D j).bs=(D m).bs->il (D m).bs=b:=λh1 h2=>by rw[<-h2,h1];rfl
 have kJ:(∀i,i<ops.size->bt pl i=.effect->(A i↔i<j))->∀p∈(D j).aU,Made ops D p/\vM ops pl D A p.j/\p.hi<=(D j).n:=by
  intro zA p hp;have⟨c1,c2,c3⟩:=ht.aU ho h0 j aj p hp;exact⟨c1,λi hA Ky=>c3 i ((zA i (h.sub i hA) Ky.1).1 hA) Ky,by rw[c1.hi];exact ht.gM hm hk c2 aj⟩
 unfold wpOpIn;rw[qi];dsimp only;rw[u_ he,fD.2];cases hs with
 |skip hw hv hn hp iA jR=>
  rw[hw];refine⟨λf _=>hF.fn f,?_⟩;subst hv;exact hK m _ ι cur w _ (h.next ht hm hk hj ot hb iA FC h.zU (λid hx=>(hX id hx).1) (λ_ _ _ hc=>hc) (.inl hn) (λp hp qR=>Oy hn p hp qR cur)) (he.put uG _) put_defers
 |Jq hw hv hn hp iA i0 b rest jR cd hr=>
  rw[hw];refine⟨λf _=>hF.fn f,?_⟩;subst hv;have⟨zA,MK,A4⟩:=h.order ht ho hj ot hb (.inl iA);have hB:=hbB jR A4;have ML:il (D (j+1)).bs=il (D m).bs:=by rw[cd,hB];rfl
  have eO:=ht.gM hm hk MK (by omega:j<=ops.size);refine hK (j+1) _ ι cur w _ (h.ahy hj hb iA zA FC h.zU (λid hx=>(hX id hx).1) (λ_ _ _ _ _ _ _ _ _ hc=>hc) (λp hp qR=>TI ht hp (by rw[qR];exact iA)) ?_ ?_ ?_ ?_) (he.put uG _) put_defers
  .rw[ML];exact h.base
  .rw[ML];exactλp hp hu=>h.Ox p hp (hu.less λ_ x=>.inl x)
  .rw[ML];exactλid hid=>h.top id aj
  .rw[ML];exact h.low
 |pure hw iA hn hp jR σ fk ED=>
  rw[hw];have hx:kW P (S j) 0 e o ⟨0,.lf⟩=aa (v,σ):=by unfold kW;rw[sE fD.1,fk]
  refine EB (N:=0) (hS j) (hC j) (hm j) hx aj hF (h.zU.toGn.inv (λid o hs=>by cases hs) (λid h1 h2=>by omega) (λ_ _=>rfl)) he λu w' aM hv ct hl=>?_;have qG:=h.zU.step TB (λid o hs=>by cases hs) (λid h1 h2=>by omega) (λid _ hs=>by cases hs) (λ_ _=>rfl) ct hl;rw[ae8 (λ_=>rfl) aj]at qG;exact hK m _ aM cur w' _ (h.next ht hm hk hj ot hb (by rw[iA];simp) FC qG (λid hx=>⟨(hX id hx).1,λhh=>by omega⟩) (λ_ _ _ hc=>hc) (.inl hn) (λp hp qR=>Oy hn p hp qR cur)) ((he.mono hl.ext).put hv _) put_defers
 |alloc hw iA jR σ fk hn hp=>
  rw[hw];have hx:kW P (S j) 0 e o ⟨(D j).n,.lf⟩=aa (v,σ):=by unfold kW;rw[sE fD.1,fk]
  refine EB (N:=(D (j+1)).n) (hS j) (hC j) (hm j) hx aj hF (h.zU.toGn.inv (λid o hs=>by cases hs) (λid h1 h2=>hFr id h1 h2) (λ_ _=>rfl)) he λu w' aM hv ct hl=>?_;have qG:=h.zU.step TB (λid o hs=>by cases hs) (λid h1 h2=>⟨ay6 ae9 h1,by omega⟩) (λid _ hs=>by cases hs) (λ_ _=>rfl) ct hl;have MH:Made ops D ⟨j,(D j).n,σ.n,σ.t⟩:=⟨hj,rfl,hn.symm,hp⟩;refine hK m _ aM _ w' _ (h.next ht hm hk hj ot hb (by rw[iA];simp) FC qG (λid hx=>⟨(hX id hx).1,λhh=>(hX id hx).2 (by rw[hn];exact hh)⟩) (λid o hr hc=>?_) (.inr ⟨_,MH,rfl⟩) (λp np qR id o h1 h2 h3=>?_)) ((he.mono hl.ext).put hv _) put_defers
  .unfold Cm;rw[if_neg,hc];intro hx;rcases hx with hx|hx
   .cases hx
   .exact hr (by rw[hn];exact hx)
  .have Cp:=TJ np MH qR;subst Cp;unfold Cm;rw[if_pos (.inr ⟨h1,h2⟩)];exact h3
 |load hw iA hn hp jR i0 b rest HT σ fk ED Mu=>
  rw[hw];have⟨aU,n',u',au,aut,ayq,ou,eO,Lc⟩:=h.aqg ht ho hm hk h0 hj ot hb qi hw iA hej HT fk ED Mu;have⟨ic,lD⟩:=h.see hb ou eO;have hx:kW P (S j) n' e o ⟨n',seen aU (pl.cq.getD j 0) (il (D m).bs)⟩=aa (u',au):=by unfold kW;rw[aut]
  refine EB (N:=n') (hS j) (hC j) (hm j) hx aj hF (h.zU.toGn.inv ic (λid h1 h2=>by dsimp only at h1;omega) lD) he λu w' aM hv ct hl=>?_;have qG:=h.zU.step (σ:=⟨n',seen aU (pl.cq.getD j 0) (il (D m).bs)⟩) TB ic (λid h1 h2=>by grind) (λid _ hs=>?_) lD ct hl
  .have XK:Cm cur ⟨n',seen aU (pl.cq.getD j 0) (il (D m).bs)⟩ au=cur:=by
    funext id;unfold Cm;split<;>try rfl
    rename_i hc;have hs:=hc.resolve_right bc;have⟨x,hx⟩:=aAS.1 hs;have ak:=aAV λhle=>by have:=lD id hle;rw[show(⟨n',seen aU (pl.cq.getD j 0) (il (D m).bs)⟩:St).at id=_ from this]at hx;grind
    rw[hl.zx id ak ak,hx];exact(ic id x hx).symm
   rw[XK]at qG;have auu:dc aM (e.put o.dst v) (a.put o.dst u).tmps:=by rw[<-Lc];exact(he.mono hl.ext).put hv _
   exact hK m _ aM cur w' _ (h.next ht hm hk hj ot hb bc FC qG (λid hx=>⟨(hX id hx).1,λhh=>by grind⟩) (λ_ _ _ hc=>hc) (.inl hn) (λp hp qR=>Oy hn p hp qR cur)) auu put_defers
  .exact aAV λhle=>by
    have:=lD id hle;rw[show(⟨n',seen aU (pl.cq.getD j 0) (il (D m).bs)⟩:St).at id=_ from this]at hs
    grind
 |call hw iA jR i0 b rest HT σ fk hn hp=>
  rw[hw];have⟨zA,MK,A4⟩:=h.order ht ho hj ot hb (.inr iA);have hB:=hbB HT A4;have eO:=ht.gM hm hk MK (by omega:j<=ops.size);have⟨ic,lD⟩:=h.see hb (kJ zA) eO;rw[hB]at ic lD
  have hx:kW P (S j) (D j).n e o ⟨(D j).n,seen (D j).aU (pl.cq.getD j 0) b⟩=aa (v,σ):=by
   rw[<-fk];unfold kW;rw[sE fD.1]
  have ak:∀id,((⟨(D j).n,seen (D j).aU (pl.cq.getD j 0) b⟩:St).at id).isSome=ab->id<(D j).n:=λid hs=>aAV λhle=>by
   have:=lD id hle;rw[show(⟨(D j).n,seen (D j).aU (pl.cq.getD j 0) b⟩:St).at id=_ from this]at hs
   grind
  refine EB (N:=(D (j+1)).n) (hS j) (hC j) (hm j) hx aj hF (h.zU.toGn.inv ic (λid h1 h2=>hFr id h1 h2) lD) he λu w' aM hv ct hl=>?_;have qG:=h.zU.step (σ:=⟨(D j).n,seen (D j).aU (pl.cq.getD j 0) b⟩) TB ic (λid h1 h2=>⟨ay6 ae9 h1,by omega⟩) (λid _ hs=>ak id hs) lD ct hl;have MH:Made ops D ⟨j,(D j).n,σ.n,σ.t⟩:=⟨hj,rfl,hn.symm,hp⟩;refine hK m _ aM _ w' _ (h.next ht hm hk hj ot hb bc FC qG (λid hx=>⟨(hX id hx).1,λhh=>(hX id hx).2 bc⟩) (λid o hr hc=>?_) (.inr ⟨_,MH,rfl⟩) (λp np qR id o h1 h2 h3=>?_)) ((he.mono hl.ext).put hv _) put_defers
  .unfold Cm;split
   .rename_i ow;have hs:=ow.resolve_right (λhx=>hr bc);have⟨x,hx⟩:=aAS.1 hs;rw[hl.zx id (ak id hs) (ak id hs),hx,<-ic id x hx];omega
   omega
  .have Cp:=TJ np MH qR;subst Cp;unfold Cm;rw[if_pos (.inr ⟨h1,h2⟩)];exact h3
 |effect hw iA i0 b rest HT σ fk hn cd hp hr=>
  rw[hw];have⟨zA,MK,A4⟩:=h.order ht ho hj ot hb (.inl iA);have hB:=hbB HT A4;have ML:il (D (j+1)).bs=σ.t:=by rw[cd];rfl
  have eO:=ht.gM hm hk MK (by omega:j<=ops.size);have⟨ic,lD⟩:=h.see hb (kJ zA) eO;rw[hB]at ic lD
  have hx:kW P (S j) ro e o ⟨(D j).n,seen (D j).aU (pl.cq.getD j 0) b⟩=aa (v,σ):=by
   rw[<-fk];unfold kW;rw[sE fD.1]
  have TM:XI ops pl D j:=⟨iA,o,qi,hw⟩
  have oF:∀p,Made ops D p->vM ops pl D (λi=>A i\/i=j) p.j->∀id,p.lo<=id->id<p.hi->(seen (D j).aU (pl.cq.getD j 0) b).get id=ah:=by
   intro p np hu id h1 h2;cases zV:(seen (D j).aU (pl.cq.getD j 0) b).get id with
   |none=>rfl
   |some x=>
    rcases Lf zV with⟨q,hq,lM,g1,g2,g3⟩|zV
    .have⟨B_,_,_⟩:=kJ zA q hq
     have:q.j=p.j:=by
      rw[B_.lo]at g1;rw[B_.hi]at g2;rw[np.lo]at h1;rw[np.hi]at h2;exact ht.apart hm hk B_.lt np.lt ⟨g1,g2⟩ ⟨h1,h2⟩
     exact absurd (show ku pl j p.j by rw[<-this];exact lM) (hu j (.inr rfl) TM)
    .rw[<-hB,h.Ox p np (hu.less λ_ x=>.inl x) id h1 h2]at zV
     grind
  have bA:∀p,Made ops D p->p.j≠j:=λp np qR=>TI ht np bc
  have ZP:∀p,Made ops D p->∀id,p.lo<=id->id<p.hi->¬((D j).n<=id/\id<σ.n):=λp np id h1 h2 hx=>by
   rw[np.lo]at h1;rw[np.hi]at h2;exact bA p np (ht.apart hm hk np.lt hj ⟨h1,h2⟩ aj)
  refine EB (N:=(D (j+1)).n) (hS j) (hC j) (hm j) hx aj hF (h.zU.toGn.inv ic (λid h1 h2=>hFr id h1 h2) lD) he λu w' aM hv ct hl=>?_;have qG:=h.zU.step (σ:=⟨(D j).n,seen (D j).aU (pl.cq.getD j 0) b⟩) TB ic (λid h1 h2=>⟨ay6 ae9 h1,by omega⟩) (λid hr _=>hr) lD ct hl;refine hK (j+1) _ aM _ w' _ (h.ahy hj hb iA zA FC qG (λid hx=>⟨(hX id hx).1,λhh=>(hX id hx).2 bc⟩) (λp np qR hA hu id o h1 h2 hc=>?_) bA ?_ ?_ ?_ ?_) ((he.mono hl.ext).put hv _) put_defers
  .unfold Cm;rw[if_neg]
   .omega
   .intro hx;rcases hx with hx|hx
    .rw[show(⟨(D j).n,seen (D j).aU (pl.cq.getD j 0) b⟩:St).at id=_ from oF p np hu id h1 h2]at hx
     grind
    grind
  .rw[ML];intro id o hg;unfold Cm;split<;>try exact hg
   rename_i hx
   have ki:(⟨(D j).n,seen (D j).aU (pl.cq.getD j 0) b⟩:St).at id=ah:=by
    cases hs:(⟨(D j).n,seen (D j).aU (pl.cq.getD j 0) b⟩:St).at id with
    |none=>rfl
    |some y=>grind
   have axR:=λhh=>hx (.inr hh);have:=hl.dead id ki aj;rw[show σ.at id=_ from hg]at this;grind
  .rw[ML];intro p np hu id h1 h2;have:=ZP p np id h1 h2;exact hl.dead id (oF p np hu id h1 h2) bc
  .rw[ML];intro id hid;exact hl.dead id (lD id aj) (.inr aj)
  .rw[ML];intro id EE ak;rw[show σ.t.get id=σ.at id from rfl,hl.zx id EE bc];show(seen (D j).aU (pl.cq.getD j 0) b).get id=_;rw[ae5,<-hB]
   .exact h.low id EE ak
   .intro p np;have⟨c1,c2,_⟩:=ht.aU ho h0 j aj p np;rw[c1.lo];have:=ht.gM hm hk (azz p.j) aj;omega
end step
end
section
variable{P:Program}{S:Nat->Self}{ro nn:Nat}{ops:Array Oper}{pl:ey}{D:Nat->DS}{N:Nat}{F:Fence}{rd:Option Nat}{Q:Exit->Act->World->Prop}[Sm]
def ie(listed:Array Bool)(i:Nat):Prop:=listed[i]?=aa ab
omit [Sm]in
theorem AI{listed:Array Bool}{j:Nat}(hj:j<listed.size):ie (listed.setIfInBounds j ab)=λi=>ie listed i\/i=j:=by
 funext i;refine propext ?_;unfold ie;rw[Array.getElem?_setIfInBounds];by_cases qN:j=i
 .subst qN;simp[hj]
 .simp[qN,Ne.symm qN]
omit [Sm]in
theorem rK{listed:Array Bool}{j:Nat}(h:j∈azJ .any ops listed):j<ops.size/\listed[j]?=aa af/\∃o,ops[j]?=aa o/\∀e∈o.after.toList,az7 .any e=ab->ie listed e.on:=by
 unfold azJ at h;rw[azB,aAi]at h;obtain⟨ak,h⟩:=h;rw[ayI]at h;refine⟨ak,?_,ops[j],aza ak,λe he hb=>?_⟩
 .have h1:=h.1;rw[azL]at h1;cases hx:listed[j]? with
  |none=>rw[hx]at h1;cases h1
  |some b=>rw[hx]at h1;cases b with
   |false=>rfl
   |true=>cases h1
 .have h2:=h.2;rw[aza ak]at h2;simp only[azl,aAy]at h2;rw[aCM]at h2;have:=h2 e (by simpa using he);rw[hb,azV,aAJ,azL]at this;unfold ie;cases hx:listed[e.on]? with
  |none=>rw[hx]at this;cases this
  |some b=>rw[hx]at this;cases b with
   |false=>cases this
   |true=>rfl
omit [Sm]in
theorem QP(ho:qf ops pl){listed:Array Bool}(bo:listed.size=ops.size)(h:azJ .any ops listed=[]):∀i,i<ops.size->ie listed i:=by
 intro i;induction i using aDC with
 |_ i ih=>
  intro hi;refine azs λhn=>?_
  have hf:listed[i]?=aa af:=by
   rw[aza aj];cases hx:listed[i]'aj with
   |false=>rfl
   |true=>exact absurd (by unfold ie;rw[aza aj,hx]) hn
  have hm:i∈azJ .any ops listed:=by
   unfold azJ;rw[azB,aAi];refine⟨hi,?_⟩;rw[azL,hf,aza hi];simp only[aAy,Bool.not_false,Bool.true_and,azl];rw[aCM];intro e he;cases hb:az7 .any e with
   |false=>rfl
   |true=>
    have ak:=ho.back i _ (aza hi) e (by simpa using he) hb;have:=ih e.on ak aj;unfold ie at this;rw[azL,this];rfl
  rw[h]at hm;cases hm
section any
variable{gz:Io}{w0:World}{er:St}{a0:Act}
theorem alA(hS:∀j,iJ P (S j) nn)(hC:∀j,eX P (S j))(hm:∀j,bY (S j))(hk:∀j,bI (S j))(ho:qf ops pl)(ht:Tr P S pl ro ops D)(h0:(D 0).aU=[])(m7:(D 0).n=er.n)(A_:(D ops.size).n<=N)(HS:Inv N gz er w0)
 (hF0:kH F rd gz)(Ba:∀m e ι cur w a,tS ops pl D N ro gz w0 er (λi=>i<ops.size) m e ι cur w->dc ι e a.tmps->a.defers=a0.defers->Q .normal a w):
 ∀(fuel:Nat) (listed:Array Bool) (m:Nat) (e:Env) (ι:Io) (cur:Nat->Option Ob) (w:World) (a:Act),listed.size=ops.size->listed.toList.count af<=fuel->tS ops pl D N ro gz w0 er (ie listed) m e ι cur w->
  dc ι e a.tmps->a.defers=a0.defers->wpAnyIn F 0 P .any ops Q fuel listed a w:=by
 have bX:∀(listed:Array Bool) (m:Nat) (e:Env) (ι:Io) (cur:Nat->Option Ob) (w:World) (a:Act),listed.size=ops.size->(∀i,i<ops.size->ie listed i)->tS ops pl D N ro gz w0 er (ie listed) m e ι cur w->
  dc ι e a.tmps->a.defers=a0.defers->Q .normal a w:=by
  intro listed m e ι cur w a bo hl h he hd
  have:ie listed=λi=>i<ops.size:=by
   funext i;refine propext ⟨λhx=>h.sub i hx,hl i⟩
  grind
 intro fuel;induction fuel with
 |zero=>
  intro listed m e ι cur w a bo hc h he hd
  have hl:∀i,i<ops.size->ie listed i:=by
   intro i hi;have ak:i<listed.size:=aj;unfold ie;rw[aza ak];cases hx:listed[i]with
   |true=>rfl
   |false=>
    have dR:af∈listed.toList:=by
     grind
    grind
  refine⟨?_,bX listed m e ι cur w a bo hl h he hd⟩;cases hr:azJ .any ops listed with
  |nil=>rfl
  |cons x xs=>
   have⟨h1,h2,_⟩:=rK (show x∈azJ .any ops listed by grind);have:=hl x h1
   simp_all[ie]
 |succ fuel ih=>
  intro listed m e ι cur w a bo hc h he hd;refine⟨λhr=>bX listed m e ι cur w a bo (QP ho bo hr) h he hd,λj hj=>?_⟩;have⟨TH,hlj,o,qi,ae_⟩:=rK hj;have ot:¬ie listed j:=λhx=>by simp_all[ie]
  have hb:∀i,ku pl j i->ie listed i:=by
   intro i lM;have⟨e',gw,Hg,hh⟩:=ho.bits j o qi i lM;have:=ae_ e' gw Hg;rcases hh with rfl|hh
   .omega
   .exact h.closed _ this i hh
  refine h.step hS hC hm hk ho ht h0 m7 A_ HS TH ot hb hF0 he λm' e' aM vN w' a' hP gw vH=>?_;rw[<-AI aj]at hP
  grind
end any
def HU(hS:∀j,iJ P (S j) nn)(hC:∀j,eX P (S j))(hm:∀j,bY (S j))(hk:∀j,bI (S j)):
 ∀N ro rd ops e df σ cr,kX P S ro ops e df σ=aa cr->cr.σ.n<=N->∀F ι a w Q,kH F rd ι->Inv N ι σ w->dc ι e a.tmps->mf ι df a.defers->uH N ro ι w σ cr Q->wpAnyIn F 0 P .any ops Q ops.size (azF ops.size af) a {w with drawn:=w.drawn+1}:=by
 intro N ro rd ops e df σ cr h hN F ι a w Q hF hi he hd hQ;simp only[kX]at h;split at h
 .rename_i bf;split at h
  .rename_i e' n i b rest aU MB;cases h;have⟨ht,c8⟩:=ae6 MB;generalize hDd:qg P S (bS ops) ro ops ⟨e,σ.n,[(0,σ.t)],[]⟩=D at ht c8;have hD0:D 0=⟨e,σ.n,[(0,σ.t)],[]⟩:=by rw[<-hDd];rfl
   have ho:=ab8 bf;have hn:(D ops.size).n=n:=bc;have ct:Inv N ι σ {w with drawn:=w.drawn+1}:=hi.same rfl;have hle:Le ro ι w σ ι {w with drawn:=w.drawn+1} σ:=Le.same rfl rfl rfl rfl
   have auv:σ.n<=N:=by
    have:=ht.gM hm hk (azz ops.size) (ayL _)
    grind
   have hQ':=hQ.from hi hle auv;have EF:il (D 0).bs=σ.t:=by rw[hD0];rfl
   have m7:(D 0).n=σ.n:=bc
   have auw:tS ops (bS ops) D N ro ι {w with drawn:=w.drawn+1} σ (ie (azF ops.size af)) 0 e ι σ.at {w with drawn:=w.drawn+1}:=by
    have gx:∀i,¬ie (azF ops.size af) i:=by
     simp_all[ie,aCk]
    refine⟨λi hx=>absurd hx (gx i),λj hx=>absurd hx (gx j),⟨by grind,λj hx=>absurd hx (gx j),λt _=>by grind⟩,azz _,λi _ _=>⟨λhx=>absurd hx (gx i),λhx=>absurd hx (Nat.not_lt_zero _)⟩,.inl rfl,
     (Cn.start ct bc).fr ?_,λp _ hx=>absurd hx (gx _),?_,?_,?_,?_⟩
    .intro id hx;rcases hx with⟨j,hj,_,h1,h2⟩|⟨h1,h2⟩
     .have g1:=ht.gM hm hk (azz j) aj;have g2:=ht.gM hm hk (show j+1<=ops.size from hj) (ayL _)
      grind
     .have g1:=ht.gM hm hk (azz ops.size) (ayL _);omega
    .rw[EF];exactλ_ _ h=>h
    .rw[EF];intro p hp _ id h1 _;have g1:=ht.gM hm hk (azz p.j) (by have:=hp.lt;omega);exact hi.wf id (by grind [hp.lo])
    .rw[EF,m7];exact hi.wf
    .rw[EF];exactλ_ _ _=>rfl
   refine alA (a0:=a) hS hC hm hk ho ht bc m7 bc ct hF ?_ ops.size _ 0 e ι σ.at _ a aw ?_ auw he rfl
   .intro m e1 bQ cur w1 a1 hp nq Cg
    have jR:=ht.TG hp.TK (ayL _) λi h1 h2 qQ=>by
     have:=(hp.QM i h2 qQ).1 h2;omega
    have hB:il (D m).bs=b:=by rw[<-jR,<-c8];rfl
    have lg:(D ops.size).aU=aU:=bc
    have kJ:∀p∈aU,Made ops D p/\vM ops (bS ops) D (λi=>i<ops.size) p.j/\p.hi<=n:=by
     intro p Hf;have⟨c1,c2,c3⟩:=ht.aU ho bc ops.size (ayL _) p bc;exact⟨c1,λi hA Ky=>c3 i hA Ky,by rw[c1.hi,<-hn];exact ht.gM hm hk c2 (ayL _)⟩
    have qG:=hp.zU;rw[hn]at qG;have eO:=ht.gM hm hk hp.TK (ayL _);have h0n:=ht.gM hm hk (azz ops.size) (ayL _)
    obtain⟨i1,l1⟩:=qG.fin (N:=N) (t:=aU.foldl dO b) aj (λid h1 h2=>.inr ⟨h1,h2⟩) (λid o hg=>by
     rcases FB _ _ _ _ hg with⟨p,Hf,g1,g2,g3⟩|hg
     .have⟨c1,c2,_⟩:=kJ p Hf;exact hp.piece p c1 c1.lt c2 id o g1 g2 g3
     .exact hp.base id o bc)
     (λid hid=>by
      cases hg:(aU.foldl dO b).get id with
      |none=>rfl
      |some o=>
       rcases FB _ _ _ _ hg with⟨p,Hf,g1,g2,g3⟩|hg
       .grind
       .rw[<-hB,hp.top id aj]at hg;grind)
     (λid hr ak=>by
      rw[Ld,<-hB]
      .exact hp.low id hr ak
      .intro p Hf;have⟨c1,_,_⟩:=kJ p Hf;rw[c1.lo];have:=ht.gM hm hk (azz p.j) (by have:=c1.lt;omega);omega)
    have FC:dc bQ e' a1.tmps:=by
     have oU:=ht.env ho ops.size (ayL _);have Qz:(D ops.size).e=e':=bc;refine⟨by rw[<-Qz,oU.n,<-hp.env.n];exact nq.1,λt=>?_⟩;rw[<-Qz,<-Lg hp.env oU (t:=t) λi _=>Iff.rfl];exact nq.2 t
    exact hQ' a1 w1 bQ [] i1 l1 FC (by rw[Cg];exact hd.mono l1.ext) trivial
   simp
  grind
 grind
def Lj(fR:P.follows .mixedOrders=ab)(hS:∀j,iJ P (S j) nn)(hC:∀j,eX P (S j))(hm:∀j,bY (S j))(hk:∀j,bI (S j)):
 ∀N ro rd ops e df σ cr,kX P S ro ops e df σ=aa cr->cr.σ.n<=N->∀F ι a w Q id,kH F rd ι->Inv N ι σ w->dc ι e a.tmps->mf ι df a.defers->uH N ro ι w σ cr Q->(aD5 id ops ab).wpIn F 0 P Q a w:=
 λN ro rd ops e df σ cr h hN F ι a w Q _ hF hi he hd hQ=>wpIn_region_any fR (HU hS hC hm hk N ro rd ops e df σ cr h hN F ι a w Q hF hi he hd hQ)
omit [Sm]in
def XL{U:Self}(fR:P.follows .mixedOrders=ab)(hS:iJ P U nn)(hC:eX P U)(hm:bY U)(hk:bI U):Tv P U:=
 @Lj _ _ _ yP fR (λ_=>hS) (λ_=>hC) (λ_=>hm) (λ_=>hk)
end
section
variable{P:Program}{N ro m:Nat}{ι:Io}{w:World}{σ:St}{e:Env}{a:Act}{F:Fence}{rd:Option Nat}{Q:Exit->Act->World->Prop}{fn:FuncId}{df:List Df}{cr:CR}
def gD(P:Program)(ro:Nat)(rd:Option Nat)(fn:FuncId)(c:Code)(e:Env)(df:List Df)(σ:St)(cr:CR):Prop:=
 σ.n<=cr.σ.n/\∃m0,∀m,m0<=m->∀N,cr.σ.n<=N->∀F ι a w Q,kH F rd ι->Inv N ι σ w->dc ι e a.tmps->mf ι df a.defers->uH N ro ι w σ cr Q->ZJ F P m c Q a w
def lN(P:Program)(ro:Nat)(f:FuncId)(args:List IV)(σ:St)(v:IV)(au:St):Prop:=
 σ.n<=au.n/\∀N,au.n<=N->∀ι us w,Inv N ι σ w->aN ι args us->CallsIn azk 0 P f us.toArray w (Af N ro ι w σ v au)
def uJ(P:Program)(ro:Nat)(rd:Option Nat)(ops:Array Oper)(l:List Oper)(e:Env)(df:List Df)(σ:St)(cr:CR):Prop:=
 σ.n<=cr.σ.n/\∀N,cr.σ.n<=N->∀F ι a w Q k,ops.toList.drop k=l->kH F rd ι->Inv N ι σ w->dc ι e a.tmps->mf ι df a.defers->uH N ro ι w σ cr Q->
  wpOpsIn F 0 P ops Q (aAx k l.length) a w
def gD.mk{c:Code}(hn:σ.n<=cr.σ.n)(hl:∀b,c≠.loop b)(h:∀N,cr.σ.n<=N->∀F ι a w Q,kH F rd ι->Inv N ι σ w->dc ι e a.tmps->mf ι df a.defers->uH N ro ι w σ cr Q->c.wpIn F 0 P Q a w):gD P ro rd fn c e df σ cr:=by
 refine⟨hn,0,λm _ N hN F ι a w Q hF hi he hd hQ=>?_⟩;have:=h N hN F ι a w Q hF hi he hd hQ;cases c<;>first|exact this|grind
theorem gD.wp{c:Code}(h:gD P ro rd fn c e df σ cr)(hN:cr.σ.n<=N)(hF:kH F rd ι)(hi:Inv N ι σ w)(he:dc ι e a.tmps)(hd:mf ι df a.defers)(hQ:uH N ro ι w σ cr Q):c.wpIn F 0 P Q a w:=by
 have⟨_,m0,h⟩:=h;exact(h m0 (ayL _) N hN F ι a w Q hF hi he hd hQ).wp
theorem gD.seq{x y:Code}{e1:Env}{tR:List Df}{av:St}(h:gD P ro rd fn x e df σ ⟨.normal,e1,tR,av⟩)(k:gD P ro rd fn y e1 tR av cr):gD P ro rd fn (.seq x y) e df σ cr:=by
 refine .mk (ay6 h.1 k.1) aw λN hN F ι a w Q hF hi he hd hQ=>wpIn_seq ?_;have eG:=ay6 k.1 hN;refine h.wp eG hF hi he hd ?_;intro a1 w1 bQ fC i1 l1 cS d1 p1;exact k.wp hN (hF.mono l1.ext) i1 cS d1 (hQ.from hi l1 eG)
theorem gD.cond{c:Operand}{x y:Code}{t:Bool}(hc:aD e c=.raw (.bool t))(h:gD P ro rd fn (if t then x else y) e df σ cr):gD P ro rd fn (.cond c x y) e df σ cr:=
 .mk h.1 aw λN hN F ι a w Q hF hi he hd hQ=>wpIn_cond (Lb hc (he.eval c)) (h.wp hN hF hi he hd hQ)
def gD.QQ{id:Nat}{x:Code}(h:gD P ro rd fn x e df σ cr)(hx:cr.ex≠.exit id):gD P ro rd fn (.block id x) e df σ cr:=by
 refine .mk h.1 aw λN hN F ι a w Q hF hi he hd hQ=>wpIn_block (h.wp hN hF hi he hd ?_);intro a1 w1 bQ fC i1 l1 cS d1 p1;have:=hQ a1 w1 bQ fC i1 l1 cS d1 p1;cases hc:cr.ex with
 |exit bz=>
  simp_all[HN,aDZ]
 |_=>rw[hc]at this;exact this
theorem gD.region{id:Nat}{ops:Array Oper}(h:uJ P ro rd ops ops.toList e df σ cr):gD P ro rd fn (.region id ops af) e df σ cr:=by
 refine .mk h.1 aw λN hN F ι a w Q hF hi he hd hQ=>wpIn_region ?_;have:=h.2 N hN F ι a w Q 0 aw hF hi he hd hQ
 simp_all[aBE]
variable{ops:Array Oper}{o:Oper}{l:List Oper}
def uJ.nil:uJ P ro rd ops [] e df σ ⟨.normal,e,df,σ⟩:=
 ⟨ayL _,λ_ _ _ ι a w _ _ _ _ hi he hd hQ=>hQ a w ι [] hi (Le.refl _ _ _ _) he hd trivial⟩
def uJ.cons(hn:σ.n<=cr.σ.n)(hw:aY o ops e=ab)
 (h:∀N,cr.σ.n<=N->∀F ι a w Q k,ops.toList.drop (k+1)=l->kH F rd ι->Inv N ι σ w->dc ι e a.tmps->mf ι df a.defers->uH N ro ι w σ cr Q->
  o.wpIn F 0 P a w (wpOpsIn F 0 P ops Q (aAx (k+1) l.length)) Q):uJ P ro rd ops (o::l) e df σ cr:=by
 refine⟨hn,λN hN F ι a w Q k hl hF hi he hd hQ=>?_⟩
 have kj:ops.toList.drop (k+1)=l:=by
  rw[<-aAR (i:=1) (j:=k),hl];rfl
 have bf:ops[k]?=aa o:=by
  have:(ops.toList.drop k)[0]?=aa o:=bc
  grind
 simp only[azh,aBf];rw[wpOpsIn_cons];unfold wpOpIn;rw[bf];simp only;rw[u_ he,if_pos hw]
 grind
theorem uJ.val{v:IV}{av:St}(hw:aY o ops e=ab)(hv:aA P ro (aD e) o σ=aa (.val v av))(h:uJ P ro rd ops l (e.put o.dst v) df av cr):uJ P ro rd ops (o::l) e df σ cr:=by
 refine .cons (ay6 (mB hv) h.1) hw λN hN F ι a w Q k hl hF hi he hd hQ=>?_;have eG:=ay6 h.1 hN;refine⟨λf _=>hF.fn f,?_⟩;rw[aAo _ _ _ (jd hv aw)];have⟨u,w',aM,hr,h2,h3,h4⟩:=qO hi he.eval hv eG
 have key:=
  h.2 N hN F aM _ w' Q (k+1) hl (hF.mono h4.ext) h3 ((he.mono h4.ext).put h2 _) (hd.mono h4.ext|>λx=>by cases o.dst<;>exact x) (hQ.from hi h4 eG)
 rcases hr with hr|⟨hr,rfl⟩
 all_goals simp_all[aBt,aDg]
def uJ.defer{d:Df}(hw:aY o ops e=ab)(hv:aA P ro (aD e) o σ=aa (.dfr d))(h:uJ P ro ah ops l (e.put o.dst .undef) (d::df) σ cr):uJ P ro ah ops (o::l) e df σ cr:=by
 refine .cons h.1 hw λN hN F ι a w Q k hl hF hi he hd hQ=>?_
 have hFe:F=azk:=by
  rcases hF with⟨_,h2⟩|⟨_,_,h2,_⟩
  all_goals grind
 refine⟨λf _=>hF.fn f,?_⟩;have⟨dd,hr,Kt,c,hc⟩:=qO hi he.eval hv;have ae2:(o.semAt F.round a.eval)=execOp a.eval o:=by rw[hFe];rfl
 rw[ae2,hr,aC5];refine h.2 N hN F ι _ w Q (k+1) hl hF hi ?_ ?_ hQ
 .cases eY:o.dst with
  |none=>exact he
  |some t=>exact he.set uG t
 .cases o.dst<;>exact⟨Kt,hd⟩
end
section
variable{P:Program}{N ro:Nat}{ι:Io}{w:World}{σ:St}
inductive Pure:IV->Prop
 |raw (v:Value):Pure (.raw v)
 |agg (cs:List IV) (h:∀c∈cs,Pure c):Pure (.agg cs)
 |aF (cs:List IV) (h:∀c∈cs,Pure c):Pure (.aF cs)
 |emp:Pure .emp
 |dP (t:TypeId) (x:IV) (h:Pure x):Pure (.dP t x)
 |tree (s:Nat) (es:List IV) (h:∀e∈es,∀c∈cellsOf e,Pure c):Pure (.tree s es)
 |fn (f:Fn) (as bs:List IV) (h:∀c∈as,Pure c) (h2:∀c∈bs,Pure c):Pure (.fn f as bs)
abbrev jf(M:Fz):Io:=⟨λ_ _=>ah,M⟩
def Pure.rv{M:Fz}{x:IV}(hp:Pure x):∀{v:Value},Rv ι x v->(∀b c,ι.m b=aa c->M b=aa c)->Rv (jf M) x v:=by
 induction hp with
 |raw v=>intro u h _;cases h;exact .raw v
 |agg cs _ ih=>intro u h hM;cases h with|agg _ vs hl hh=>exact .agg cs vs hl λi c v h1 h2=>ih c (ayX h1) (hh i c v h1 h2) hM
 |aF cs _ ih=>intro u h hM;cases h with|aF _ vs hl hh=>exact .aF cs vs hl λi c v h1 h2=>ih c (ayX h1) (hh i c v h1 h2) hM
 |emp=>intro u h _;cases h;exact .emp _
 |dP t x _ ih=>intro u h hM;cases h with|dP _ _ v hh=>exact .dP t x v (ih hh hM)
 |tree s es _ ih=>
  intro u h hM;cases h with
  |tree _ _ b off c us hs hc bH hu hh=>exact .tree s es b off c us hs hc bH (λk hk=>Fm hM (hu k hk)) λi e j c h1 h2=>ih e (ayX h1) c (ayX h2) (hh i e j c h1 h2) hM
  |eJ _ a c hs hn=>exact .eJ s a c hs hn
 |fn f as bs _ _ ih gK=>
  intro u h hM;cases h with
  |fn _ _ _ cs ds hl hh gb va=>exact .fn f as bs cs ds hl (λi c v h1 h2=>ih c (ayX h1) (hh i c v h1 h2) hM) gb (λi c v h1 h2=>gK c (ayX h1) (va i c v h1 h2) hM)
inductive Can(fr:Bool)(σ:St):IV->IV->Prop
 |raw (v:Value):Can fr σ (.raw v) (.raw v)
 |nil (s:Nat) (hs:0<s):Can fr σ (.raw (.slice ah 0 0)) (.tree s [])
 |emp (s:Nat) (hs:0<s):Can fr σ .emp (.tree s [])
 |dP (t:TypeId) (x y:IV) (h:Can fr σ x y):Can fr σ (.dP t x) (.dP t y)
 |agg (cs ds:List IV) (hl:cs.length=ds.length) (h:∀(i:Nat) c d,cs[i]?=aa c->ds[i]?=aa d->Can fr σ c d):Can fr σ (.agg cs) (.agg ds)
 |aF (cs ds:List IV) (hl:cs.length=ds.length) (h:∀(i:Nat) c d,cs[i]?=aa c->ds[i]?=aa d->Can fr σ c d):Can fr σ (.aF cs) (.aF ds)
 |pure (x:IV) (hf:fr=ab) (hp:Pure x):Can fr σ x x
 |eJ (s:Nat):Can fr σ (.tree s []) (.tree s [])
 |sl (id off len:Nat) (cap:Option Nat) (ep s:Nat) (cs:List IV) (aE mn:Nat) (es:List IV) (aT:σ.at id=aa (.cells cs aE mn)) (h1:mn<=ep) (h2:ep<=aE) (hl:es.length=len) (hb:off+len*s<=cs.length)
   (bH:∀e∈es,(cellsOf e).length=s) (h:∀(i:Nat) e (j:Nat) c d,es[i]?=aa e->(cellsOf e)[j]?=aa d->cs[off+i*s+j]?=aa c->Can fr σ c d):Can fr σ (.sl id off len cap ep s) (.tree s es)
theorem Can.rv{fr:Bool}{M:Fz}{x z:IV}(hi:Inv N ι σ w)(hM:∀b c el,w.heap[b]?=aa (.cells c el (0,0))->(∃id,Own ι id b)->M b=aa c)(hm:fr=ab->∀b c,ι.m b=aa c->M b=aa c)
 (h:Can fr σ x z):∀{u:Value},Rv ι x u->Rv (jf M) z u:=by
 induction h with
 |raw v=>intro u h;cases h;exact .raw v
 |nil s hs=>intro u h;cases h;exact .eJ s ah 0 hs (λ_=>rfl)
 |emp s hs=>intro u h;cases h;exact .eJ s _ 0 hs (λ_=>rfl)
 |dP t x y _ ih=>intro u h;cases h with|dP _ _ v hh=>exact .dP t y v (ih hh)
 |agg cs ds hl _ ih=>
  intro u h;cases h with
  |agg _ vs cJ hh=>
   refine .agg ds vs (hl▸cJ) λi d v h1 h2=>?_;have ct:i<cs.length:=by have:=(ayH.1 h1).1;omega
   exact ih i _ d (ayG ct) h1 (hh i _ v (ayG ct) h2)
 |aF cs ds hl _ ih=>
  intro u h;cases h with
  |aF _ vs cJ hh=>
   refine .aF ds vs (hl▸cJ) λi d v h1 h2=>?_;have ct:i<cs.length:=by have:=(ayH.1 h1).1;omega
   exact ih i _ d (ayG ct) h1 (hh i _ v (ayG ct) h2)
 |pure x hf hp=>intro u h;exact hp.rv h (hm hf)
 |eJ s=>
  intro u h;cases h with
  |tree _ _ b off c us hs hc bH hu hh=>exact .eJ s _ c hs aw
  |eJ _ a c hs hn=>exact .eJ s a c hs hn
 |sl id off len cap ep s cs aE mn es aT h1 h2 hl hb bH _ ih=>
  intro u h;cases h with
  |sl _ _ _ _ _ _ l c a cJ hn kF hs hle kG ha=>
   have⟨⟨_,_⟩,_,ZQ⟩:=hi.obj id _ aT;have⟨l',ca,el,gb,Hc,aqi,axS,jH⟩:=ZQ ep h1 h2;rw[cJ]at gb;cases gb;have hMb:=hM _ _ _ aqi ⟨id,ep,l,cJ,rfl⟩;subst hl;by_cases he:es=[]
   .subst he;exact .eJ s (aa a) c hs aw
   .have xy:0<es.length:=by cases es with|nil=>exact absurd rfl he|cons=>simp
    have MA:=ha aj;subst MA;refine .tree s es l.b off c (λk=>ca.getD (off+k) azm) hs hle bH (λk hk=>?_) (λi e j d dH xh=>?_)
    .have⟨x,hx⟩:∃x,cs[off+k]?=aa x:=⟨_,ayG aj⟩;have⟨v,hv,_⟩:=jH (off+k) x aj hx;show(M l.b).bind _=_;rw[hMb];simp[hv]
    .have ct:=(ayH.1 dH).1;have oT:j<s:=by have:=(ayH.1 xh).1;rw[bH e (ayX dH)]at this;exact this
     have hmul:i*s+s<=es.length*s:=by
      have:(i+1)*s<=es.length*s:=azd s ct;rw[Nat.add_mul]at this;omega
     have⟨x,hx⟩:∃x,cs[off+i*s+j]?=aa x:=⟨_,ayG aj⟩;have⟨v,hv,hr⟩:=jH (off+i*s+j) x aj hx;have:=ih i e j x d dH xh hx hr;simp only[azL];rw[show off+(i*s+j)=off+i*s+j by omega,hv];exact this
def Cq(M:Fz)(w:World):Prop:=∀b c,M b=aa c->∃e f,w.heap[b]?=aa (.cells c e f)
def Cq.lt{M:Fz}(h:Cq M w){b:Nat}{c:Array Value}(hb:M b=aa c):b<w.heap.size:=by
 have⟨e,f,hh⟩:=h b c hb
 grind
def Oz(new:Bool)(M:Fz)(w:World)(z:IV)(u:Value)(w':World):Prop:=
 ∃M',Cq M' w'/\(∀b c,M' b=aa c->(new=af/\M b=aa c)\/w.heap.size<=b)/\(new=af->∀b c,M b=aa c->M' b=aa c)/\Rv (jf M') z u/\
  w'.os=w.os/\w'.tape=w.tape/\w'.output=w.output/\w.heap.size<=w'.heap.size/\∀b,b<w.heap.size->w'.heap[b]?=w.heap[b]?
def auy(cg new:Bool)(M:Fz)(w:World)(z:IV):Ending->World->Prop
 |.returned u,w'=>cg=af/\Oz new M w z u w'
 |.panicked ch,w'=>cg=ab/\∃u,ch=[{v:=u,recovered:=af}]/\Oz new M w z u w'
 |.outgrown,_=>False
def eK(P:Program)(cg new:Bool)(f:FuncId)(xs:List IV)(z:IV):Prop:=
 ∀M w us,Cq M w->aN (jf M) xs us->CallsIn azk 0 P f us.toArray w (auy cg new M w z)
def OA{M:Fz}(hM:Cq M w):Inv N (jf M) ⟨0,.lf⟩ w:=
 ⟨hM,λ_ _ _ _ h=>(by have⟨_,_,h,_⟩:=h;cases h),λ_ _ h=>(by have⟨_,_,h,_⟩:=h;cases h),λ_ _ _ _=>rfl,λ_ _ _ h=>(by have⟨_,_,h,_⟩:=h;cases h),λ_ _ h=>(by cases h),λ_ _=>rfl⟩
def uK(new:Bool)(M:Fz)(w w':World):Fz:=λb=>
 if b<w.heap.size then(if new then ah else M b)else match w'.heap[b]? with
  |some (.cells c _ _)=>aa c
  |_=>ah
def XM{M:Fz}{new:Bool}{au:St}{v z:IV}{w':World}{u:Value}(hM:Cq M w)(hc:Can (!new) au v z)(hu:Rv ι v u)(hi:Inv N ι au w')(hl:Le 0 (jf M) w ⟨0,.lf⟩ ι w' au):Oz new M w z u w':=by
 have Bb:=λb hb=>hl.frame b hb λid ho=>(by have⟨_,_,h,_⟩:=ho;cases h);refine⟨uK new M w w',?_,?_,?_,?_,hl.os,hl.tape,hl.output,hl.size,Bb⟩
 .intro b c hb;unfold uK at hb;split at hb
  .rename_i ak;split at hb
   .cases hb
   .rw[Bb b ak];exact hM b c hb
  .split at hb
   .rename_i c' e f hh;cases hb;exact⟨e,f,hh⟩
   .cases hb
 .intro b c hb;unfold uK at hb;split at hb
  .split at hb
   .cases hb
   .rename_i hn;exact .inl ⟨by simpa using hn,hb⟩
  .exact .inr aj
 .intro hn b c hb;have ak:=hM.lt hb;unfold uK;rw[if_pos ak,if_neg (by simp[hn])];exact hb
 .refine hc.rv hi ?_ ?_ hu
  .intro b c el hh ho;have⟨id,ho⟩:=ho;rcases hl.own id b ho with ho|Ct
   .have⟨_,_,h,_⟩:=ho;cases h
   .unfold uK;rw[if_neg aj,hh]
  .intro hn b c hb;have oW:new=af:=by simpa using hn
   rcases hl.zz b c hb with u7|Ct
   .have ak:=hM.lt u7;unfold uK;rw[if_pos ak,if_neg (by simp[oW])];exact u7
   .have⟨e,f,hh⟩:=hi.mem b c hb;unfold uK;rw[if_neg aj,hh]
def eK.of{new:Bool}{f:FuncId}{xs:List IV}{v z:IV}{au:St}(h:lN P 0 f xs ⟨0,.lf⟩ v au)(hc:Can (!new) au v z):eK P af new f xs z:=by
 intro M w us hM hr;refine(h.2 au.n (ayL _) (jf M) us w (OA hM) hr).mono λe w' hR=>?_;cases e with
 |returned u=>
  have⟨aM,h1,h2,h3⟩:=hR;exact⟨rfl,XM hM hc h1 h2 h3⟩
 |panicked ch=>cases hR
 |outgrown=>assumption
def OB{M:Fz}{new:Bool}{z:IV}{u:Value}{w':World}(hi:Inv N ι σ w)(hM:new=af->∀b c,ι.m b=aa c↔M b=aa c)(h:Oz new M w z u w'):∃aM,Rv aM z u/\Inv N aM σ w'/\Le ro ι w σ aM w' σ:=by
 have⟨M',h1,h2,h3,h4,h5,h6,h7,h8,h9⟩:=h;have hm:Cq ι.m w:=hi.mem
 have hold:∀b c,ι.m b=aa c->(λb=>if b<w.heap.size then ι.m b else M' b) b=aa c:=by
  intro b c hb;simp only[if_pos (hm.lt hb)];omega
 have auz:∀b c,M' b=aa c->(λb=>if b<w.heap.size then ι.m b else M' b) b=aa c:=by
  grind
 have iX:Ext ι ⟨ι.f,λb=>if b<w.heap.size then ι.m b else M' b⟩:=⟨λ_ _ _ h=>h,hold⟩;refine⟨⟨ι.f,λb=>if b<w.heap.size then ι.m b else M' b⟩,h4.mono ⟨λ_ _ _ h=>(by cases h),auz⟩,⟨?_,?_,?_,hi.fresh,hi.inj,?_,hi.wf⟩,⟨iX,λ_ _ h=>.inl h,λ_ _ _ _=>rfl,λ_ h _=>h,λ_ _ _=>rfl,ayL _,h5,h6,h7,h8,λb hb _=>h9 b hb,?_⟩⟩
 .intro b c hb;simp only at hb;split at hb
  .have⟨e,f,hh⟩:=hi.mem b c hb
   grind
  .exact h1 b c hb
 .intro b c id hb ho;simp only at hb;split at hb
  .exact hi.sep b c id hb ho
  .rename_i Ct;exact Ct (hi.gU id b ho)
 .intro id b ho;exact aAl (hi.gU id b ho) h8
 .intro id o ho;exact(hi.obj id o ho).vz iX (λ_=>rfl) λb hb=>h9 b (hi.gU id b hb)
 grind
def OC(fr:Bool)(σ:St)(cs ds:List IV):Prop:=cs.length=ds.length/\∀(i:Nat) c d,cs[i]?=aa c->ds[i]?=aa d->Can fr σ c d
def allM(w:World):Fz:=λb=>match w.heap[b]? with
 |some (.cells c _ _)=>aa c
 |_=>ah
def XN{b:Nat}{c:Array Value}{e:TypeId}{f:Nat×Nat}(h:w.heap[b]?=aa (.cells c e f)):allM w b=aa c:=by unfold allM;rw[h]
def OD:Cq (allM w) w:=by
 intro b c hb
 grind [allM]
theorem OC.rv{xs zs:List IV}{us:List Value}(hc:OC ab σ xs zs)(hi:Inv N ι σ w)(h:aN ι xs us):aN (jf (allM w)) zs us:=by
 refine⟨hc.1▸h.1,λi z u h1 h2=>?_⟩;have ct:i<xs.length:=by have:=(ayH.1 h1).1;have:=hc.1;omega
 refine(hc.2 i _ z (ayG ct) h1).rv hi (λb c el hh _=>XN hh) (λ_ b c hb=>?_) (h.2 i _ u (ayG ct) h2);have⟨e,f,hh⟩:=hi.mem b c hb;exact XN hh
def eK.Sk{f:FuncId}{args xs:List IV}{z:IV}(h:eK P af ab f xs z)(hc:OC ab σ args xs):lN P ro f args σ z σ:=by
 refine⟨ayL _,λN hN ι us w hi hr=>?_⟩;refine(h (allM w) w us OD (hc.rv hi hr)).mono λe w' hR=>?_;cases e with
 |returned u=>exact OB hi (λhn=>by grind) hR.2
 |panicked ch=>exact absurd hR.1 aw
 |outgrown=>assumption
def eh(args:List IV)(n:Nat):Env:=args.zipIdx.foldl (λe (v,i)=>e.put (aa i) v) ⟨n,.lf⟩
section body
variable{S:Self}{f:FuncId}{fn:Func}{c:Code}{args:List IV}{e1:Env}{df:List Df}{av au:St}{ex:Ex}{v:IV}
def XO:eX P Self.none/\bI Self.none:=
 ⟨⟨λ_ _ _ _ _ _ _ h=>(by cases h),λ_ _ _ _ _ _ _ h=>(by cases h),λ_ _ _ _ _ _ _ _ h=>(by cases h),λ_ _ _ _ _ _ _ h=>(by cases h)⟩,⟨λ_ _ _ _ _ _ h=>(by cases h),λ_ _ _ _ _ _ h=>(by cases h),λ_ _ _ _ _ _ _ h=>(by cases h)⟩⟩
end body
end
end Go.Ev
namespace Go.Ev
namespace T
variable{α:Type}
inductive WF:T α->Prop
 |lf:WF .lf
 |nd (l:T α) (v:Option α) (r:T α) (hl:WF l) (hr:WF r) (h:v.isSome=ab\/(∃i,(l.get i).isSome=ab)\/∃i,(r.get i).isSome=ab):WF (.nd l v r)
theorem TN(l:T α)(v:Option α)(r:T α)(i:Nat):(T.nd l v r).get (2*i+1)=l.get i:=by
 grind [Eo]
theorem QR(l:T α)(v:Option α)(r:T α)(i:Nat):(T.nd l v r).get (2*i+2)=r.get i:=by
 simp_all[Eo]
theorem TO(l:T α)(v:Option α)(r:T α):(T.nd l v r).get 0=v:=by rfl
def WF.key{l:T α}{v:Option α}{r:T α}(h:WF (.nd l v r)):∃i,((T.nd l v r).get i).isSome=ab:=by
 cases h with
 |nd _ _ _ _ _ h=>
  rcases h with h|⟨i,h⟩|⟨i,h⟩
  .grind [TO]
  .exact⟨2*i+1,by simp_all[TN]⟩
  .exact⟨2*i+2,by simp_all[QR]⟩
theorem WF.ext:∀{t t':T α},WF t->WF t'->(∀i,t.get i=t'.get i)->t=t'
 |.lf,.lf,_,_,_=>rfl
 |.lf,.nd l v r,_,h',he=>by
  have⟨i,hi⟩:=h'.key;rw[<-he i]at hi;cases hi
 |.nd l v r,.lf,h,_,he=>by
  have⟨i,hi⟩:=h.key
  simp_all
 |.nd l v r,.nd l' v' r',.nd _ _ _ hl hr _,.nd _ _ _ cJ qL _,he=>by
  have e0:v=v':=by grind [TO]
  have e1:=hl.ext cJ λi=>by have:=he (2*i+1);grind [TN]
  have e2:=hr.ext qL λi=>by have:=he (2*i+2);grind [QR]
  grind
def ajy:∀(f:Nat) (t:T α) (i:Nat) (x:α),i<f->WF t->WF (uE f t i x):=by
 intro f;induction f with
 |zero=>simp
 |succ f ih=>
  intro t i x h hw
  have key:∀(l:T α) (v:Option α) (r:T α),WF l->WF r->WF (uE (f+1) (.nd l v r) i x):=by
   intro l v r hl hr;rw[Xs];by_cases hi:i=0
   .rw[if_pos hi];exact .nd _ _ _ hl hr (.inl rfl)
   .rw[if_neg hi];by_cases ho:i % 2=1
    .rw[if_pos ho];exact .nd _ _ _ (ih _ _ _ aj hl) hr (.inr (.inl ⟨i/2,by rw[K7 _ _ _ _ _ aj,if_pos rfl];rfl⟩))
    .rw[if_neg ho];exact .nd _ _ _ hl (ih _ _ _ aj hr) (.inr (.inr ⟨i/2- 1,by rw[K7 _ _ _ _ _ aj,if_pos rfl];rfl⟩))
  cases t with
  |lf=>simp_all[Xt]
  |nd l v r=>cases hw with|nd _ _ _ hl hr _=>grind
theorem WF.set{t:T α}(h:WF t)(i:Nat)(x:α):WF (t.set i x):=ajy _ _ _ _ aj h
end T
variable{P:Program}{ro:Nat}{σ:St}{ρ:Operand->IV}{o:Oper}{out:gT}
def KA(σ:St):gT->Prop
 |.val _ au=>σ.t.WF->au.t.WF
 |_=>True
def EG{v:IV}{au:St}(hle:σ.t.WF->au.t.WF)(h:ret v au=aa out):KA σ out:=by rw[aZ h];exact hle
def XP{v:IV}(h:ret v σ=aa out):KA σ out:=EG (λh=>h) h
def acb{v:IV}{id:Nat}{ob:Ob}(h:ret v (σ.put id ob)=aa out):KA σ out:=EG (au:=σ.put id ob) (λh=>h.set _ _) h
def ajz{v:IV}{id bz:Nat}{ob fB:Ob}(h:ret v ((σ.put id ob).put bz fB)=aa out):KA σ out:=EG (au:=(σ.put id ob).put bz fB) (λh=>(h.set _ _).set _ _) h
def acd{v:IV}{ob:Ob}(h:ret v (σ.add ob)=aa out):KA σ out:=EG (λh=>h.set _ _) h
def QS{kt:TypeId}{m k v:IV}{au:St}(h:qa P ro kt m k v σ=aa au):σ.t.WF->au.t.WF:=by
 unfold qa at h
 repeat' split at h
 all_goals first|grind|(cases h;exactλh=>h.set _ _)
def ace{f:IV}{args:List IV}(h:iH P f args=aa out):KA σ out:=by
 unfold iH at h
 repeat' split at h
 all_goals first|grind|(cases h;exact trivial)
def acf{argTypes:Array TypeId}{s x:IV}(h:mw P ro argTypes s x σ=aa out):KA σ out:=by
 have hn:∀{size br n:Nat} {new:List IV} {s:IV},gl size br n new s σ=aa out->KA σ out:=by
  intro size br n new s h;unfold gl at h;split at h
  .split at h
   .exact acd h
   grind
  grind
 unfold mw at h;split at h
 .split at h
  .split at h
   .split at h<;>try cases h
    split at h
    .split at h
     .unfold fv at h
      repeat' split at h
      all_goals first|exact XP h|exact acb h|exact ajz h|grind|cases h
     grind
    grind
   grind
  grind
 grind
def ZR{b:Builtin}{argTypes:Array TypeId}{args:List IV}(h:fw P ro b argTypes args σ=aa out):KA σ out:=by
 unfold fw at h;split at h
 .split at h
  .exact acf h
  grind
 .split at h
  .rw[ayR]at h;obtain⟨z,_,rfl⟩:=h;exactλh=>h
  grind
 .split at h
  .rw[ayR]at h;obtain⟨z,_,rfl⟩:=h;exactλh=>h
  grind
 .rw[ayR]at h;obtain⟨z,_,rfl⟩:=h;exactλh=>h
 grind
def alB(h:aA P ro ρ o σ=aa out):KA σ out:=by
 unfold aA at h;cases ho:o.op<;>rw[ho]at h<;>(try dsimp only at h)
 case call c=>
  split at h
  .exact ZR h
  .exact ace h
  grind
 case defer c=>
  split at h
  .split at h
   .cases h;exact trivial
   grind
  grind
 case mapUpdate=>
  split at h
  .split at h
   .rename_i au hs;exact EG (QS hs) h
   grind
  grind
 case insert=>
  split at h
  .split at h
   .rename_i au hs;exact EG (QS hs) h
   grind
  grind
 all_goals (repeat' split at h)
 all_goals first|exact XP h|exact acb h|exact acd h|grind|(cases h;exact trivial)
def ZS{v:IV}{au:St}(h:aA P ro ρ o σ=aa (.val v au))(hw:σ.t.WF):au.t.WF:=alB h hw
def Cu{v:IV}{av:St}(hk:cR o=.pure)(h:aA P ro ρ o σ=aa (.val v av)):av=σ/\∀gq au,aA P gq ρ o au=aa (.val v au):=by
 unfold cR at hk;unfold aA at h⊢;cases ho:o.op<;>rw[ho]at h hk<;>(try dsimp only at h hk⊢)<;>(try grind)
 case call c=>
  have⟨callee,argTypes,args⟩:=c;cases callee with
  |builtin b=>
   cases b<;>simp only at hk<;>(try grind)
   all_goals
    simp only[fw]at h⊢
    first
    |grind
    |(rw[ayR]at h
      grind)
    |(split at h
      .rw[ayR]at h
       grind
      grind)
  |value f=>grind
  |invoke r m=>grind
 all_goals (repeat' split at h)
 all_goals simp_all[ret]
def Cv{v:IV}{av:St}(hk:cR o=.load)(h:aA P ro ρ o σ=aa (.val v av)):av=σ/\∀gq,aA P gq ρ o σ=aa (.val v σ):=by
 unfold cR at hk;unfold aA at h⊢;cases ho:o.op<;>rw[ho]at h hk<;>(try dsimp only at h hk⊢)<;>(try grind)
 case call c=>
  have⟨callee,argTypes,args⟩:=c;cases callee with
  |builtin b=>
   cases b<;>simp only at hk<;>(try grind);simp only[fw]at h⊢;split at h
   .rw[ayR]at h
    grind
   grind
  |value f=>grind
  |invoke r m=>grind
 all_goals (repeat' split at h)
 all_goals simp_all[ret]
theorem alC(σ:St)(ob:Ob):(St.add ⟨σ.n,.lf⟩ ob)=⟨(σ.add ob).n,T.lf.set σ.n ob⟩:=rfl
def MM{v:IV}{av:St}(hk:cR o=.alloc)(h:aA P ro ρ o σ=aa (.val v av)):
 ∃t,(∀gq,aA P gq ρ o ⟨σ.n,.lf⟩=aa (.val v ⟨av.n,t⟩))/\((av=σ/\t=.lf)\/∃ob,av=σ.add ob/\t=T.lf.set σ.n ob):=by
 unfold cR at hk;unfold aA at h⊢;cases ho:o.op<;>rw[ho]at h hk<;>(try dsimp only at h hk⊢)<;>(try (cases hk;done))
 case call c=>
  grind
 all_goals (repeat' split at h)
 all_goals grind [ret,alC]
def Bc{b:Builtin}{argTypes:Array TypeId}{args:List IV}{f:FuncId}{as:List IV}(h:fw P ro b argTypes args σ=aa (.enter f as)):False:=by
 unfold fw at h;split at h
 .split at h
  .have⟨_,_,he⟩:=Kq h;grind
  grind
 all_goals grind [ayR]
def FD{f:FuncId}{args:List IV}(h:aA P ro ρ o σ=aa (.enter f args)):∀gq au,aA P gq ρ o au=aa (.enter f args):=by
 intro gq au;unfold aA at h⊢;cases ho:o.op<;>rw[ho]at h<;>(try dsimp only at h⊢)
 case call c=>
  split at h
  .exact(Bc h).elim
  all_goals omega
 case defer c=>
  omega
 all_goals (repeat' split at h)
 all_goals cases h
open Classical in
@[reducible] noncomputable def alD:Sm:=⟨λu v=>decide (u=v),λ_ _ h=>of_decide_eq_true h⟩
attribute [local instance] alD
open Classical in
noncomputable def tC(R:Option Nat)(f:FuncId)(args:List IV)(σ:St)(v:IV)(av:St):Self where
 code:=λ_ _ _ _ _ _ _=>ah
 call:=λgq f' a' au=>if(R=ah\/R=aa gq)/\f'=f/\a'=args/\au=σ then aa (v,av)else ah
 cg:=λ_ _ _ _=>ah
 zP:=λ_ _ _ _ _=>ah
def O(P:Program)(U:Self):Prop:=iJ P U 0/\eX P U/\bY U/\bI U
def qx:O P Self.none:=
 ⟨λ_ _ _ _ _ _ _ _ _ h=>(by cases h),(XO (P:=P)).1,λ_ _ _ _ _ _ _ _ h=>(by cases h),(XO (P:=P)).2⟩
def QT{R:Option Nat}{f:FuncId}{args:List IV}{σ:St}{v:IV}{av:St}(h:∀ro,(R=ah\/R=aa ro)->lN P ro f args σ v av){gq:Nat}{f':FuncId}{a':List IV}{au:St}{v':IV}{cO:St}
 (hc:(tC R f args σ v av).call gq f' a' au=aa (v',cO)):lN P gq f' a' au v' cO:=by
 simp_all[tC]
def vP{R:Option Nat}{f:FuncId}{args:List IV}{σ:St}{v:IV}{av:St}(h:∀ro,(R=ah\/R=aa ro)->lN P ro f args σ v av):O P (tC R f args σ v av):=
 ⟨λ_ _ _ _ _ _ _ _ _ h=>(by cases h),⟨λN _ _ _ _ _ _ hc hN=>(QT h hc).2 N hN,λ_ _ _ _ _ _ _ h=>(by cases h),λ_ _ _ _ _ _ _ _ h=>(by cases h),λ_ _ _ _ _ _ _ h=>(by cases h)⟩,
  λ_ _ _ _ _ _ _ _ h=>(by cases h),⟨λ_ _ _ _ _ _ hc=>(QT h hc).1,λ_ _ _ _ _ _ h=>(by cases h),λ_ _ _ _ _ _ _ h=>(by cases h)⟩⟩
def EH(o:Oper):Bool:=
 match o.op with
 |.call {callee:=.value _,.. }=>ab
 |_=>af
def Cw(ops:Array Oper)(pl:ey):Bool:=
 ops.toList.zipIdx.all λ(o,j)=>
  (match pl.kinds.getD j .effect with
   |.call=>EH o&&cR o==.call
   |.effect=>ab
   |k=>cR o==k)&&
  (pl.kinds.getD j .effect==.pure||ops.toList.zipIdx.all λ(_,i)=> !azy i j||ay7 (pl.cq.getD j 0) i||
   (match pl.kinds.getD i .effect with
    |.alloc|.effect=>af
    |.load=> !(pl.kinds.getD j .effect==.effect)
    |_=>ab))
inductive gr(P:Program)(ro:Nat)(ops:Array Oper)(pl:ey)(fr:Bool):List (Oper×Nat)->Env->St->Env->St->Prop
 |nil (e:Env) (σ:St):gr P ro ops pl fr [] e σ e σ
 |skip {o:Oper} {j:Nat} {l:List (Oper×Nat)} {e:Env} {σ:St} {e':Env} {au:St} (hw:aY o ops e=af) (h:gr P ro ops pl fr l (e.put o.dst .undef) σ e' au):gr P ro ops pl fr ((o,j)::l) e σ e' au
 |val {o:Oper} {j:Nat} {l:List (Oper×Nat)} {e:Env} {σ:St} {e':Env} {au:St} {v:IV} {av:St} (hw:aY o ops e=ab) (hv:aA P ro (aD e) o σ=aa (.val v av)) (h:gr P ro ops pl fr l (e.put o.dst v) av e' au):gr P ro ops pl fr ((o,j)::l) e σ e' au
 |Sl {o:Oper} {j:Nat} {l:List (Oper×Nat)} {e:Env} {σ:St} {e':Env} {au:St} {f:FuncId} {args:List IV} {v:IV} (hw:aY o ops e=ab) (hv:aA P ro (aD e) o σ=aa (.enter f args)) (hc:∀ro,lN P ro f args σ v σ)
   (h:gr P ro ops pl fr l (e.put o.dst v) σ e' au):gr P ro ops pl fr ((o,j)::l) e σ e' au
 |call {o:Oper} {j:Nat} {l:List (Oper×Nat)} {e:Env} {σ:St} {e':Env} {au:St} {f:FuncId} {args:List IV} {v:IV} {av:St} (hk:bt pl j=.effect) (hw:aY o ops e=ab) (hv:aA P ro (aD e) o σ=aa (.enter f args))
   (hc:lN P ro f args σ v av) (lD:σ.t.WF->av.t.WF) (h:gr P ro ops pl fr l (e.put o.dst v) av e' au):gr P ro ops pl fr ((o,j)::l) e σ e' au
 |ZT {o:Oper} {j:Nat} {l:List (Oper×Nat)} {e:Env} {σ:St} {e':Env} {au:St} {f:FuncId} {args:List IV} {v:IV} {ob:Ob} (hq:fr=ab) (hw:aY o ops e=ab) (hv:aA P ro (aD e) o σ=aa (.enter f args))
   (hc:∀ro,lN P ro f args σ v (σ.add ob)) (h:gr P ro ops pl fr l (e.put o.dst v) (σ.add ob) e' au):gr P ro ops pl fr ((o,j)::l) e σ e' au
def FE{ops:Array Oper}{pl:ey}(h:Cw ops pl=ab){o:Oper}{j:Nat}(ho:(o,j)∈ops.toList.zipIdx):
 (bt pl j≠.call->bt pl j≠.effect->cR o=bt pl j)/\(bt pl j=.call->EH o=ab)/\
 (bt pl j≠.pure->∀p i,(p,i)∈ops.toList.zipIdx->i<j->(bt pl i=.alloc\/bt pl i=.effect\/(bt pl i=.load/\bt pl j=.effect))->ay7 (pl.cq.getD j 0) i=ab):=by
 have h1:=ayY.1 h (o,j) ho;simp only[ayI,azp]at h1;have⟨h1,h2⟩:=h1;refine⟨λhc he=>?_,λhc=>?_,λhp p i hi ak hk=>?_⟩
 .unfold bt at hc he⊢
  grind
 .unfold bt at hc
  grind
 .rcases h2 with h2|h2
  .simp_all[bt]
  .have h3:=ayY.1 h2 (p,i) hi;simp only[azp]at h3;rcases h3 with(h3|h3)|h3
   .rw[azY,<-Bool.not_eq_true,Nat.blt_eq]at h3;omega
   .omega
   .unfold bt at hk
    grind
def mC(b:T Ob)(p:Piece)(h:p.hi<=p.lo):dO b p=b:=by
 simp_all[dO]
def Ah{b:T Ob}(h:b.WF)(p:Piece):(dO b p).WF:=by
 unfold dO;generalize aAx p.lo (p.hi- p.lo)=l;induction l generalizing b with
 |nil=>exact h
 |cons id l ih=>
  simp only[azo];refine ih ?_;split
  .exact h.set _ _
  omega
theorem mD:∀(l:List Piece) {b:T Ob},b.WF->(l.foldl dO b).WF
 |[],_,h=>h
 |p::l,_,h=>mD l (Ah h p)
theorem vQ{f:Piece->Bool}:∀(l:List Piece) (b:T Ob),(∀p∈l,f p=ab\/p.hi<=p.lo)->(l.filter f).foldl dO b=l.foldl dO b
 |[],_,_=>rfl
 |p::l,b,h=>by
  have ht:=λq hq=>h q (azg _ hq);rw[aDi];by_cases hf:f p=ab
  .rw[if_pos hf];exact vQ l _ ht
  .rw[if_neg hf,azo,mC b p ((h p (aBj ..)).resolve_left hf)];exact vQ l b ht
theorem Cy{f:Piece->Bool}:∀(l:List Piece) (b:T Ob),(∀p∈l,f p=ab->p.hi<=p.lo)->(l.filter f).foldl dO b=b
 |[],_,_=>rfl
 |p::l,b,h=>by
  have ht:=λq hq=>h q (azg _ hq);rw[aDi];by_cases hf:f p=ab
  .rw[if_pos hf,azo,mC b p (h p (aBj ..) hf)];exact Cy l b ht
  .rw[if_neg hf];exact Cy l b ht
theorem Cz{n:Nat}{ob:Ob}:∀(l:List Piece) (b1 b2:T Ob),(∀p∈l,p.hi<=n)->(∀id,b1.get id=(b2.set n ob).get id)->∀id,(l.foldl dO b1).get id=((l.foldl dO b2).set n ob).get id
 |[],b1,b2,_,h,id=>h id
 |p::l,b1,b2,hp,h,id=>by
  refine Cz l _ _ (λq hq=>hp q (azg _ hq)) (λid=>?_) id;have hpn:=hp p (aBj ..);rw[mj,T.hZ,mj,h id,T.hZ]
  grind
structure Be(pl:ey)(j:Nat)(d:DS)(e:Env)(σ:St):Prop where
 e:d.e=e
 n:d.n=σ.n
 bs:∃i b rest,d.bs=(i,b)::rest/\(rest=[]\/(i<j/\bt pl i=.effect))/\d.aU.foldl dO b=σ.t/\b.WF
 aU:∀p∈d.aU,(p.hi<=p.lo\/(p.j<j/\bt pl p.j=.alloc))/\p.hi<=d.n
def OE{ops:Array Oper}{pl:ey}{d:DS}{e:Env}{σ:St}{j:Nat}{b:T Ob}(hs:Be pl j d e σ)(dQ:d.aU.foldl dO b=σ.t)
 (lM:∀i,i<j->(bt pl i=.alloc\/bt pl i=.effect)->ay7 (pl.cq.getD j 0) i=ab):seen d.aU (pl.cq.getD j 0) b=σ.t:=by
 unfold seen;rw[vQ _ _ λp hp=>?_,dQ];rcases(hs.aU p hp).1 with h|⟨h1,h2⟩
 all_goals grind
def Hh{v:IV}{av:St}(h:EH o=ab)(hv:aA P ro ρ o σ=aa (.val v av)):False:=by
 unfold EH at h;split at h
 .rename_i f a b fk;simp only[aA]at hv;unfold iH at hv
  grind
 grind
def sF{f:FuncId}{args:List IV}(h:aA P ro ρ o σ=aa (.enter f args)):cR o=.call\/cR o=.effect:=by
 unfold aA at h;unfold cR;cases ho:o.op<;>rw[ho]at h<;>(try dsimp only at h⊢)
 case call c=>
  have⟨callee,argTypes,args⟩:=c;cases callee with
  |builtin b=>exact(Bc h).elim
  |value f=>simp
  |invoke r m=>simp
 case defer c=>
  simp
 all_goals (repeat' split at h)
 all_goals cases h
def Lk{U:Self}{ops:Array Oper}{pl:ey}{o:Oper}{j:Nat}{d:DS}{e:Env}{σ av:St}{v:IV}(hs:Be pl j d e σ)(hk:bt pl j=.effect)(hw:aY o ops e=ab)
 (iR:∀p i,(p,i)∈ops.toList.zipIdx.take j->(p,i)∈ops.toList.zipIdx/\i<j)
 (lM:∀i,i<j->(bt pl i=.alloc\/bt pl i=.effect\/(bt pl i=.load/\bt pl j=.effect))->ay7 (pl.cq.getD j 0) i=ab)
 (hx:kW P U ro e o σ=aa (v,av))(lD:av.t.WF)(hn:σ.n<=av.n):∃d1,bW P U pl ro ops o j d=aa d1/\Be pl (j+1) d1 (e.put o.dst v) av:=by
 have⟨i,b,rest,cd,dw,dQ,lh⟩:=hs.bs;have oF:=OE (ops:=ops) hs dQ λi hi h=>lM i hi (h.imp id .inl);have bL:(⟨d.n,seen d.aU (pl.cq.getD j 0) b⟩:St)=σ:=by rw[oF,hs.n]
 refine⟨⟨e.put o.dst v,av.n,(j,av.t)::d.bs,d.aU.filter λp=> !ay7 (pl.cq.getD j 0) p.j⟩,?_,⟨rfl,rfl,⟨j,av.t,d.bs,rfl,.inr ⟨by omega,hk⟩,?_,lD⟩,λp hp=>?_⟩⟩
 .unfold bW;rw[cd];simp only;rw[hs.e,hw,if_pos rfl];have c8:pl.kinds.getD j .effect=.effect:=hk;rw[c8];rw[bL,hx];simp only;rw[if_pos];unfold recheck;rw[ayY];rintro⟨p,q⟩ Bg;have⟨h5,h6⟩:=iR p q Bg;simp only;split
  .rename_i vG;rw[lM q h6 (.inr (.inr ⟨vG,hk⟩))];rfl
  .rfl
 .refine Cy _ _ λp hp hf=>?_;rcases(hs.aU p hp).1 with h|⟨h1,h2⟩
  all_goals grind
 .have vA:=(azB.1 hp).1;have⟨h1,h2⟩:=hs.aU p vA
  grind
theorem Hi{SF rL:Nat->Self}{pl:ey}{ops:Array Oper}:∀{l:List (Oper×Nat)} {d:DS},(∀o i,(o,i)∈l->SF i=rL i)->j2 P SF pl ro ops l d=j2 P rL pl ro ops l d
 |[],_,_=>rfl
 |(o,j)::l,d,h=>by
  unfold j2;rw[h o j (aBj ..)];split
  .exact Hi λo' i hi=>h o' i (azg _ hi)
  .rfl
def nw{U:Self}{pl:ey}{ops:Array Oper}{o:Oper}{j:Nat}{l:List (Oper×Nat)}{d d1 d':DS}{SF:Nat->Self}(hU:O P U)(hS:∀i,O P (SF i))(h1:bW P U pl ro ops o j d=aa d1)
 (h3:j2 P SF pl ro ops l d1=aa d')(hl:∀o' i,(o',i)∈l->i≠j):∃rL,(∀i,O P (rL i))/\j2 P rL pl ro ops ((o,j)::l) d=aa d':=by
 refine⟨λi=>if i=j then U else SF i,λi=>?_,?_⟩
 .grind
 .unfold j2;simp only[if_true];rw[h1];rw[<-h3];exact Hi λo' i hi=>by grind
def QU{ops:Array Oper}{pl:ey}(bf:Cw ops pl=ab){l:List (Oper×Nat)}{e e':Env}{σ au:St}(h:gr P ro ops pl af l e σ e' au):
 ∀(k:Nat) (d:DS),ops.toList.zipIdx.drop k=l->Be pl k d e σ->∃SF:Nat->Self,(∀i,O P (SF i))/\∃d',j2 P SF pl ro ops l d=aa d'/\d'.e=e'/\d'.n=au.n/\∃i b rest,d'.bs=(i,b)::rest/\d'.aU.foldl dO b=au.t:=by
 have dR:∀{o:Oper} {j:Nat} {l:List (Oper×Nat)} {k:Nat},ops.toList.zipIdx.drop k=(o,j)::l->(o,j)∈ops.toList.zipIdx/\j=k/\ops.toList.zipIdx.drop (k+1)=l/\
  (∀p i,(p,i)∈ops.toList.zipIdx.take j->(p,i)∈ops.toList.zipIdx/\i<j)/\(∀i,i<j->∃p,(p,i)∈ops.toList.zipIdx)/\∀o' i,(o',i)∈l->i≠j:=by
  intro o j l k h;have h1:(ops.toList.zipIdx.drop k)[0]?=aa (o,j):=bc;rw[List.getElem?_drop,Nat.add_zero]at h1;have h2:=ayX h1;have ak:=(ayH.1 h1).1;rw[aCH]at h1
  have hj:j=k:=by
   grind
  have Cg:ops.toList.zipIdx.drop (k+1)=l:=by rw[<-aAR (i:=1) (j:=k),h];rfl
  refine⟨h2,hj,Cg,λp i hp=>⟨List.mem_of_mem_take hp,?_⟩,λi hi=>?_,λo' i hi=>?_⟩
  .obtain⟨m,hm,he⟩:=aBO hp
   grind
  .rw[List.length_zipIdx]at ak;refine⟨ops.toList[i],ayX (i:=i) ?_⟩;simp
  .rw[<-Cg]at hi;obtain⟨m,hm,he⟩:=aBO hi
   grind
 induction h with
 |nil e σ=>
  intro k d _ hs;obtain⟨i,b,rest,h1,_,h3,_⟩:=hs.bs;exact⟨λ_=>Self.none,λ_=>qx,d,rfl,hs.e,hs.n,i,b,rest,h1,h3⟩
 | @skip o j l e σ e' au hw h ih=>
   intro k d hl hs;obtain⟨hm,rfl,hd,iR,bX,ak⟩:=dR hl;obtain⟨iA,jy,lM⟩:=FE bf hm;obtain⟨i,b,rest,cd,dw,dQ,lh⟩:=hs.bs;have kJ:∀p∈d.aU,(p.hi<=p.lo\/(p.j<j+1/\bt pl p.j=.alloc))/\p.hi<=d.n:=λp hp=>⟨(hs.aU p hp).1.imp id (λh=>⟨by omega,h.2⟩),(hs.aU p hp).2⟩
   have key:∃U,O P U/\∃d1,bW P U pl ro ops o j d=aa d1/\Be pl (j+1) d1 (e.put o.dst .undef) σ:=by
    refine⟨Self.none,qx,?_⟩;by_cases hk:bt pl j=.effect
    .refine⟨⟨d.e.put o.dst .undef,d.n,(j,b)::d.bs,d.aU⟩,?_,⟨by rw[hs.e],hs.n,⟨j,b,d.bs,rfl,.inr ⟨by omega,hk⟩,dQ,lh⟩,kJ⟩⟩;unfold bW;rw[cd];simp only;rw[hs.e,hw,if_neg aw];have c8:pl.kinds.getD j .effect=.effect:=hk;rw[c8];simp only;rw[if_pos];unfold recheck;rw[ayY];rintro⟨p,q⟩ Bg;obtain⟨h5,h6⟩:=iR p q Bg;simp only;split
     .rename_i vG;rw[lM (by rw[hk];simp) p q h5 h6 (.inr (.inr ⟨vG,hk⟩))];rfl
     .rfl
    .refine⟨{d with e:=d.e.put o.dst .undef},?_,⟨by rw[hs.e],hs.n,⟨i,b,rest,cd,dw.imp id (λh=>⟨by omega,h.2⟩),dQ,lh⟩,kJ⟩⟩;unfold bW;rw[cd];simp only;rw[hs.e,hw,if_neg aw];have c8:pl.kinds.getD j .effect≠.effect:=hk;cases hq:pl.kinds.getD j .effect<;>first|contradiction|rfl
   obtain⟨U,hU,d1,h1,h2⟩:=key;obtain⟨SF,iK,d',h3,h4⟩:=ih (j+1) d1 hd h2;obtain⟨rL,h5,h6⟩:=nw hU iK h1 h3 ak;exact⟨rL,h5,d',h6,h4⟩
 | @val o j l e σ e' au v av hw hv h ih=>
   intro k d hl hs;obtain⟨hm,rfl,hd,iR,bX,ak⟩:=dR hl;obtain⟨iA,jy,lM⟩:=FE bf hm;obtain⟨i,b,rest,cd,dw,dQ,lh⟩:=hs.bs;have rM:σ.t.WF:=dQ▸mD _ lh;have kJ:∀p∈d.aU,(p.hi<=p.lo\/(p.j<j+1/\bt pl p.j=.alloc))/\p.hi<=d.n:=λp hp=>⟨(hs.aU p hp).1.imp id (λh=>⟨by omega,h.2⟩),(hs.aU p hp).2⟩
   have CA:bt pl j≠.pure->∀i,i<j->(bt pl i=.alloc\/bt pl i=.effect\/(bt pl i=.load/\bt pl j=.effect))->ay7 (pl.cq.getD j 0) i=ab:=by
    intro hp i hi hk;obtain⟨p,EI⟩:=bX i hi;exact lM hp p i EI hi hk
   have key:∃U,O P U/\∃d1,bW P U pl ro ops o j d=aa d1/\Be pl (j+1) d1 (e.put o.dst v) av:=by
    refine⟨Self.none,qx,?_⟩;cases hk:bt pl j with
    |pure=>
     have lE:cR o=.pure:=by rw[iA (by rw[hk];simp) (by rw[hk];simp),hk]
     obtain⟨rfl,lO⟩:=Cu lE hv;refine⟨{d with e:=d.e.put o.dst v},?_,⟨by rw[hs.e],hs.n,⟨i,b,rest,cd,dw.imp id (λh=>⟨by omega,h.2⟩),dQ,lh⟩,kJ⟩⟩;unfold bW;rw[cd];simp only;rw[hs.e,hw,if_pos rfl];have c8:pl.kinds.getD j .effect=.pure:=hk;rw[c8];rw[lO 0 ⟨0,.lf⟩];rfl
    |alloc=>
     have lE:cR o=.alloc:=by rw[iA (by rw[hk];simp) (by rw[hk];simp),hk]
     obtain⟨t,lO,vE⟩:=MM lE hv;refine⟨⟨d.e.put o.dst v,av.n,d.bs,⟨j,d.n,av.n,t⟩::d.aU⟩,?_,⟨by rw[hs.e],rfl,⟨i,b,rest,cd,dw.imp id (λh=>⟨by omega,h.2⟩),?_,lh⟩,λp hp=>?_⟩⟩
     .unfold bW;rw[cd];simp only;rw[hs.e,hw,if_pos rfl];have c8:pl.kinds.getD j .effect=.alloc:=hk;rw[c8];rw[hs.n,lO 0]
     .simp only[azo];rcases vE with⟨rfl,rfl⟩|⟨ob,rfl,rfl⟩
      .rw[mC _ _ (by simp[hs.n]),dQ]
      .refine T.WF.ext (mD _ (Ah lh _)) (rM.set _ _) λid=>?_
       have:=Cz (n:=σ.n) (ob:=ob) d.aU (dO b ⟨j,d.n,(σ.add ob).n,T.lf.set σ.n ob⟩) b (λp hp=>by rw[<-hs.n];exact(hs.aU p hp).2) (λid=>by
        rw[mj,T.hZ,T.hZ];simp only[hs.n,St.pD];by_cases hid:σ.n=id
        .subst hid;simp
        .rw[if_neg aj,if_neg hid]) id
       rw[this,dQ];rfl
     .rcases ayW.1 hp with rfl|hp
      .exact⟨.inr ⟨by simp,hk⟩,ayL _⟩
      .obtain⟨h1,h2⟩:=kJ p hp;exact⟨h1,by have:=mB hv;rw[hs.n]at h2;exact ay6 h2 this⟩
    |load=>
     have lE:cR o=.load:=by rw[iA (by rw[hk];simp) (by rw[hk];simp),hk]
     obtain⟨rfl,lO⟩:=Cv lE hv;have oF:=OE (ops:=ops) hs dQ λi hi h=>CA (by rw[hk];simp) i hi (h.imp id .inl);have bL:(⟨d.n,seen d.aU (pl.cq.getD j 0) b⟩:St)=av:=by rw[oF,hs.n]
     refine⟨{d with e:=d.e.put o.dst v},?_,⟨by rw[hs.e],hs.n,⟨i,b,rest,cd,dw.imp id (λh=>⟨by omega,h.2⟩),dQ,lh⟩,kJ⟩⟩;unfold bW;rw[cd];simp only;rw[hs.e,hw,if_pos rfl];have c8:pl.kinds.getD j .effect=.load:=hk;rw[c8];rw[bL,lO d.n];simp only;rw[if_pos];refine⟨hs.n.symm,?_⟩;rcases dw with rfl|⟨h1,h2⟩
     .simp[nS]
     .rw[CA (by rw[hk];simp) i h1 (.inr (.inl h2))];rfl
    |call=>exact(Hh (jy hk) hv).elim
    |effect=>
     refine Lk hs hk hw iR (λi hi h=>CA (by rw[hk];simp) i hi h) ?_ (ZS hv rM) (mB hv);unfold kW;rw[hv]
   obtain⟨U,hU,d1,h1,h2⟩:=key;have⟨SF,iK,d',h3,h4⟩:=ih (j+1) d1 hd h2;have⟨rL,h5,h6⟩:=nw hU iK h1 h3 ak;exact⟨rL,h5,d',h6,h4⟩
 | @Sl o j l e σ e' au f args v hw hv hc h ih=>
   intro k d hl hs;obtain⟨hm,rfl,hd,iR,bX,ak⟩:=dR hl;have⟨iA,jy,lM⟩:=FE bf hm;have⟨i,b,rest,cd,dw,dQ,lh⟩:=hs.bs;have rM:=dQ▸mD _ lh;have kJ:∀p∈d.aU,(p.hi<=p.lo\/(p.j<j+1/\bt pl p.j=.alloc))/\p.hi<=d.n:=λp hp=>⟨(hs.aU p hp).1.imp id (λh=>⟨by omega,h.2⟩),(hs.aU p hp).2⟩
   have CA:bt pl j≠.pure->∀i,i<j->(bt pl i=.alloc\/bt pl i=.effect\/(bt pl i=.load/\bt pl j=.effect))->ay7 (pl.cq.getD j 0) i=ab:=by
    intro hp i hi hk;have⟨p,EI⟩:=bX i hi;exact lM hp p i EI hi hk
   have y7:∀gq,kW P (tC ah f args σ v σ) gq e o σ=aa (v,σ):=by
    intro gq;unfold kW;rw[FD hv gq σ];simp[tC]
   have oF:=OE (ops:=ops) hs dQ
   have key:∃U,O P U/\∃d1,bW P U pl ro ops o j d=aa d1/\Be pl (j+1) d1 (e.put o.dst v) σ:=by
    refine⟨tC ah f args σ v σ,vP λgq _=>hc gq,?_⟩
    have yV:bt pl j=.call\/bt pl j=.effect:=by
     by_cases ow:bt pl j=.call
     .exact .inl ow
     .by_cases he:bt pl j=.effect
      .exact .inr he
      .have:=iA ow he;rcases sF hv with h|h
       .rw[h]at this;exact absurd this.symm ow
       .rw[h]at this;exact absurd this.symm he
    rcases yV with hk|hk
    .refine⟨⟨d.e.put o.dst v,d.n,d.bs,⟨j,d.n,d.n,seen d.aU (pl.cq.getD j 0) b⟩::d.aU⟩,?_,⟨by rw[hs.e],hs.n,⟨i,b,rest,cd,dw.imp id (λh=>⟨by omega,h.2⟩),?_,lh⟩,λp hp=>?_⟩⟩
     .unfold bW;rw[cd];simp only;rw[hs.e,hw,if_pos rfl];have c8:pl.kinds.getD j .effect=.call:=hk;rw[c8];have zV:=oF λi hi h=>CA (by rw[hk];simp) i hi (h.imp id .inl);have bL:(⟨d.n,seen d.aU (pl.cq.getD j 0) b⟩:St)=σ:=by rw[zV,hs.n]
      rw[bL,y7,zV];simp only[hs.n]
     .simp only[azo];rw[mC _ _ aw,dQ]
     .rcases ayW.1 hp with rfl|hp
      .simp
      .exact kJ p hp
    .exact Lk hs hk hw iR (λi hi h=>CA (by rw[hk];simp) i hi h) (y7 ro) rM (ayL _)
   have⟨U,hU,d1,h1,h2⟩:=key;have⟨SF,iK,d',h3,h4⟩:=ih (j+1) d1 hd h2;have⟨rL,h5,h6⟩:=nw hU iK h1 h3 ak;exact⟨rL,h5,d',h6,h4⟩
 | @call o j l e σ e' au f args v av hk hw hv hc lD h ih=>
   intro k d hl hs;obtain⟨hm,rfl,hd,iR,bX,ak⟩:=dR hl;have⟨iA,jy,lM⟩:=FE bf hm;have⟨i,b,rest,cd,dw,dQ,lh⟩:=hs.bs;have rM:=dQ▸mD _ lh
   have CA:bt pl j≠.pure->∀i,i<j->(bt pl i=.alloc\/bt pl i=.effect\/(bt pl i=.load/\bt pl j=.effect))->ay7 (pl.cq.getD j 0) i=ab:=by
    intro hp i hi hk;have⟨p,EI⟩:=bX i hi;exact lM hp p i EI hi hk
   obtain⟨d1,h1,h2⟩:=Lk (U:=tC (aa ro) f args σ v av) (v:=v) (av:=av) hs hk hw iR (λi hi h=>CA (by rw[hk];simp) i hi h) (by unfold kW;rw[hv];simp[tC]) (lD rM) hc.1;have⟨SF,iK,d',h3,h4⟩:=ih (j+1) d1 hd h2;obtain⟨rL,h5,h6⟩:=nw (vP (R:=aa ro) λgq hR=>by rcases hR with hR|hR<;>cases hR;omega) iK h1 h3 ak;exact⟨rL,h5,d',h6,h4⟩
 | @ZT o j l e σ e' au f args v ob hq hw hv hc h ih=>grind
variable{rd:Option Nat}{fn:FuncId}{df:List Df}{e e':Env}{au:St}{ops:Array Oper}
def gD.draw{id:Nat}(fR:P.follows .mixedOrders=ab)(gd:(bS ops).ok=ab)(bf:Cw ops (bS ops)=ab)(lD:σ.t.WF)
 (h:gr P ro ops (bS ops) af ops.toList.zipIdx e σ e' au):gD P ro rd fn (.region id ops ab) e df σ ⟨.normal,e',df,au⟩:=by
 obtain⟨SF,iK,d',h1,h2,h3,i,b,rest,h4,h5⟩:=QU bf h 0 ⟨e,σ.n,[(0,σ.t)],[]⟩ aw ⟨rfl,rfl,⟨0,σ.t,[],rfl,.inl rfl,rfl,lD⟩,λp hp=>by grind⟩
 have fD:kX P SF ro ops e df σ=aa ⟨.normal,e',df,au⟩:=by
  unfold kX;rw[if_pos gd,h1];have⟨de,dn,dbs,afa⟩:=d'
  simp_all
 refine .mk (Fy (λi=>(iK i).2.2.1) (λi=>(iK i).2.2.2) fD) aw λN hN F ι a w Q hF hi he hd hQ=>?_;exact Lj fR (λi=>(iK i).1) (λi=>(iK i).2.1) (λi=>(iK i).2.2.1) (λi=>(iK i).2.2.2) N ro rd ops e df σ _ fD hN F ι a w Q id hF hi he hd hQ
end Go.Ev
namespace Go.Ev
variable{P:Program}{σ au:St}
abbrev Rs:=Nat->Option Nat
inductive bx(fr:Bool)(R:Rs)(σ:St):IV->IV->Prop
 |raw (v:Value):bx fr R σ (.raw v) (.raw v)
 |nil (s:Nat) (hs:0<s):bx fr R σ (.raw (.slice ah 0 0)) (.tree s [])
 |emp (s:Nat) (hs:0<s):bx fr R σ .emp (.tree s [])
 |dP (t:TypeId) (x y:IV) (h:bx fr R σ x y):bx fr R σ (.dP t x) (.dP t y)
 |agg (cs ds:List IV) (hl:cs.length=ds.length) (h:∀(i:Nat) c d,cs[i]?=aa c->ds[i]?=aa d->bx fr R σ c d):bx fr R σ (.agg cs) (.agg ds)
 |aF (cs ds:List IV) (hl:cs.length=ds.length) (h:∀(i:Nat) c d,cs[i]?=aa c->ds[i]?=aa d->bx fr R σ c d):bx fr R σ (.aF cs) (.aF ds)
 |pure (x:IV) (hf:fr=ab) (hp:Pure x):bx fr R σ x x
 |sl (id off len:Nat) (cap:Option Nat) (ep s m:Nat) (cs:List IV) (aE mn:Nat) (es:List IV) (hR:R id=aa m) (aT:σ.at id=aa (.cells cs aE mn)) (h1:mn<=ep) (h2:ep<=aE) (hs:0<s) (hl:es.length=len)
   (hb:off+len*s<=m) (hm:m<=cs.length)
   (bH:∀e∈es,(cellsOf e).length=s) (h:∀(i:Nat) e (j:Nat) c d,es[i]?=aa e->(cellsOf e)[j]?=aa d->cs[off+i*s+j]?=aa c->bx fr R σ c d):bx fr R σ (.sl id off len cap ep s) (.tree s es)
def bx.can{fr:Bool}{R:Rs}{x z:IV}(h:bx fr R σ x z):Can fr σ x z:=by
 induction h with
 |raw v=>exact .raw v
 |nil s hs=>exact .nil s hs
 |emp s hs=>exact .emp s hs
 |dP t x y _ ih=>exact .dP t x y ih
 |agg cs ds hl _ ih=>exact .agg cs ds hl ih
 |aF cs ds hl _ ih=>exact .aF cs ds hl ih
 |pure x hf hp=>exact .pure x hf hp
 |sl id off len cap ep s m cs aE mn es hR aT h1 h2 hs hl hb hm bH _ ih=>exact .sl id off len cap ep s cs aE mn es aT h1 h2 hl aj bH ih
def bx.cQ{fr:Bool}{R:Rs}{x z:IV}(h:bx fr R σ x z):bx ab R σ x z:=by
 induction h with
 |raw v=>exact .raw v
 |nil s hs=>exact .nil s hs
 |emp s hs=>exact .emp s hs
 |dP t x y _ ih=>exact .dP t x y ih
 |agg cs ds hl _ ih=>exact .agg cs ds hl ih
 |aF cs ds hl _ ih=>exact .aF cs ds hl ih
 |pure x hf hp=>exact .pure x rfl hp
 |sl id off len cap ep s m cs aE mn es hR aT h1 h2 hs hl hb hm bH _ ih=>exact .sl id off len cap ep s m cs aE mn es hR aT h1 h2 hs hl hb hm bH ih
def bx.wide{fr dG:Bool}{R:Rs}{x z:IV}(h:bx fr R σ x z)(hle:fr=ab->dG=ab):bx dG R σ x z:=by
 cases dG
 .grind
 .exact h.cQ
structure jg(R:Rs)(σ:St)(R':Rs)(au:St):Prop where
 le:∀id m,R id=aa m->∃m',R' id=aa m'/\m<=m'
 vz:∀id m cs aE mn,R id=aa m->σ.at id=aa (.cells cs aE mn)->∃bK lP,au.at id=aa (.cells bK lP mn)/\aE<=lP/\∀j,j<m->bK[j]?=cs[j]?
 fits:∀id m cs aE mn,R' id=aa m->au.at id=aa (.cells cs aE mn)->m<=cs.length
def alE{es:List IV}{i s len:Nat}{e d:IV}{j:Nat}(he:es[i]?=aa e)(hd:(cellsOf e)[j]?=aa d)(bH:∀e∈es,(cellsOf e).length=s)(hl:es.length=len):i*s+j<len*s:=by
 have hi:=(ayH.1 he).1;have hj:j<s:=bc;have:=azd s hi
 grind
def bx.mono{fr:Bool}{R R':Rs}(hg:jg R σ R' au){x z:IV}(h:bx fr R σ x z):bx fr R' au x z:=by
 induction h with
 |raw v=>exact .raw v
 |nil s hs=>exact .nil s hs
 |emp s hs=>exact .emp s hs
 |dP t x y _ ih=>exact .dP t x y ih
 |agg cs ds hl _ ih=>exact .agg cs ds hl ih
 |aF cs ds hl _ ih=>exact .aF cs ds hl ih
 |pure x hf hp=>exact .pure x hf hp
 |sl id off len cap ep s m cs aE mn es hRi aT h1 h2 hs hl hb hm bH _ ih=>
  have⟨bK,lP,TP,hle,Ai⟩:=hg.vz id m cs aE mn hRi aT;have⟨m',hR',hmm⟩:=hg.le id m hRi;refine .sl id off len cap ep s m' bK lP mn es hR' TP h1 (ay6 h2 hle) hs hl (ay6 hb hmm) (hg.fits id m' bK lP mn hR' TP) bH λi e j c d he hd hc=>?_;have:=alE he hd bH hl
  grind
def jg.refl{R:Rs}(hf:∀id m cs aE mn,R id=aa m->σ.at id=aa (.cells cs aE mn)->m<=cs.length):jg R σ R σ:=
 ⟨λ_ m h=>⟨m,h,ayL _⟩,λ_ _ cs aE _ _ h=>⟨cs,aE,h,ayL _,λ_ _=>rfl⟩,hf⟩
def All2{α β:Type}(r:α->β->Prop):List α->List β->Prop
 |[],[]=>True
 |a::as,b::bs=>r a b/\All2 r as bs
 |_,_=>False
namespace All2
variable{α β:Type}{r r':α->β->Prop}
theorem len:∀{as:List α} {bs:List β},All2 r as bs->as.length=bs.length
 |[],[],_=>rfl
 |_::_,_::_,h=>by simp[len h.2]
 |[],_::_,h=>h.elim
 |_::_,[],h=>h.elim
theorem get:∀{as:List α} {bs:List β},All2 r as bs->∀{i:Nat} {a:α} {b:β},as[i]?=aa a->bs[i]?=aa b->r a b
 |[],[],_,i,a,b,h1,_=>by grind
 |_::as,_::bs,h,i,a,b,h1,h2=>by
  cases i with
  |zero=>simp at h1 h2;subst h1 h2;exact h.1
  |succ i=>simp at h1 h2;exact get h.2 h1 h2
 |[],_::_,h,_,_,_,_,_=>h.elim
 |_::_,[],h,_,_,_,_,_=>h.elim
def DU{as:List α}{bs:List β}(h:All2 r as bs){i:Nat}{b:β}(hb:bs[i]?=aa b):∃a,as[i]?=aa a/\r a b:=by
 have hi:i<as.length:=by grind [h.len]
 exact⟨_,ayG hi,h.get (ayG hi) hb⟩
theorem mk:∀{as:List α} {bs:List β},as.length=bs.length->(∀(i:Nat) a b,as[i]?=aa a->bs[i]?=aa b->r a b)->All2 r as bs
 |[],[],_,_=>trivial
 |a::as,b::bs,hl,h=>⟨h 0 a b rfl rfl,mk bc λi a b h1 h2=>h (i+1) a b bc bc⟩
 |[],_::_,hl,_=>by grind
 |_::_,[],hl,_=>by grind
theorem mono(hr:∀a b,r a b->r' a b):∀{as:List α} {bs:List β},All2 r as bs->All2 r' as bs
 |[],[],_=>trivial
 |_::_,_::_,h=>⟨hr _ _ h.1,mono hr h.2⟩
 |[],_::_,h=>h.elim
 |_::_,[],h=>h.elim
theorem AJ:∀{as:List α} {bs:List β},(∀a b,b∈bs->r a b->r' a b)->All2 r as bs->All2 r' as bs
 |[],[],_,_=>trivial
 |_::_,_::_,hr,h=>⟨hr _ _ aw h.1,AJ (λa b hb=>hr a b bc) h.2⟩
 |[],_::_,_,h=>h.elim
 |_::_,[],_,h=>h.elim
def app{as as':List α}{bs bs':List β}(h:All2 r as bs)(k:All2 r as' bs'):All2 r (as++as') (bs++bs'):=by
 refine mk (by simp[h.len,k.len]) λi a b h1 h2=>?_;by_cases hi:i<as.length
 .rw[ayZ hi]at h1;rw[ayZ (h.len▸hi)]at h2;exact h.get h1 h2
 .rw[aze aj]at h1;rw[aze (by have:=h.len;omega),<-h.len]at h2;exact k.get h1 h2
theorem take(n:Nat){as:List α}{bs:List β}(h:All2 r as bs):All2 r (as.take n) (bs.take n):=by
 refine mk (by simp[h.len]) λi a b h1 h2=>?_;rw[azn]at h1 h2;split at h1
 .rename_i hi;rw[if_pos hi]at h2;exact h.get h1 h2
 grind
theorem drop(n:Nat){as:List α}{bs:List β}(h:All2 r as bs):All2 r (as.drop n) (bs.drop n):=
 mk (by simp[h.len]) λi a b h1 h2=>h.get (i:=n+i) bc bc
theorem map{γ:Type}{f:β->γ}{q:α->γ->Prop}(hf:∀a b,r a b->q a (f b)):∀{as:List α} {bs:List β},All2 r as bs->All2 q as (bs.map f)
 |[],[],_=>trivial
 |_::_,_::_,h=>⟨hf _ _ h.1,map hf h.2⟩
 |[],_::_,h=>h.elim
 |_::_,[],h=>h.elim
end All2
inductive Cl(α:Type) where
 |un
 |v (z:α)
 |w (fr:Bool) (z:α)
 |pt (k off ext:Nat)
 |tp (cs:List α)
 |tw (fr:Bool) (cs:List α)
 |sr (k:Nat)
 |sv (k:Nat) (lo:α)
 |pr (k:Nat) (i:α) (off ext:Nat)
 |mp (k:Nat)
 |nl (b:Bool) (s:Nat)
 |fn (f:FuncId) (bs:List (Nat×Nat))
 |yl (k:Nat)
 deriving Inhabited
inductive PV(α:Type) where
 |one (x:Cl α)
 |ag (cs:List (Cl α))
 |tu (vs:List (Bool×List (Cl α)))
 deriving Inhabited
inductive LO(α:Type) where
 |var (cs:List (Cl α))
 |row (s:Nat) (st cut fr:Bool) (es:α)
 |mp (kt:TypeId) (es:α)
 |lp (c st:Nat) (snap:List (Nat×PV α))
 |dead
structure ahz where
 ps:List Tmp
 gL:Code
 bd:Code
 n:Nat
abbrev Cs:=List ahz
def Cl.rN{α:Type}:Cl α->Bool
 |.sr _|.sv _ _|.pr _ _ _ _=>af
 |_=>ab
def PV.rN{α:Type}:PV α->Bool
 |.one c=>c.rN
 |.ag cs=>cs.all Cl.rN
 |.tu vs=>vs.all λp=>p.2.all Cl.rN
def ZU(st:Nat)(s:LoopState)(p:Option Code):Prop:=
 match st with
 |0=>s=.ready/\p=ah
 |1=>s=.busy/\p=ah
 |2=>s≠.busy/\p=aa .ret
 |3=>s≠.busy/\p=ah
 |i+4=>s≠.busy/\p=aa (.exit i)
abbrev Ph:=Nat->Option Nat
def OF(φ:Ph)(σ:St)(k s:Nat)(cut:Bool)(lo len:Nat)(x:IV):Prop:=
 (φ k=ah/\len=0/\(x=.raw (.slice ah 0 0)\/x=.emp))\/
 ∃id cs aE mn cap,φ k=aa id/\σ.at id=aa (.cells cs aE mn)/\x=.sl id (lo*s) (len- lo) cap aE s/\lo<=len/\(cap=ah->cut=af->len*s=cs.length)/\
  ∀c,cap=aa c->mn=aE/\lo*s+c*s<=cs.length/\len- lo<=c
abbrev j_:IV->IV->Prop:=bx ab (λ_=>ah) ⟨0,.lf⟩
def nat?:IV->Option Nat
 |.raw (.int _ n)=>if 0<=n then aa n.toNat else ah
 |_=>ah
def oX(kt:Nat):Bool:=ayQ kt 0||Nat.ble 1000000 kt
def Left(ds:List IV)(seen:List Nat)(rem:List IV):Prop:=
 ∃ps:List (IV×Nat),rem=ps.map (·.1)/\(ps.map (·.2)).Nodup/\(∀p∈ps,ds[p.2]?=aa p.1/\p.2∉seen)/\∀i,i<ds.length->i∉seen->∃p∈ps,p.2=i
section ev
variable{α:Type}(Cx:Cs)(ev:α->Option IV)
def c9(R:Rs)(φ:Ph)(L:List (LO α))(σ:St)(x:IV):Cl α->Prop
 |.un=>True
 |.v z=>∃y,ev z=aa y/\j_ x y/\ao y=ab
 |.w fr z=>∃y,ev z=aa y/\bx fr R σ x y/\ao y=ab
 |.pt k off ext=>∃id cs,φ k=aa id/\L[k]?=aa (.var cs)/\x=.ptr id off 0 ext
 |.tp cs=>∃ds,x=.na ds/\All2 (λd c=>∃y,ev c=aa y/\j_ d y/\ao y=ab) ds cs
 |.tw fr cs=>(∀c∈cs,∃y,ev c=aa y/\ao y=ab)/\((fr=ab/\∃ds,x=.na ds/\All2 (λd c=>∃y,ev c=aa y/\j_ d y) ds cs)\/
   ∃id off ep m cW aE mn,R id=aa m/\σ.at id=aa (.cells cW aE mn)/\mn<=ep/\ep<=aE/\x=.ptr id off ep cs.length/\off+cs.length<=m/\m<=cW.length/\
    ∀(j:Nat) c d,cs[j]?=aa d->cW[off+j]?=aa c->∃y,ev d=aa y/\bx fr R σ c y)
 |.sr k=>∃s st cut fr z es,L[k]?=aa (.row s st cut fr z)/\ev z=aa (.tree s es)/\OF φ σ k s cut 0 es.length x
 |.sv k lo=>∃s st cut fr z es y n,L[k]?=aa (.row s st cut fr z)/\ev z=aa (.tree s es)/\ev lo=aa y/\nat? y=aa n/\n<=es.length/\(OF φ σ k s cut n es.length x\/(n=es.length/\x=.emp))
 |.pr k i off ext=>∃s st cut fr z es y n id cs aE mn,L[k]?=aa (.row s st cut fr z)/\ev z=aa (.tree s es)/\ev i=aa y/\nat? y=aa n/\n<es.length/\off+ext<=s/\φ k=aa id/\σ.at id=aa (.cells cs aE mn)/\x=.ptr id (n*s+off) aE ext
 |.mp k=>∃id kt es,φ k=aa id/\L[k]?=aa (.mp kt es)/\x=if oX kt=ab then .ptr id 0 0 1 else .map id
 |.nl b s=>0<s/\x=if b then .raw (.slice ah 0 0)else .emp
 |.yl k=>∃id c st snap,φ k=aa id/\L[k]?=aa (.lp c st snap)/\x=.sX id
 |.fn f bs=>(bs=[]/\x=.raw (.func (.func f) #[] #[]))\/∃ys,x=.fn (.func f) [] ys/\All2 (λy (p:Nat×Nat)=>∃id cs,φ p.1=aa id/\L[p.1]?=aa (.var cs)/\y=.ptr id 0 0 p.2) ys bs
def vR(R:Rs)(φ:Ph)(L:List (LO α))(σ:St)(x:IV)(p:Bool×List (Cl α)):Prop:=
 if p.1 then∃xs,x=.agg xs/\All2 (c9 ev R φ L σ) xs p.2 else∃c,p.2=[c]/\c9 ev R φ L σ x c
def VR(R:Rs)(φ:Ph)(L:List (LO α))(σ:St)(x:IV):PV α->Prop
 |.one c=>c9 ev R φ L σ x c
 |.ag cs=>∃xs,x=.agg xs/\All2 (c9 ev R φ L σ) xs cs
 |.tu vs=>∃xs,x=.aF xs/\All2 (vR ev R φ L σ) xs vs
def flat(es:List IV):List IV:=es.flatMap cellsOf
def FF(R:Rs)(σ:St)(es:List (Value×IV×Nat))(ds:List IV):Prop:=
 All2 (λ(e:Value×IV×Nat) d=>∃z,d=.aF [lift e.1,z]/\bx ab R σ e.2.1 z) es ds
def Canon(es:List (Value×IV×Nat))(clock:Nat):Prop:=clock=es.length/\∀(i:Nat) (e:Value×IV×Nat),es[i]?=aa e->e.2.2=i
theorem Canon.app{es:List (Value×IV×Nat)}{clock:Nat}(h:Canon es clock)(k:Value)(x:IV):Canon (es++[(k,x,clock)]) (clock+1):=by
 refine⟨by simp[h.1],λi e he=>?_⟩;by_cases hi:i<es.length
 .rw[ayZ hi]at he;exact h.2 i e he
 .rw[aze aj]at he
  have h0:i- es.length=0:=by
   grind
  rw[h0]at he;simp at he;have:=h.1
  grind
theorem Canon.set{es:List (Value×IV×Nat)}{clock q:Nat}{e:Value×IV×Nat}(h:Canon es clock)(hq:es[q]?=aa e)(k:Value)(x:IV):Canon (es.set q (k,x,e.2.2)) clock:=by
 refine⟨by simp[h.1],λi e' he=>?_⟩;rw[List.getElem?_set]at he;split at he<;>try exact h.2 i e' he
 rename_i hh;subst hh;split at he
 .cases he;exact h.2 q e hq
 grind
def OIt(R:Rs)(φ:Ph)(L:List (LO α))(σ:St)(k:Nat)(kt:Nat)(z:α):Prop:=
 (kt=0/\∃id ba p,ev z=aa (.aF [.raw (.string ba),.raw (.int .i64 (p:Nat))])/\φ k=aa id/\R id=ah/\σ.at id=aa (.sB ba p))\/
 (1000000<=kt/\∃id m ds seen rem rest,ev z=aa (.aF (.aF ds::.aF rem::rest))/\φ k=aa id/\R id=ah/\(∃rO z',L[kt % 1000000]?=aa (.mp rO z'))/\φ (kt % 1000000)=aa m/\
  σ.at id=aa (.kV (aa m) ds.length seen ds.length)/\(∀s∈seen,s<ds.length)/\Left ds seen rem/\(rest=[]\/∃i last,rest=[last]/\seen.getLast?=aa i/\ds[i]?=aa last))
def OR(R:Rs)(φ:Ph)(L:List (LO α))(σ:St)(k:Nat):LO α->Prop
 |.var cs=>∃id cW,φ k=aa id/\R id=ah/\σ.at id=aa (.cells cW 0 0)/\All2 (c9 ev R φ L σ) cW cs
 |.row s st cut fr z=>0<s/\∃es,ev z=aa (.tree s es)/\(∀e∈es,(cellsOf e).length=s)/\
   ((φ k=ah/\es=[])\/∃id cs aE mn,φ k=aa id/\σ.at id=aa (.cells cs aE mn)/\mn<=aE/\es.length*s<=cs.length/\R id=(if st then aa (es.length*s)else ah)/\
     cs.all ao=ab/\∀(j:Nat) x d,cs[j]?=aa x->(flat es)[j]?=aa d->bx fr R σ x d)
 |.mp kt z=>if oX kt=ab then OIt ev R φ L σ k kt z
  else∃id es clock ds,ev z=aa (.aF ds)/\φ k=aa id/\R id=ah/\σ.at id=aa (.map es clock)/\FF R σ es ds/\Canon es clock
 |.lp c st snap=>∃id rc tm ga s p f,φ k=aa id/\R id=ah/\(st<2->Cx[c]?=aa rc)/\σ.at id=aa (.loop s p f tm rc.n rc.ps rc.gL rc.bd ga)/\ZU st s p/\
   ∀q∈snap,q.2.rN=ab/\VR ev R φ L σ ((⟨rc.n,tm⟩:Env).at q.1) q.2
 |.dead=>True
theorem lQ{Cx:Cs}{R:Rs}{φ:Ph}{L:List (LO α)}{σ:St}{k:Nat}{kt:TypeId}{z:α}:OR Cx ev R φ L σ k (.mp kt z)=if oX kt=ab then OIt ev R φ L σ k kt z
 else∃id es clock ds,ev z=aa (.aF ds)/\φ k=aa id/\R id=ah/\σ.at id=aa (.map es clock)/\FF R σ es ds/\Canon es clock:=rfl
abbrev Gm(α:Type):=List (Nat×Nat×PV α)
def cz(d t:Nat):List (Nat×Nat×PV α)->Option (PV α)
 |[]=>ah
 |(d',t',pv)::g=>if(ayQ d d'&&ayQ t t')=ab then aa pv else cz d t g
structure J(R:Rs)(φ:Ph)(Γ:Gm α)(L:List (LO α))(E:Nat->Env)(σ:St):Prop where
 slot:∀d t pv,cz d t Γ=aa pv->VR ev R φ L σ ((E d).at t) pv
 obj:∀k ob,L[k]?=aa ob->OR Cx ev R φ L σ k ob
 inj:∀k k' id,φ k=aa id->φ k'=aa id->k=k'
 lt:∀k id,φ k=aa id->k<L.length/\id<σ.n
 qS:∀id m,R id=aa m->id<σ.n
 fits:∀id m cs aE mn,R id=aa m->σ.at id=aa (.cells cs aE mn)->m<=cs.length
 wf:σ.t.WF
 top:∀id,σ.n<=id->σ.at id=ah
structure lj(ev jz:α->Option IV)(R:Rs)(φ:Ph)(L:List (LO α))(σ:St)(R':Rs)(aV:Ph)(L':List (LO α))(au:St)(bad:Nat->Prop):Prop where
 up:∀e z,ev e=aa z->jz e=aa z
 grow:jg R σ R' au
 var:∀k cs,L[k]?=aa (.var cs)->(∃bK,L'[k]?=aa (.var bK))/\aV k=φ k
 map:∀k kt es,L[k]?=aa (.mp kt es)->(∃aW,L'[k]?=aa (.mp kt aW))/\aV k=φ k
 row:∀k s st cut fr z,L[k]?=aa (.row s st cut fr z)->¬bad k->(∃dM dG z',L'[k]?=aa (.row s dM cut dG z')/\∀es,ev z=aa (.tree s es)->∃aW,jz z'=aa (.tree s aW)/\aW.length=es.length)/\aV k=φ k/\
  ∀id cs aE mn,φ k=aa id->σ.at id=aa (.cells cs aE mn)->∃bK tT,au.at id=aa (.cells bK aE tT)/\bK.length=cs.length/\(mn=aE->tT=aE)
 lp:∀k c st snap,L[k]?=aa (.lp c st snap)->(∃c' dM FG,L'[k]?=aa (.lp c' dM FG))/\aV k=φ k
end ev
variable{α:Type}{Cx:Cs}{ev jz:α->Option IV}
def Cl.ok(bad:Nat->Prop):Cl α->Prop
 |.sr k|.sv k _|.pr k _ _ _=>¬bad k
 |_=>True
def Cl.y8{bad:Nat->Prop}{c:Cl α}(h:c.rN=ab):c.ok bad:=by cases c<;>first|trivial|cases h
variable{R R':Rs}{φ aV:Ph}{L L':List (LO α)}{bad:Nat->Prop}
def lj.mk'(h0:∀e z,ev e=aa z->jz e=aa z)(h1:jg R σ R' au)(h2:∀k cs,L[k]?=aa (.var cs)->(∃bK,L'[k]?=aa (.var bK))/\aV k=φ k)
 (h3:∀k kt es,L[k]?=aa (.mp kt es)->(∃aW,L'[k]?=aa (.mp kt aW))/\aV k=φ k)
 (h4:∀k s st cut fr z,L[k]?=aa (.row s st cut fr z)->¬bad k->(∃dM,L'[k]?=aa (.row s dM cut fr z))/\aV k=φ k/\∀id,φ k=aa id->au.at id=σ.at id)
 (h5:∀k c st snap,L[k]?=aa (.lp c st snap)->(∃c' dM FG,L'[k]?=aa (.lp c' dM FG))/\aV k=φ k):lj ev jz R φ L σ R' aV L' au bad:=
 ⟨h0,h1,h2,h3,λk s st cut fr z hk hb=>by
  grind,h5⟩
def OF.step{k s lo len:Nat}{cut:Bool}{x:IV}(h1:aV k=φ k)(h2:∀id cs aE mn,φ k=aa id->σ.at id=aa (.cells cs aE mn)->∃bK tT,au.at id=aa (.cells bK aE tT)/\bK.length=cs.length/\(mn=aE->tT=aE))
 (h:OF φ σ k s cut lo len x):OF aV au k s cut lo len x:=by
 rcases h with⟨a,b,c⟩|⟨id,cs,aE,mn,cap,a,b,c,d,e,f⟩
 .exact .inl ⟨by rw[h1];exact a,b,c⟩
 .have⟨bK,tT,g1,g2,g3⟩:=h2 id cs aE mn a b;exact .inr ⟨id,bK,aE,tT,cap,by rw[h1];exact a,g1,c,d,λx y=>by rw[g2];exact e x y,λc hc=>by rw[g2];exact⟨g3 (f c hc).1,(f c hc).2⟩⟩
theorem c9.step(hs:lj ev jz R φ L σ R' aV L' au bad){x:IV}{c:Cl α}(bf:c.ok bad)(h:c9 ev R φ L σ x c):c9 jz R' aV L' au x c:=by
 cases c with
 |un=>trivial
 |v z=>have⟨y,h1,h2⟩:=h;exact⟨y,hs.up _ _ h1,h2⟩
 |w fr z=>have⟨y,h1,h2,h3⟩:=h;exact⟨y,hs.up _ _ h1,h2.mono hs.grow,h3⟩
 |pt k off ext=>
  have⟨id,cs,h1,h2,h3⟩:=h;have⟨⟨bK,h4⟩,h5⟩:=hs.var k cs h2;exact⟨id,bK,by grind,h4,h3⟩
 |tp cs=>
  have⟨ds,h1,h2⟩:=h;exact⟨ds,h1,h2.mono λd c ⟨y,h3,h4⟩=>⟨y,hs.up _ _ h3,h4⟩⟩
 |tw fr cs=>
  obtain⟨h0,h|⟨id,off,ep,m,cW,aE,mn,h1,h2,h3,h4,h5,h6,h7,h8⟩⟩:=h
  .have⟨hf,ds,h1,h2⟩:=h;exact⟨λc hc=>(h0 c hc).imp λy hy=>⟨hs.up _ _ hy.1,hy.2⟩,.inl ⟨hf,ds,h1,h2.mono λd c ⟨y,h3,h4⟩=>⟨y,hs.up _ _ h3,h4⟩⟩⟩
  .have⟨bK,lP,TP,hle,Ai⟩:=hs.grow.vz id m cW aE mn h1 h2;have⟨m',hR',hmm⟩:=hs.grow.le id m h1;refine⟨λc hc=>(h0 c hc).imp λy hy=>⟨hs.up _ _ hy.1,hy.2⟩,.inr ⟨id,off,ep,m',bK,lP,mn,hR',TP,h3,ay6 h4 hle,h5,by omega,hs.grow.fits id m' bK lP mn hR' TP,λj c d hd hc=>?_⟩⟩;have hj:=(ayH.1 hd).1;rw[Ai _ aj]at hc;have⟨y,y9,vS⟩:=h8 j c d hd hc;exact⟨y,hs.up _ _ y9,vS.mono hs.grow⟩
 |sr k=>
  have⟨s,st,cut,fr,z,es,h1,he,h2⟩:=h;have⟨⟨dM,dG,z',h3,h6⟩,h4,h5⟩:=hs.row k _ _ _ _ _ h1 bf;have⟨aW,h7,h8⟩:=h6 es he;exact⟨s,dM,cut,dG,z',aW,h3,h7,h8▸h2.step h4 h5⟩
 |sv k lo=>
  have⟨s,st,cut,fr,z,es,y,n,h1,he,hy,hn,hl,h2⟩:=h;have⟨⟨dM,dG,z',h3,h6⟩,h4,h5⟩:=hs.row k _ _ _ _ _ h1 bf;have⟨aW,h7,h8⟩:=h6 es he;exact⟨s,dM,cut,dG,z',aW,y,n,h3,h7,hs.up _ _ hy,hn,by omega,h2.elim (λh2=>.inl (h8▸h2.step h4 h5)) (λh2=>.inr ⟨by omega,h2.2⟩)⟩
 |pr k i off ext=>
  have⟨s,st,cut,fr,z,es,y,n,id,cs,aE,mn,h1,he,hy,hn,hl,hx,h6,h7,h8⟩:=h;have⟨⟨dM,dG,z',h3,h9⟩,h4,h5⟩:=hs.row k _ _ _ _ _ h1 bf;have⟨aW,h10,TQ⟩:=h9 es he;have⟨bK,tT,g1,g2,g3⟩:=h5 id cs aE mn h6 h7;exact⟨s,dM,cut,dG,z',aW,y,n,id,bK,aE,tT,h3,h10,hs.up _ _ hy,hn,by omega,hx,by grind,g1,h8⟩
 |mp k=>
  have⟨id,kt,es,h1,h2,h3⟩:=h;have⟨⟨aW,h4⟩,h5⟩:=hs.map k kt es h2;exact⟨id,kt,aW,by grind,h4,h3⟩
 |nl b s=>exact h
 |yl k=>
  have⟨id,c,st,snap,h1,h2,h3⟩:=h;have⟨⟨c',dM,FG,h4⟩,h5⟩:=hs.lp k c st snap h2;exact⟨id,c',dM,FG,by grind,h4,h3⟩
 |fn f bs=>
  rcases h with h|⟨ys,h1,h2⟩
  .exact .inl h
  .refine .inr ⟨ys,h1,h2.mono λy p ⟨id,cs,h3,h4,h5⟩=>?_⟩;have⟨⟨bK,h6⟩,h7⟩:=hs.var p.1 cs h4
   grind
def PV.ok(bad:Nat->Prop):PV α->Prop
 |.one c=>c.ok bad
 |.ag cs=>∀c∈cs,c.ok bad
 |.tu vs=>∀p∈vs,∀c∈p.2,c.ok bad
theorem VR.step(hs:lj ev jz R φ L σ R' aV L' au bad){x:IV}{c:PV α}(bf:c.ok bad)(h:VR ev R φ L σ x c):VR jz R' aV L' au x c:=by
 cases c with
 |one c=>exact c9.step hs bf h
 |ag cs=>
  have⟨xs,h1,h2⟩:=h;exact⟨xs,h1,h2.AJ λa b hb cG=>c9.step hs (bf b hb) cG⟩
 |tu vs=>
  have⟨xs,h1,h2⟩:=h;refine⟨xs,h1,h2.AJ λa p hp cG=>?_⟩;unfold vR at cG⊢;split at cG
  .rename_i hb;rw[if_pos hb];have⟨ys,h3,h4⟩:=cG;exact⟨ys,h3,h4.AJ λa b hb cG=>c9.step hs (bf p hp b hb) cG⟩
  .rename_i hb;rw[if_neg hb];have⟨c,h3,h4⟩:=cG;exact⟨c,h3,c9.step hs (bf p hp c bc) h4⟩
theorem PV.y8{bad:Nat->Prop}{p:PV α}(h:p.rN=ab):p.ok bad:=by
 cases p with
 |one c=>exact Cl.y8 h
 |ag cs=>exactλc hc=>Cl.y8 (ayY.1 h c hc)
 |tu vs=>exactλp hp c hc=>Cl.y8 (ayY.1 (ayY.1 h p hp) c hc)
def LO.ok(bad:Nat->Prop):LO α->Prop
 |.var cs=>∀c∈cs,c.ok bad
 |_=>True
theorem OR.step(hs:lj ev jz R φ L σ R' aV L' au bad){k:Nat}{o:LO α}(kh:aV k=φ k)(aT:∀id,φ k=aa id->au.at id=σ.at id/\R' id=R id)(bf:o.ok bad)(h:OR Cx ev R φ L σ k o):OR Cx jz R' aV L' au k o:=by
 cases o with
 |var cs=>
  have⟨id,cW,h1,h2,h3,h4⟩:=h;have⟨h6,h7⟩:=aT id h1;exact⟨id,cW,by rw[kh];exact h1,by rw[h7];exact h2,by rw[h6];exact h3,h4.AJ λa b hb cG=>c9.step hs (bf b hb) cG⟩
 |row s st cut fr z=>
  have⟨h1,es,h2,h3,h4⟩:=h;refine⟨h1,es,hs.up _ _ h2,h3,?_⟩;rcases h4 with⟨h4,h5⟩|⟨id,cs,aE,mn,h4,h5,h6,h7,h8,h9,h10⟩
  .exact .inl ⟨by rw[kh];exact h4,h5⟩
  .have⟨ha,hb⟩:=aT id h4;exact .inr ⟨id,cs,aE,mn,by rw[kh];exact h4,by rw[ha];exact h5,h6,h7,by rw[hb];exact h8,h9,λj x d hx hd=>(h10 j x d hx hd).mono hs.grow⟩
 |mp kt z=>
  rw[lQ]at h⊢;by_cases hk:oX kt=ab
  .rw[if_pos hk]at h⊢;rcases h with⟨h0,id,ba,p,h1,h2,h3,h4⟩|⟨h0,id,m,ds,seen,rem,rest,h1,h2,h3,⟨rO,z',h8⟩,h9,h4,h5⟩
   .have⟨h6,h7⟩:=aT id h2;exact .inl ⟨h0,id,ba,p,hs.up _ _ h1,by rw[kh];exact h2,by rw[h7];exact h3,by rw[h6];exact h4⟩
   .have⟨h6,h7⟩:=aT id h2;have⟨⟨aW,g1⟩,g2⟩:=hs.map _ _ _ h8;exact .inr ⟨h0,id,m,ds,seen,rem,rest,hs.up _ _ h1,by rw[kh];exact h2,by rw[h7];exact h3,⟨rO,aW,g1⟩,by rw[g2];exact h9,by rw[h6];exact h4,h5⟩
  .rw[if_neg hk]at h⊢;have⟨id,es,clock,ds,h1,h2,h3,h4,h5⟩:=h;have⟨h6,h7⟩:=aT id h2;exact⟨id,es,clock,ds,hs.up _ _ h1,by rw[kh];exact h2,by rw[h7];exact h3,by rw[h6];exact h4,h5.1.mono λa d ⟨z,h8,h9⟩=>⟨z,h8,h9.mono hs.grow⟩,h5.2⟩
 |lp c st snap=>
  have⟨id,rc,tm,ga,s,p,f,h1,h2,h3,h4,h5,h6⟩:=h;have⟨h7,h8⟩:=aT id h1;exact⟨id,rc,tm,ga,s,p,f,by rw[kh];exact h1,by rw[h8];exact h2,h3,by rw[h7];exact h4,h5,λq hq=>⟨(h6 q hq).1,(h6 q hq).2.step hs (PV.y8 (h6 q hq).1)⟩⟩
 |dead=>trivial
variable{Γ KB:Gm α}{E:Nat->Env}
def ly(E:Nat->Env)(d:Nat)(e:Env):Nat->Env:=λj=>if j=d then e else E j
@[simp] theorem bO(E:Nat->Env)(d:Nat)(e:Env):ly E d e d=e:=by simp[ly]
def acg(E:Nat->Env)(d:Nat)(e e':Env):ly (ly E d e) d e'=ly E d e':=by
 grind [ly]
def FH(d t:Nat):List (Nat×Nat×PV α)->List (Nat×Nat×PV α)
 |[]=>[]
 |(d',t',pv)::g=>if(ayQ d d'&&ayQ t t')=ab then FH d t g else(d',t',pv)::FH d t g
def Ll{d t d' t':Nat}{pv:PV α}:∀(g:List (Nat×Nat×PV α)),cz d' t' (FH d t g)=aa pv->¬(d'=d/\t'=t)/\cz d' t' g=aa pv:=by
 intro g;induction g with
 |nil=>intro h;cases h
 |cons p g ih=>
  have⟨a,b,q⟩:=p;intro h;unfold FH at h;split at h
  .simp_all[cz]
  .rename_i cG;simp only[ayI,azv]at cG;unfold cz at h⊢;split at h
   .rename_i hc;rw[if_pos hc];simp only[ayI,azv]at hc
    grind
   grind
def OG(d t:Nat)(pv:PV α)(g:List (Nat×Nat×PV α)):List (Nat×Nat×PV α):=(d,t,pv)::FH d t g
def ml{d t a b:Nat}{q pv:PV α}{g:List (Nat×Nat×PV α)}(h:cz d t ((a,b,q)::g)=aa pv):(d=a/\t=b/\pv=q)\/(¬(d=a/\t=b)/\cz d t g=aa pv):=by
 unfold cz at h;split at h
 all_goals simp_all
def Hj(e:Env)(dst:Option Nat)(x:IV)(t:Nat)(h:dst≠aa t):(e.put dst x).at t=e.at t:=by
 cases dst with
 |none=>rfl
 |some d=>simp_all[Env.dt]
def J.ZV(h:J Cx ev R φ Γ L E σ)(d:Nat)(dst:Option Nat)(x:IV)(eY:∀t,dst=aa t->KB=FH d t Γ)(hn:dst=ah->KB=Γ):J Cx ev R φ KB L (ly E d ((E d).put dst x)) σ:=by
 refine{h with slot:=λd' t' pv hg=>?_}
 have hold:¬(d'=d/\dst=aa t')/\cz d' t' Γ=aa pv:=by
  cases hd:dst with
  |none=>rw[hn hd]at hg;exact⟨λhh=>(by cases hh.2),hg⟩
  |some t=>
   rw[eY t hd]at hg;have⟨h1,h2⟩:=Ll Γ hg;exact⟨λhh=>h1 ⟨hh.1,(by injection hh.2 with hh;exact hh.symm)⟩,h2⟩
 have:=h.slot d' t' pv hold.2;unfold ly;split
 .rename_i hd;subst hd;rw[Hj _ _ _ _ (λhh=>hold.1 ⟨rfl,hh⟩)];exact this
 .exact this
theorem J.put(h:J Cx ev R φ Γ L E σ)(d:Nat){t:Nat}(ht:t<(E d).n){x:IV}{pv:PV α}(hx:VR ev R φ L σ x pv):J Cx ev R φ (OG d t pv Γ) L (ly E d ((E d).put (aa t) x)) σ:=by
 have hb:=h.ZV (KB:=FH d t Γ) d (aa t) x (λt' h=>by grind) (λh=>by cases h);refine{hb with slot:=λd' t' Hm hg=>?_};rcases ml hg with⟨rfl,rfl,rfl⟩|⟨_,h2⟩
 .simp_all[Env.dt]
 .exact hb.slot d' t' Hm h2
def J.less(h:J Cx ev R φ Γ L E σ)(hs:∀d t pv,cz d t KB=aa pv->cz d t Γ=aa pv):J Cx ev R φ KB L E σ:={h with slot:=λd t pv ht=>h.slot d t pv (hs d t pv ht)}
end Go.Ev
