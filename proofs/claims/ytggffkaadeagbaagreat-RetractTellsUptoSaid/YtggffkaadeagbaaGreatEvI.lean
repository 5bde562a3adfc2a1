/- Lemmas over the model, without conditions of their own: what is known of frames and of the store. -/
import Derived.Test.YtggffkaadeagbaaGreatEvH
open List renaming getElem?_eq_some_iff->asM,mem_of_getElem?->asZ,getElem?_eq_getElem->asL,getElem?_append_left->asY,getElem?_append_right->atm,getElem?_map->as4,getElem?_set_ne->avT,range'->avb,drop_drop->avu,length_cons->atG,range'_succ->awr,mk_mem_zipIdx_iff_getElem?->atV,mem_iff_getElem?->avP,mem_eraseIdx_iff_getElem?->awj,mem_append->as8,mem_singleton->atF,range->aup,any_eq_true->aws,mem_filter->atW,mem_cons_of_mem->at6,mem_cons->aty,all_eq_true->as6,mem_range->avv,foldl_cons->att,mem_cons_self->au5,getElem_of_mem->auG,getElem_zipIdx->av0
open Nat renaming le_trans->atd,le_refl->asR,beq->asW,beq_eq->atv,blt->atQ,testBit->atb,eq_of_beq_eq_true->asV
open Bool renaming and_eq_true->asN,or_eq_true->atw,not_eq_true'->atD
open Option renaming map_eq_some_iff->asS
open Go.Fence renaming wide->ato
open Go.Oper renaming semAt_eq->auC,uponIn_value->av8,uponIn_enter->awh
open Array renaming replicate->aub,mem_filter->awc,getElem?_eq_getElem->atj,getElem?_toList->auM
open Go.Sem renaming run->auH,run_bind->asT,run_map->ayp
open Go.Question renaming forced->auP
open Go.Instr renaming next->au1
open Classical renaming byContradiction->atA
open Go.Result renaming andThen_ok->asQ
open Option.some renaming injEq->asP
open List.cons renaming injEq->atK
open Option renaming some->aa,none->ah
open Bool renaming true->ab,false->af
set_option linter.all false
namespace Go.Ev
variable{P:Program}{σ ao:St}
abbrev Rs:=Nat->Option Nat
inductive bn(fr:Bool)(R:Rs)(σ:St):IV->IV->Prop
 |raw (v:Value):bn fr R σ (.raw v) (.raw v)
 |nil (s:Nat) (hs:0<s):bn fr R σ (.raw (.slice ah 0 0)) (.tree s [])
 |emp (s:Nat) (hs:0<s):bn fr R σ .emp (.tree s [])
 |du (t:TypeId) (x y:IV) (h:bn fr R σ x y):bn fr R σ (.du t x) (.du t y)
 |agg (cs ds:List IV) (hl:cs.length=ds.length) (h:∀(i:Nat) c d,cs[i]?=aa c->ds[i]?=aa d->bn fr R σ c d):bn fr R σ (.agg cs) (.agg ds)
 |az (cs ds:List IV) (hl:cs.length=ds.length) (h:∀(i:Nat) c d,cs[i]?=aa c->ds[i]?=aa d->bn fr R σ c d):bn fr R σ (.az cs) (.az ds)
 |pure (x:IV) (hf:fr=ab) (hp:Pure x):bn fr R σ x x
 |sl (id off len:Nat) (cap:Option Nat) (ep s m:Nat) (cs:List IV) (ay mn:Nat) (es:List IV) (hR:R id=aa m) (aE:σ.at id=aa (.cells cs ay mn)) (h1:mn<=ep) (h2:ep<=ay) (hs:0<s) (hl:es.length=len)
   (hb:off+len*s<=m) (hm:m<=cs.length)
   (bH:∀e∈es,(cellsOf e).length=s) (h:∀(i:Nat) e (j:Nat) c d,es[i]?=aa e->(cellsOf e)[j]?=aa d->cs[off+i*s+j]?=aa c->bn fr R σ c d):bn fr R σ (.sl id off len cap ep s) (.tree s es)
theorem bn.can{fr:Bool}{R:Rs}{x z:IV}(h:bn fr R σ x z):Can fr σ x z:=by
 induction h with
 |raw v=>exact .raw v
 |nil s hs=>exact .nil s hs
 |emp s hs=>exact .emp s hs
 |du t x y _ ih=>exact .du t x y ih
 |agg cs ds hl _ ih=>exact .agg cs ds hl ih
 |az cs ds hl _ ih=>exact .az cs ds hl ih
 |pure x hf hp=>exact .pure x hf hp
 |sl id off len cap ep s m cs ay mn es hR aE h1 h2 hs hl hb hm bH _ ih=>exact .sl id off len cap ep s cs ay mn es aE h1 h2 hl (by omega) bH ih
theorem bn.cL{fr:Bool}{R:Rs}{x z:IV}(h:bn fr R σ x z):bn ab R σ x z:=by
 induction h with
 |raw v=>exact .raw v
 |nil s hs=>exact .nil s hs
 |emp s hs=>exact .emp s hs
 |du t x y _ ih=>exact .du t x y ih
 |agg cs ds hl _ ih=>exact .agg cs ds hl ih
 |az cs ds hl _ ih=>exact .az cs ds hl ih
 |pure x hf hp=>exact .pure x rfl hp
 |sl id off len cap ep s m cs ay mn es hR aE h1 h2 hs hl hb hm bH _ ih=>exact .sl id off len cap ep s m cs ay mn es hR aE h1 h2 hs hl hb hm bH ih
theorem bn.wide{fr dg:Bool}{R:Rs}{x z:IV}(h:bn fr R σ x z)(hle:fr=ab->dg=ab):bn dg R σ x z:=by
 cases dg
 ·cases fr
  ·exact h
  ·exact absurd (hle rfl) (by simp)
 ·exact h.cL
structure ja(R:Rs)(σ:St)(R':Rs)(ao:St):Prop where
 le:∀id m,R id=aa m->∃m',R' id=aa m'/\m<=m'
 keep:∀id m cs ay mn,R id=aa m->σ.at id=aa (.cells cs ay mn)->∃cz iW,ao.at id=aa (.cells cz iW mn)/\ay<=iW/\∀j,j<m->cz[j]?=cs[j]?
 fits:∀id m cs ay mn,R' id=aa m->ao.at id=aa (.cells cs ay mn)->m<=cs.length
theorem agC{es:List IV}{i s len:Nat}{e d:IV}{j:Nat}(he:es[i]?=aa e)(hd:(cellsOf e)[j]?=aa d)(bH:∀e∈es,(cellsOf e).length=s)(hl:es.length=len):i*s+j<len*s:=by
 have hi:=(asM.1 he).1;have hj:j<s:=by have:=(asM.1 hd).1;rw[bH e (asZ he)]at this;exact this
 have:(i+1)*s<=es.length*s:=Nat.mul_le_mul_right s hi;rw[Nat.add_mul,hl]at this;omega
theorem bn.mono{fr:Bool}{R R':Rs}(hg:ja R σ R' ao){x z:IV}(h:bn fr R σ x z):bn fr R' ao x z:=by
 induction h with
 |raw v=>exact .raw v
 |nil s hs=>exact .nil s hs
 |emp s hs=>exact .emp s hs
 |du t x y _ ih=>exact .du t x y ih
 |agg cs ds hl _ ih=>exact .agg cs ds hl ih
 |az cs ds hl _ ih=>exact .az cs ds hl ih
 |pure x hf hp=>exact .pure x hf hp
 |sl id off len cap ep s m cs ay mn es hRi aE h1 h2 hs hl hb hm bH _ ih=>
  obtain⟨cz,iW,Po,hle,IX⟩:=hg.keep id m cs ay mn hRi aE;obtain⟨m',Pp,hmm⟩:=hg.le id m hRi;refine .sl id off len cap ep s m' cz iW mn es Pp Po h1 (atd h2 hle) hs hl (atd hb hmm) (hg.fits id m' cz iW mn Pp Po) bH λi e j c d he hd hc=>?_;have:=agC he hd bH hl;rw[IX _ (by omega)]at hc;exact ih i e j c d he hd hc
theorem ja.refl{R:Rs}(hf:∀id m cs ay mn,R id=aa m->σ.at id=aa (.cells cs ay mn)->m<=cs.length):ja R σ R σ:=
 ⟨λ_ m h=>⟨m,h,asR _⟩,λ_ _ cs ay _ _ h=>⟨cs,ay,h,asR _,λ_ _=>rfl⟩,hf⟩
def All2{α β:Type}(r:α->β->Prop):List α->List β->Prop
 |[],[]=>True
 |a::as,b::bs=>r a b/\All2 r as bs
 |_,_=>False
namespace All2
variable{α β:Type}{r r':α->β->Prop}
theorem len:∀{as:List α} {bs:List β},All2 r as bs->as.length=bs.length
 |[],[],_=>rfl
 |_::_,_::_,h=>by simp[len h.2]
 |[],_::_,h=>h.elim
 |_::_,[],h=>h.elim
theorem get:∀{as:List α} {bs:List β},All2 r as bs->∀{i:Nat} {a:α} {b:β},as[i]?=aa a->bs[i]?=aa b->r a b
 |[],[],_,i,a,b,h1,_=>by simp at h1
 |_::as,_::bs,h,i,a,b,h1,h2=>by
  cases i with
  |zero=>simp at h1 h2;subst h1 h2;exact h.1
  |succ i=>simp at h1 h2;exact get h.2 h1 h2
 |[],_::_,h,_,_,_,_,_=>h.elim
 |_::_,[],h,_,_,_,_,_=>h.elim
theorem As{as:List α}{bs:List β}(h:All2 r as bs){i:Nat}{b:β}(hb:bs[i]?=aa b):∃a,as[i]?=aa a/\r a b:=by
 have hi:i<as.length:=by have:=(asM.1 hb).1;rw[h.len];exact this
 exact⟨_,asL hi,h.get (asL hi) hb⟩
theorem mk:∀{as:List α} {bs:List β},as.length=bs.length->(∀(i:Nat) a b,as[i]?=aa a->bs[i]?=aa b->r a b)->All2 r as bs
 |[],[],_,_=>trivial
 |a::as,b::bs,hl,h=>⟨h 0 a b rfl rfl,mk (by simpa using hl) λi a b h1 h2=>h (i+1) a b (by simpa using h1) (by simpa using h2)⟩
 |[],_::_,hl,_=>by simp at hl
 |_::_,[],hl,_=>by simp at hl
theorem mono(hr:∀a b,r a b->r' a b):∀{as:List α} {bs:List β},All2 r as bs->All2 r' as bs
 |[],[],_=>trivial
 |_::_,_::_,h=>⟨hr _ _ h.1,mono hr h.2⟩
 |[],_::_,h=>h.elim
 |_::_,[],h=>h.elim
theorem xL:∀{as:List α} {bs:List β},(∀a b,b∈bs->r a b->r' a b)->All2 r as bs->All2 r' as bs
 |[],[],_,_=>trivial
 |_::_,_::_,hr,h=>⟨hr _ _ (by simp) h.1,xL (λa b hb=>hr a b (by simp[hb])) h.2⟩
 |[],_::_,_,h=>h.elim
 |_::_,[],_,h=>h.elim
theorem app{as as':List α}{bs bs':List β}(h:All2 r as bs)(k:All2 r as' bs'):All2 r (as++as') (bs++bs'):=by
 refine mk (by simp[h.len,k.len]) λi a b h1 h2=>?_;by_cases hi:i<as.length
 ·rw[asY hi]at h1;rw[asY (h.len▸hi)]at h2;exact h.get h1 h2
 ·rw[atm (by omega)]at h1;rw[atm (by have:=h.len;omega),<-h.len]at h2;exact k.get h1 h2
theorem take(n:Nat){as:List α}{bs:List β}(h:All2 r as bs):All2 r (as.take n) (bs.take n):=by
 refine mk (by simp[h.len]) λi a b h1 h2=>?_;rw[List.getElem?_take]at h1 h2;split at h1
 ·rename_i hi;rw[if_pos hi]at h2;exact h.get h1 h2
 ·cases h1
theorem drop(n:Nat){as:List α}{bs:List β}(h:All2 r as bs):All2 r (as.drop n) (bs.drop n):=
 mk (by simp[h.len]) λi a b h1 h2=>h.get (i:=n+i) (by simpa using h1) (by simpa using h2)
theorem map{γ:Type}{f:β->γ}{q:α->γ->Prop}(hf:∀a b,r a b->q a (f b)):∀{as:List α} {bs:List β},All2 r as bs->All2 q as (bs.map f)
 |[],[],_=>trivial
 |_::_,_::_,h=>⟨hf _ _ h.1,map hf h.2⟩
 |[],_::_,h=>h.elim
 |_::_,[],h=>h.elim
end All2
inductive Cl(α:Type) where
 |un
 |v (z:α)
 |w (fr:Bool) (z:α)
 |pt (k off ext:Nat)
 |tp (cs:List α)
 |tw (fr:Bool) (cs:List α)
 |sr (k:Nat)
 |sv (k:Nat) (lo:α)
 |pr (k:Nat) (i:α) (off ext:Nat)
 |mp (k:Nat)
 |nl (b:Bool) (s:Nat)
 |fn (f:FuncId) (bs:List (Nat×Nat))
 deriving Inhabited
inductive PV(α:Type) where
 |one (x:Cl α)
 |ag (cs:List (Cl α))
 |tu (vs:List (Bool×List (Cl α)))
 deriving Inhabited
inductive LO(α:Type) where
 |var (cs:List (Cl α))
 |row (s:Nat) (st cut fr:Bool) (es:α)
 |mp (kt:TypeId) (es:α)
 |dead
abbrev Ph:=Nat->Option Nat
def KK(φ:Ph)(σ:St)(k s:Nat)(cut:Bool)(lo len:Nat)(x:IV):Prop:=
 (φ k=ah/\len=0/\(x=.raw (.slice ah 0 0)\/x=.emp))\/
 ∃id cs ay mn cap,φ k=aa id/\σ.at id=aa (.cells cs ay mn)/\x=.sl id (lo*s) (len- lo) cap ay s/\lo<=len/\(cap=ah->cut=af->len*s=cs.length)/\
  ∀c,cap=aa c->mn=ay/\lo*s+c*s<=cs.length/\len- lo<=c
abbrev iX:IV->IV->Prop:=bn ab (λ_=>ah) ⟨0,.lf⟩
def nat?:IV->Option Nat
 |.raw (.int _ n)=>if 0<=n then aa n.toNat else ah
 |_=>ah
def gI(kt:Nat):Bool:=asW kt 0||Nat.ble 1000000 kt
def Left(ds:List IV)(seen:List Nat)(rem:List IV):Prop:=
 ∃ps:List (IV×Nat),rem=ps.map (·.1)/\(ps.map (·.2)).Nodup/\(∀p∈ps,ds[p.2]?=aa p.1/\p.2∉seen)/\∀i,i<ds.length->i∉seen->∃p∈ps,p.2=i
section ev
variable{α:Type}(ev:α->Option IV)
def cI(R:Rs)(φ:Ph)(L:List (LO α))(σ:St)(x:IV):Cl α->Prop
 |.un=>True
 |.v z=>∃y,ev z=aa y/\iX x y/\aj y=ab
 |.w fr z=>∃y,ev z=aa y/\bn fr R σ x y/\aj y=ab
 |.pt k off ext=>∃id cs,φ k=aa id/\L[k]?=aa (.var cs)/\x=.ptr id off 0 ext
 |.tp cs=>∃ds,x=.lN ds/\All2 (λd c=>∃y,ev c=aa y/\iX d y/\aj y=ab) ds cs
 |.tw fr cs=>(∀c∈cs,∃y,ev c=aa y/\aj y=ab)/\((fr=ab/\∃ds,x=.lN ds/\All2 (λd c=>∃y,ev c=aa y/\iX d y) ds cs)\/
   ∃id off ep m cJ ay mn,R id=aa m/\σ.at id=aa (.cells cJ ay mn)/\mn<=ep/\ep<=ay/\x=.ptr id off ep cs.length/\off+cs.length<=m/\m<=cJ.length/\
    ∀(j:Nat) c d,cs[j]?=aa d->cJ[off+j]?=aa c->∃y,ev d=aa y/\bn fr R σ c y)
 |.sr k=>∃s st cut fr z es,L[k]?=aa (.row s st cut fr z)/\ev z=aa (.tree s es)/\KK φ σ k s cut 0 es.length x
 |.sv k lo=>∃s st cut fr z es y n,L[k]?=aa (.row s st cut fr z)/\ev z=aa (.tree s es)/\ev lo=aa y/\nat? y=aa n/\n<=es.length/\(KK φ σ k s cut n es.length x\/(n=es.length/\x=.emp))
 |.pr k i off ext=>∃s st cut fr z es y n id cs ay mn,L[k]?=aa (.row s st cut fr z)/\ev z=aa (.tree s es)/\ev i=aa y/\nat? y=aa n/\n<es.length/\off+ext<=s/\φ k=aa id/\σ.at id=aa (.cells cs ay mn)/\x=.ptr id (n*s+off) ay ext
 |.mp k=>∃id kt es,φ k=aa id/\L[k]?=aa (.mp kt es)/\x=if gI kt=ab then .ptr id 0 0 1 else .map id
 |.nl b s=>0<s/\x=if b then .raw (.slice ah 0 0)else .emp
 |.fn f bs=>(bs=[]/\x=.raw (.func (.func f) #[] #[]))\/∃ys,x=.fn (.func f) [] ys/\All2 (λy (p:Nat×Nat)=>∃id cs,φ p.1=aa id/\L[p.1]?=aa (.var cs)/\y=.ptr id 0 0 p.2) ys bs
def tP(R:Rs)(φ:Ph)(L:List (LO α))(σ:St)(x:IV)(p:Bool×List (Cl α)):Prop:=
 if p.1 then∃xs,x=.agg xs/\All2 (cI ev R φ L σ) xs p.2 else∃c,p.2=[c]/\cI ev R φ L σ x c
def VR(R:Rs)(φ:Ph)(L:List (LO α))(σ:St)(x:IV):PV α->Prop
 |.one c=>cI ev R φ L σ x c
 |.ag cs=>∃xs,x=.agg xs/\All2 (cI ev R φ L σ) xs cs
 |.tu vs=>∃xs,x=.az xs/\All2 (tP ev R φ L σ) xs vs
def flat(es:List IV):List IV:=es.flatMap cellsOf
def zx(R:Rs)(σ:St)(es:List (Value×IV×Nat))(ds:List IV):Prop:=
 All2 (λ(e:Value×IV×Nat) d=>∃z,d=.az [lift e.1,z]/\bn ab R σ e.2.1 z) es ds
def Canon(es:List (Value×IV×Nat))(clock:Nat):Prop:=clock=es.length/\∀(i:Nat) (e:Value×IV×Nat),es[i]?=aa e->e.2.2=i
theorem Canon.app{es:List (Value×IV×Nat)}{clock:Nat}(h:Canon es clock)(k:Value)(x:IV):Canon (es++[(k,x,clock)]) (clock+1):=by
 refine⟨by simp[h.1],λi e he=>?_⟩;by_cases hi:i<es.length
 ·rw[asY hi]at he;exact h.2 i e he
 ·rw[atm (by omega)]at he
  have h0:i- es.length=0:=by
   have:=(asM.1 he).1;simp at this;omega
  rw[h0]at he;simp at he;subst he;have:=h.1;show clock=i;omega
theorem Canon.set{es:List (Value×IV×Nat)}{clock q:Nat}{e:Value×IV×Nat}(h:Canon es clock)(hq:es[q]?=aa e)(k:Value)(x:IV):Canon (es.set q (k,x,e.2.2)) clock:=by
 refine⟨by simp[h.1],λi e' he=>?_⟩;rw[List.getElem?_set]at he;split at he
 ·rename_i hh;subst hh;split at he
  ·cases he;exact h.2 q e hq
  ·cases he
 ·exact h.2 i e' he
def OIt(R:Rs)(φ:Ph)(L:List (LO α))(σ:St)(k:Nat)(kt:Nat)(z:α):Prop:=
 (kt=0/\∃id ba p,ev z=aa (.az [.raw (.string ba),.raw (.int .i64 (p:Nat))])/\φ k=aa id/\R id=ah/\σ.at id=aa (.qq ba p))\/
 (1000000<=kt/\∃id m ds seen rem rest,ev z=aa (.az (.az ds::.az rem::rest))/\φ k=aa id/\R id=ah/\(∃ma z',L[kt % 1000000]?=aa (.mp ma z'))/\φ (kt % 1000000)=aa m/\
  σ.at id=aa (.jO (aa m) ds.length seen ds.length)/\(∀s∈seen,s<ds.length)/\Left ds seen rem/\(rest=[]\/∃i last,rest=[last]/\seen.getLast?=aa i/\ds[i]?=aa last))
def OR(R:Rs)(φ:Ph)(L:List (LO α))(σ:St)(k:Nat):LO α->Prop
 |.var cs=>∃id cJ,φ k=aa id/\R id=ah/\σ.at id=aa (.cells cJ 0 0)/\All2 (cI ev R φ L σ) cJ cs
 |.row s st cut fr z=>0<s/\∃es,ev z=aa (.tree s es)/\(∀e∈es,(cellsOf e).length=s)/\
   ((φ k=ah/\es=[])\/∃id cs ay mn,φ k=aa id/\σ.at id=aa (.cells cs ay mn)/\mn<=ay/\es.length*s<=cs.length/\R id=(if st then aa (es.length*s)else ah)/\
     cs.all aj=ab/\∀(j:Nat) x d,cs[j]?=aa x->(flat es)[j]?=aa d->bn fr R σ x d)
 |.mp kt z=>if gI kt=ab then OIt ev R φ L σ k kt z
  else∃id es clock ds,ev z=aa (.az ds)/\φ k=aa id/\R id=ah/\σ.at id=aa (.map es clock)/\zx R σ es ds/\Canon es clock
 |.dead=>True
theorem gR{R:Rs}{φ:Ph}{L:List (LO α)}{σ:St}{k:Nat}{kt:TypeId}{z:α}:OR ev R φ L σ k (.mp kt z)=if gI kt=ab then OIt ev R φ L σ k kt z
 else∃id es clock ds,ev z=aa (.az ds)/\φ k=aa id/\R id=ah/\σ.at id=aa (.map es clock)/\zx R σ es ds/\Canon es clock:=rfl
abbrev Gm(α:Type):=List (Nat×Nat×PV α)
def cA(d t:Nat):List (Nat×Nat×PV α)->Option (PV α)
 |[]=>ah
 |(d',t',pv)::g=>if(asW d d'&&asW t t')=ab then aa pv else cA d t g
structure J(R:Rs)(φ:Ph)(Γ:Gm α)(L:List (LO α))(E:Nat->Env)(σ:St):Prop where
 slot:∀d t pv,cA d t Γ=aa pv->VR ev R φ L σ ((E d).at t) pv
 obj:∀k ob,L[k]?=aa ob->OR ev R φ L σ k ob
 inj:∀k k' id,φ k=aa id->φ k'=aa id->k=k'
 lt:∀k id,φ k=aa id->k<L.length/\id<σ.n
 qU:∀id m,R id=aa m->id<σ.n
 fits:∀id m cs ay mn,R id=aa m->σ.at id=aa (.cells cs ay mn)->m<=cs.length
 wf:σ.t.WF
 top:∀id,σ.n<=id->σ.at id=ah
structure kO(ev iv:α->Option IV)(R:Rs)(φ:Ph)(L:List (LO α))(σ:St)(R':Rs)(aL:Ph)(L':List (LO α))(ao:St)(bad:Nat->Prop):Prop where
 up:∀e z,ev e=aa z->iv e=aa z
 grow:ja R σ R' ao
 var:∀k cs,L[k]?=aa (.var cs)->(∃cz,L'[k]?=aa (.var cz))/\aL k=φ k
 map:∀k kt es,L[k]?=aa (.mp kt es)->(∃aF,L'[k]?=aa (.mp kt aF))/\aL k=φ k
 row:∀k s st cut fr z,L[k]?=aa (.row s st cut fr z)->¬bad k->(∃l8 dg z',L'[k]?=aa (.row s l8 cut dg z')/\∀es,ev z=aa (.tree s es)->∃aF,iv z'=aa (.tree s aF)/\aF.length=es.length)/\aL k=φ k/\
  ∀id cs ay mn,φ k=aa id->σ.at id=aa (.cells cs ay mn)->∃cz pX,ao.at id=aa (.cells cz ay pX)/\cz.length=cs.length/\(mn=ay->pX=ay)
end ev
variable{α:Type}{ev iv:α->Option IV}
def Cl.ok(bad:Nat->Prop):Cl α->Prop
 |.sr k|.sv k _|.pr k _ _ _=>¬bad k
 |_=>True
variable{R R':Rs}{φ aL:Ph}{L L':List (LO α)}{bad:Nat->Prop}
theorem kO.mk'(h0:∀e z,ev e=aa z->iv e=aa z)(h1:ja R σ R' ao)(h2:∀k cs,L[k]?=aa (.var cs)->(∃cz,L'[k]?=aa (.var cz))/\aL k=φ k)
 (h3:∀k kt es,L[k]?=aa (.mp kt es)->(∃aF,L'[k]?=aa (.mp kt aF))/\aL k=φ k)
 (h4:∀k s st cut fr z,L[k]?=aa (.row s st cut fr z)->¬bad k->(∃l8,L'[k]?=aa (.row s l8 cut fr z))/\aL k=φ k/\∀id,φ k=aa id->ao.at id=σ.at id):kO ev iv R φ L σ R' aL L' ao bad:=
 ⟨h0,h1,h2,h3,λk s st cut fr z hk hb=>by
  obtain⟨⟨l8,a⟩,b,c⟩:=h4 k s st cut fr z hk hb;exact⟨⟨l8,fr,z,a,λes he=>⟨es,h0 _ _ he,rfl⟩⟩,b,λid cs ay mn hid aE=>⟨cs,mn,by rw[c id hid];exact aE,rfl,λh=>h⟩⟩⟩
theorem KK.step{k s lo len:Nat}{cut:Bool}{x:IV}(h1:aL k=φ k)(h2:∀id cs ay mn,φ k=aa id->σ.at id=aa (.cells cs ay mn)->∃cz pX,ao.at id=aa (.cells cz ay pX)/\cz.length=cs.length/\(mn=ay->pX=ay))
 (h:KK φ σ k s cut lo len x):KK aL ao k s cut lo len x:=by
 rcases h with⟨a,b,c⟩|⟨id,cs,ay,mn,cap,a,b,c,d,e,f⟩
 ·exact .inl ⟨by rw[h1];exact a,b,c⟩
 ·obtain⟨cz,pX,g1,g2,g3⟩:=h2 id cs ay mn a b;exact .inr ⟨id,cz,ay,pX,cap,by rw[h1];exact a,g1,c,d,λx y=>by rw[g2];exact e x y,λc hc=>by rw[g2];exact⟨g3 (f c hc).1,(f c hc).2⟩⟩
theorem cI.step(hs:kO ev iv R φ L σ R' aL L' ao bad){x:IV}{c:Cl α}(bz:c.ok bad)(h:cI ev R φ L σ x c):cI iv R' aL L' ao x c:=by
 cases c with
 |un=>trivial
 |v z=>obtain⟨y,h1,h2⟩:=h;exact⟨y,hs.up _ _ h1,h2⟩
 |w fr z=>obtain⟨y,h1,h2,h3⟩:=h;exact⟨y,hs.up _ _ h1,h2.mono hs.grow,h3⟩
 |pt k off ext=>
  obtain⟨id,cs,h1,h2,h3⟩:=h;obtain⟨⟨cz,h4⟩,h5⟩:=hs.var k cs h2;exact⟨id,cz,by rw[h5];exact h1,h4,h3⟩
 |tp cs=>
  obtain⟨ds,h1,h2⟩:=h;exact⟨ds,h1,h2.mono λd c ⟨y,h3,h4⟩=>⟨y,hs.up _ _ h3,h4⟩⟩
 |tw fr cs=>
  obtain⟨h0,h|⟨id,off,ep,m,cJ,ay,mn,h1,h2,h3,h4,h5,h6,h7,h8⟩⟩:=h
  ·obtain⟨hf,ds,h1,h2⟩:=h;exact⟨λc hc=>(h0 c hc).imp λy hy=>⟨hs.up _ _ hy.1,hy.2⟩,.inl ⟨hf,ds,h1,h2.mono λd c ⟨y,h3,h4⟩=>⟨y,hs.up _ _ h3,h4⟩⟩⟩
  ·obtain⟨cz,iW,Po,hle,IX⟩:=hs.grow.keep id m cJ ay mn h1 h2;obtain⟨m',Pp,hmm⟩:=hs.grow.le id m h1;refine⟨λc hc=>(h0 c hc).imp λy hy=>⟨hs.up _ _ hy.1,hy.2⟩,.inr ⟨id,off,ep,m',cz,iW,mn,Pp,Po,h3,atd h4 hle,h5,by omega,hs.grow.fits id m' cz iW mn Pp Po,λj c d hd hc=>?_⟩⟩;have hj:=(asM.1 hd).1;rw[IX _ (by omega)]at hc;obtain⟨y,AZ,IY⟩:=h8 j c d hd hc;exact⟨y,hs.up _ _ AZ,IY.mono hs.grow⟩
 |sr k=>
  obtain⟨s,st,cut,fr,z,es,h1,he,h2⟩:=h;obtain⟨⟨l8,dg,z',h3,h6⟩,h4,h5⟩:=hs.row k _ _ _ _ _ h1 bz;obtain⟨aF,h7,h8⟩:=h6 es he;exact⟨s,l8,cut,dg,z',aF,h3,h7,h8▸h2.step h4 h5⟩
 |sv k lo=>
  obtain⟨s,st,cut,fr,z,es,y,n,h1,he,hy,hn,hl,h2⟩:=h;obtain⟨⟨l8,dg,z',h3,h6⟩,h4,h5⟩:=hs.row k _ _ _ _ _ h1 bz;obtain⟨aF,h7,h8⟩:=h6 es he;exact⟨s,l8,cut,dg,z',aF,y,n,h3,h7,hs.up _ _ hy,hn,by omega,h2.elim (λh2=>.inl (h8▸h2.step h4 h5)) (λh2=>.inr ⟨by omega,h2.2⟩)⟩
 |pr k i off ext=>
  obtain⟨s,st,cut,fr,z,es,y,n,id,cs,ay,mn,h1,he,hy,hn,hl,hx,h6,h7,h8⟩:=h;obtain⟨⟨l8,dg,z',h3,h9⟩,h4,h5⟩:=hs.row k _ _ _ _ _ h1 bz;obtain⟨aF,Ep,Dw⟩:=h9 es he;obtain⟨cz,pX,g1,g2,g3⟩:=h5 id cs ay mn h6 h7;exact⟨s,l8,cut,dg,z',aF,y,n,id,cz,ay,pX,h3,Ep,hs.up _ _ hy,hn,by omega,hx,by rw[h4];exact h6,g1,h8⟩
 |mp k=>
  obtain⟨id,kt,es,h1,h2,h3⟩:=h;obtain⟨⟨aF,h4⟩,h5⟩:=hs.map k kt es h2;exact⟨id,kt,aF,by rw[h5];exact h1,h4,h3⟩
 |nl b s=>exact h
 |fn f bs=>
  rcases h with h|⟨ys,h1,h2⟩
  ·exact .inl h
  ·refine .inr ⟨ys,h1,h2.mono λy p ⟨id,cs,h3,h4,h5⟩=>?_⟩;obtain⟨⟨cz,h6⟩,h7⟩:=hs.var p.1 cs h4;exact⟨id,cz,by rw[h7];exact h3,h6,h5⟩
def PV.ok(bad:Nat->Prop):PV α->Prop
 |.one c=>c.ok bad
 |.ag cs=>∀c∈cs,c.ok bad
 |.tu vs=>∀p∈vs,∀c∈p.2,c.ok bad
theorem VR.step(hs:kO ev iv R φ L σ R' aL L' ao bad){x:IV}{c:PV α}(bz:c.ok bad)(h:VR ev R φ L σ x c):VR iv R' aL L' ao x c:=by
 cases c with
 |one c=>exact cI.step hs bz h
 |ag cs=>
  obtain⟨xs,h1,h2⟩:=h;exact⟨xs,h1,h2.xL λa b hb bS=>cI.step hs (bz b hb) bS⟩
 |tu vs=>
  obtain⟨xs,h1,h2⟩:=h;refine⟨xs,h1,h2.xL λa p hp bS=>?_⟩;unfold tP at bS⊢;split at bS
  ·rename_i hb;rw[if_pos hb];obtain⟨ys,h3,h4⟩:=bS;exact⟨ys,h3,h4.xL λa b hb bS=>cI.step hs (bz p hp b hb) bS⟩
  ·rename_i hb;rw[if_neg hb];obtain⟨c,h3,h4⟩:=bS;exact⟨c,h3,cI.step hs (bz p hp c (by rw[h3];simp)) h4⟩
def LO.ok(bad:Nat->Prop):LO α->Prop
 |.var cs=>∀c∈cs,c.ok bad
 |_=>True
theorem OR.step(hs:kO ev iv R φ L σ R' aL L' ao bad){k:Nat}{o:LO α}(ll:aL k=φ k)(aE:∀id,φ k=aa id->ao.at id=σ.at id/\R' id=R id)(bz:o.ok bad)(h:OR ev R φ L σ k o):OR iv R' aL L' ao k o:=by
 cases o with
 |var cs=>
  obtain⟨id,cJ,h1,h2,h3,h4⟩:=h;obtain⟨h6,h7⟩:=aE id h1;exact⟨id,cJ,by rw[ll];exact h1,by rw[h7];exact h2,by rw[h6];exact h3,h4.xL λa b hb bS=>cI.step hs (bz b hb) bS⟩
 |row s st cut fr z=>
  obtain⟨h1,es,h2,h3,h4⟩:=h;refine⟨h1,es,hs.up _ _ h2,h3,?_⟩;rcases h4 with⟨h4,h5⟩|⟨id,cs,ay,mn,h4,h5,h6,h7,h8,h9,Ep⟩
  ·exact .inl ⟨by rw[ll];exact h4,h5⟩
  ·obtain⟨ha,hb⟩:=aE id h4;exact .inr ⟨id,cs,ay,mn,by rw[ll];exact h4,by rw[ha];exact h5,h6,h7,by rw[hb];exact h8,h9,λj x d hx hd=>(Ep j x d hx hd).mono hs.grow⟩
 |mp kt z=>
  rw[gR]at h⊢;by_cases hk:gI kt=ab
  ·rw[if_pos hk]at h⊢;rcases h with⟨h0,id,ba,p,h1,h2,h3,h4⟩|⟨h0,id,m,ds,seen,rem,rest,h1,h2,h3,⟨ma,z',h8⟩,h9,h4,h5⟩
   ·obtain⟨h6,h7⟩:=aE id h2;exact .inl ⟨h0,id,ba,p,hs.up _ _ h1,by rw[ll];exact h2,by rw[h7];exact h3,by rw[h6];exact h4⟩
   ·obtain⟨h6,h7⟩:=aE id h2;obtain⟨⟨aF,g1⟩,g2⟩:=hs.map _ _ _ h8;exact .inr ⟨h0,id,m,ds,seen,rem,rest,hs.up _ _ h1,by rw[ll];exact h2,by rw[h7];exact h3,⟨ma,aF,g1⟩,by rw[g2];exact h9,by rw[h6];exact h4,h5⟩
  ·rw[if_neg hk]at h⊢;obtain⟨id,es,clock,ds,h1,h2,h3,h4,h5⟩:=h;obtain⟨h6,h7⟩:=aE id h2;exact⟨id,es,clock,ds,hs.up _ _ h1,by rw[ll];exact h2,by rw[h7];exact h3,by rw[h6];exact h4,h5.1.mono λa d ⟨z,h8,h9⟩=>⟨z,h8,h9.mono hs.grow⟩,h5.2⟩
 |dead=>trivial
variable{Γ GX:Gm α}{E:Nat->Env}
def ri(E:Nat->Env)(d:Nat)(e:Env):Nat->Env:=λj=>if j=d then e else E j
@[simp] theorem cm(E:Nat->Env)(d:Nat)(e:Env):ri E d e d=e:=by simp[ri]
def BS(d t:Nat):List (Nat×Nat×PV α)->List (Nat×Nat×PV α)
 |[]=>[]
 |(d',t',pv)::g=>if(asW d d'&&asW t t')=ab then BS d t g else(d',t',pv)::BS d t g
theorem HF{d t d' t':Nat}{pv:PV α}:∀(g:List (Nat×Nat×PV α)),cA d' t' (BS d t g)=aa pv->¬(d'=d/\t'=t)/\cA d' t' g=aa pv:=by
 intro g;induction g with
 |nil=>intro h;cases h
 |cons p g ih=>
  obtain⟨a,b,q⟩:=p;intro h;unfold BS at h;split at h
  ·rename_i bS;simp only[asN,atv]at bS;obtain⟨h1,h2⟩:=ih h;refine⟨h1,?_⟩;unfold cA;rw[if_neg]
   ·exact h2
   ·simp only[asN,atv];rintro⟨rfl,rfl⟩;exact h1 ⟨bS.1.symm,bS.2.symm⟩
  ·rename_i bS;simp only[asN,atv]at bS;unfold cA at h⊢;split at h
   ·rename_i hc;rw[if_pos hc];simp only[asN,atv]at hc;obtain⟨rfl,rfl⟩:=hc;exact⟨λhh=>bS ⟨hh.1.symm,hh.2.symm⟩,h⟩
   ·rename_i hc;rw[if_neg hc];exact ih h
def Pq(d t:Nat)(pv:PV α)(g:List (Nat×Nat×PV α)):List (Nat×Nat×PV α):=(d,t,pv)::BS d t g
theorem nL{d t a b:Nat}{q pv:PV α}{g:List (Nat×Nat×PV α)}(h:cA d t ((a,b,q)::g)=aa pv):(d=a/\t=b/\pv=q)\/(¬(d=a/\t=b)/\cA d t g=aa pv):=by
 unfold cA at h;split at h
 ·rename_i hc;simp only[asN,atv]at hc;cases h;exact .inl ⟨hc.1,hc.2,rfl⟩
 ·rename_i hc;simp only[asN,atv]at hc;exact .inr ⟨hc,h⟩
theorem Dx(e:Env)(dst:Option Nat)(x:IV)(t:Nat)(h:dst≠aa t):(e.put dst x).at t=e.at t:=by
 cases dst with
 |none=>rfl
 |some d=>rw[Env.c_,if_neg (λhc=>h (by rw[hc.2]))]
theorem J.Wa(h:J ev R φ Γ L E σ)(d:Nat)(dst:Option Nat)(x:IV)(gl:∀t,dst=aa t->GX=BS d t Γ)(hn:dst=ah->GX=Γ):J ev R φ GX L (ri E d ((E d).put dst x)) σ:=by
 refine{h with slot:=λd' t' pv hg=>?_}
 have hold:¬(d'=d/\dst=aa t')/\cA d' t' Γ=aa pv:=by
  cases hd:dst with
  |none=>rw[hn hd]at hg;exact⟨λhh=>(by cases hh.2),hg⟩
  |some t=>
   rw[gl t hd]at hg;obtain⟨h1,h2⟩:=HF Γ hg;exact⟨λhh=>h1 ⟨hh.1,(by injection hh.2 with hh;exact hh.symm)⟩,h2⟩
 have:=h.slot d' t' pv hold.2;unfold ri;split
 ·rename_i hd;subst hd;rw[Dx _ _ _ _ (λhh=>hold.1 ⟨rfl,hh⟩)];exact this
 ·exact this
theorem J.put(h:J ev R φ Γ L E σ)(d:Nat){t:Nat}(ht:t<(E d).n){x:IV}{pv:PV α}(hx:VR ev R φ L σ x pv):J ev R φ (Pq d t pv Γ) L (ri E d ((E d).put (aa t) x)) σ:=by
 have hb:=h.Wa (GX:=BS d t Γ) d (aa t) x (λt' h=>by cases h;rfl) (λh=>by cases h);refine{hb with slot:=λd' t' Dy hg=>?_};rcases nL hg with⟨rfl,rfl,rfl⟩|⟨_,h2⟩
 ·rw[cm,Env.c_,if_pos ⟨ht,rfl⟩];exact hx
 ·exact hb.slot d' t' Dy h2
theorem J.less(h:J ev R φ Γ L E σ)(hs:∀d t pv,cA d t GX=aa pv->cA d t Γ=aa pv):J ev R φ GX L E σ:={h with slot:=λd t pv ht=>h.slot d t pv (hs d t pv ht)}
end Go.Ev
namespace Go.Ev
variable{P:Program}{σ ao:St}{R R':Rs}{φ aL:Ph}{α:Type}{ev iv:α->Option IV}{L L':List (LO α)}{bad:Nat->Prop}{Γ GX:Gm α}{E:Nat->Env}
theorem J.rJ(h:J ev R φ Γ L E σ):R σ.n=ah:=by
 cases hr:R σ.n with
 |none=>rfl
 |some m=>exact absurd (h.qU _ _ hr) (Nat.lt_irrefl _)
theorem dj{α:Type}{l:List α}{i:Nat}{a:α}(h:l[i]?=aa a):i<l.length:=(asM.1 h).1
def bX(φ:Ph)(k id:Nat):Ph:=λj=>if j=k then aa id else φ j
theorem Mu(h:J ev R φ Γ L E σ)(ob:Ob):ja R σ R (σ.add ob):=by
 refine⟨λ_ m h=>⟨m,h,asR _⟩,λid m cs ay mn hR aE=>⟨cs,ay,?_,asR _,λ_ _=>rfl⟩,λid m cs ay mn hR aE=>?_⟩
 ·have:=h.qU _ _ hR;rw[St.ie,if_neg (by omega)];exact aE
 ·have:=h.qU _ _ hR;rw[St.ie,if_neg (by omega)]at aE;exact h.fits _ _ _ _ _ hR aE
theorem FR(h:J ev R φ Γ L E σ)(ob:Ob)(lo:LO α):kO ev ev R φ L σ R (bX φ L.length σ.n) (L++[lo]) (σ.add ob) (λ_=>False):=by
 have hL:∀k o,L[k]?=aa o->(L++[lo])[k]?=aa o/\bX φ L.length σ.n k=φ k:=λk o hk=>by
  have:=dj hk;exact⟨by rw[asY this];exact hk,by simp[bX,show k≠L.length by omega]⟩
 refine .mk' (λ_ _ h=>h) (Mu h ob) (λk cs hk=>⟨⟨cs,(hL k _ hk).1⟩,(hL k _ hk).2⟩) (λk kt es hk=>⟨⟨es,(hL k _ hk).1⟩,(hL k _ hk).2⟩) (λk s st cut fr z hk _=>⟨⟨st,(hL k _ hk).1⟩,(hL k _ hk).2,λid hid=>?_⟩);have:=(h.lt _ _ hid).2;rw[St.ie,if_neg (by omega)]
theorem Cl.aZ(c:Cl α):c.ok (λ_=>False):=by cases c<;>simp[Cl.ok]
theorem PV.aZ(c:PV α):c.ok (λ_=>False):=by
 cases c with
 |one c=>exact c.aZ
 |ag cs=>exactλc _=>c.aZ
 |tu vs=>exactλ_ _ c _=>c.aZ
theorem LO.aZ(o:LO α):o.ok (λ_=>False):=by
 cases o with
 |var cs=>exactλc _=>c.aZ
 |_=>trivial
theorem J.yv(h:J ev R φ Γ L E σ)(ob:Ob)(lo:LO α)(ho:OR ev R (bX φ L.length σ.n) (L++[lo]) (σ.add ob) L.length lo):J ev R (bX φ L.length σ.n) Γ (L++[lo]) E (σ.add ob):=by
 have hs:=FR h ob lo;refine⟨λd t pv hg=>(h.slot d t pv hg).step hs pv.aZ,λk o hk=>?_,λk k' id h1 h2=>?_,λk id hk=>?_,λid m hR=>?_,hs.grow.fits,h.wf.set _ _,λid hid=>?_⟩
 ·by_cases py:k<L.length
  ·rw[asY py]at hk;refine(h.obj k o hk).step hs (by simp[bX,show k≠L.length by omega]) (λid hid=>⟨?_,rfl⟩) o.aZ;have:=(h.lt _ _ hid).2;rw[St.ie,if_neg (by omega)]
  ·have:k=L.length:=by have:=dj hk;simp at this;omega
   subst this;simp at hk;subst hk;exact ho
 ·unfold bX at h1 h2;split at h1<;>split at h2
  ·omega
  ·cases h1;have:=(h.lt _ _ h2).2;omega
  ·cases h2;have:=(h.lt _ _ h1).2;omega
  ·exact h.inj k k' id h1 h2
 ·unfold bX at hk;split at hk
  ·cases hk;simp[St.add];omega
  ·have:=h.lt _ _ hk;simp[St.add];omega
 ·have:=h.qU _ _ hR;simp[St.add];omega
 ·have jj:σ.n+1<=id:=hid;rw[St.ie,if_neg (by omega)];exact h.top id (by omega)
theorem J.up(h:J ev R φ Γ L E σ)(eB:∀e z,ev e=aa z->iv e=aa z):J iv R φ Γ L E σ:=by
 have hs:kO ev iv R φ L σ R φ L σ (λ_=>False):=(.mk' eB (ja.refl h.fits) (λk cs hk=>⟨⟨cs,hk⟩,rfl⟩) (λk kt es hk=>⟨⟨es,hk⟩,rfl⟩) (λk s st cut fr z hk _=>⟨⟨st,hk⟩,rfl,λ_ _=>rfl⟩));exact{h with slot:=λd t pv hg=>(h.slot d t pv hg).step hs pv.aZ,obj:=λk o hk=>(h.obj k o hk).step hs rfl (λ_ _=>⟨rfl,rfl⟩) o.aZ}
theorem VR.up{x:IV}{pv:PV α}(h:J ev R φ Γ L E σ)(hx:VR ev R φ L σ x pv)(eB:∀e z,ev e=aa z->iv e=aa z):VR iv R φ L σ x pv:=
 hx.step (bad:=λ_=>False) (.mk' eB (ja.refl h.fits) (λk cs hk=>⟨⟨cs,hk⟩,rfl⟩) (λk kt es hk=>⟨⟨es,hk⟩,rfl⟩) (λk s st cut fr z hk _=>⟨⟨st,hk⟩,rfl,λ_ _=>rfl⟩)) pv.aZ
def Cl.drop(k:Nat):Cl α->Cl α
 |.sr k'=>if asW k' k=ab then .un else .sr k'
 |.sv k' lo=>if asW k' k=ab then .un else .sv k' lo
 |.pr k' i off ext=>if asW k' k=ab then .un else .pr k' i off ext
 |c=>c
def PV.drop(k:Nat):PV α->PV α
 |.one c=>.one (c.drop k)
 |.ag cs=>.ag (cs.map (Cl.drop k))
 |.tu vs=>.tu (vs.map λp=>(p.1,p.2.map (Cl.drop k)))
def LO.drop(k:Nat):LO α->LO α
 |.var cs=>.var (cs.map (Cl.drop k))
 |o=>o
def IZ(k:Nat):List (Nat×Nat×PV α)->List (Nat×Nat×PV α)
 |[]=>[]
 |(d,t,pv)::g=>(d,t,pv.drop k)::IZ k g
theorem Cl.nc(k:Nat)(c:Cl α):(c.drop k).ok (·=k):=by
 cases c<;>simp only[Cl.drop]<;>first|trivial|(split<;>first|trivial|(rename_i hh;simpa[Cl.ok,atv]using hh))
theorem PV.nc(k:Nat)(c:PV α):(c.drop k).ok (·=k):=by
 cases c with
 |one c=>exact c.nc k
 |ag cs=>intro c hc;simp at hc;obtain⟨a,_,rfl⟩:=hc;exact a.nc k
 |tu vs=>intro p hp c hc;obtain⟨q,_,rfl⟩:=List.mem_map.1 hp;simp at hc;obtain⟨a,_,rfl⟩:=hc;exact a.nc k
theorem LO.nc(k:Nat)(o:LO α):(o.drop k).ok (·=k):=by
 cases o with
 |var cs=>intro c hc;simp at hc;obtain⟨a,_,rfl⟩:=hc;exact a.nc k
 |_=>trivial
theorem cI.drop{x:IV}{c:Cl α}(k:Nat)(h:cI ev R φ L σ x c):cI ev R φ L σ x (c.drop k):=by
 cases c<;>simp only[Cl.drop]<;>first|exact h|(split<;>first|trivial|exact h)
theorem VR.drop{x:IV}{c:PV α}(k:Nat)(h:VR ev R φ L σ x c):VR ev R φ L σ x (c.drop k):=by
 cases c with
 |one c=>exact cI.drop k h
 |ag cs=>
  obtain⟨xs,h1,h2⟩:=h;exact⟨xs,h1,h2.map λa b bS=>bS.drop k⟩
 |tu vs=>
  obtain⟨xs,h1,h2⟩:=h;refine⟨xs,h1,h2.map λa p bS=>?_⟩;unfold tP at bS⊢;split at bS
  ·rename_i hb;rw[if_pos hb];obtain⟨ys,h3,h4⟩:=bS;exact⟨ys,h3,h4.map λa b bS=>bS.drop k⟩
  ·rename_i hb;rw[if_neg hb];obtain⟨c,h3,h4⟩:=bS;exact⟨c.drop k,by simp[h3],h4.drop k⟩
theorem HG(h:J ev R φ Γ L E σ)(k:Nat):kO ev ev R φ L σ R φ (L.map (LO.drop k)) σ (λ_=>False):=by
 refine .mk' (λ_ _ h=>h) (ja.refl h.fits) (λj cs hj=>⟨⟨cs.map (Cl.drop k),?_⟩,rfl⟩) (λj kt es hj=>⟨⟨es,?_⟩,rfl⟩) (λj s st cut fr z hj _=>⟨⟨st,?_⟩,rfl,λ_ _=>rfl⟩)<;>simp[as4,hj,LO.drop]
theorem Er{d t k:Nat}{pv:PV α}:∀(g:Gm α),cA d t (IZ k g)=aa pv->∃q,cA d t g=aa q/\pv=q.drop k:=by
 intro g;induction g with
 |nil=>intro h;cases h
 |cons p g ih=>
  obtain⟨a,b,q⟩:=p;intro h;rcases nL h with⟨rfl,rfl,rfl⟩|⟨h1,h2⟩
  ·exact⟨q,by simp[cA],rfl⟩
  ·obtain⟨q',h3,h4⟩:=ih h2;refine⟨q',?_,h4⟩;unfold cA;rw[if_neg]
   ·exact h3
   ·simpa[atv]using h1
theorem J.Wb(h:J ev R φ Γ L E σ)(k:Nat):J ev R φ (IZ k Γ) (L.map (LO.drop k)) E σ:=by
 have hs:=HG h k;refine{h with slot:=λd t pv hg=>?_,obj:=λj o hj=>?_,lt:=λj id hj=>by simpa using h.lt j id hj}
 ·obtain⟨q,h1,rfl⟩:=Er Γ hg;exact((h.slot d t q h1).drop k).step hs (PV.aZ _)
 ·rw[as4]at hj;obtain⟨o',h1,rfl⟩:=asS.1 hj;have ho:=(h.obj j o' h1).step hs rfl (λ_ _=>⟨rfl,rfl⟩) (LO.aZ _);cases o' with
  |var cs=>
   obtain⟨id,cJ,a,b,c,d⟩:=ho;exact⟨id,cJ,a,b,c,d.map λ_ _ bS=>bS.drop k⟩
  |row=>exact ho
  |mp=>exact ho
  |dead=>exact ho
theorem J.tQ(h:J ev R φ Γ L E σ){k id:Nat}{lo kj:LO α}{eT:Ob}(hid:φ k=aa id)(hk:L[k]?=aa lo)(hR:∀j,j≠id->R' j=R j)
 (hle:∀m,R id=aa m->∃m',R' id=aa m'/\m<=m')
 (IX:∀m cs ay mn,R id=aa m->σ.at id=aa (.cells cs ay mn)->∃cz iW,eT=.cells cz iW mn/\ay<=iW/\∀j,j<m->cz[j]?=cs[j]?)
 (xf:∀m cs ay mn,R' id=aa m->eT=.cells cs ay mn->m<=cs.length)
 (hv:∀cs,lo=.var cs->∃cz,kj=.var cz)(hm:∀kt es,lo=.mp kt es->∃aF,kj=.mp kt aF)(hr:∀s st cut fr z,lo=.row s st cut fr z->bad k)
 (Mv:∀d t pv,cA d t Γ=aa pv->pv.ok bad)(hL:∀j o,L[j]?=aa o->j≠k->o.ok bad)
 (ho:kO ev ev R φ L σ R' φ (L.set k kj) (σ.put id eT) bad->OR ev R' φ (L.set k kj) (σ.put id eT) k kj):
 kO ev ev R φ L σ R' φ (L.set k kj) (σ.put id eT) bad/\J ev R' φ Γ (L.set k kj) E (σ.put id eT):=by
 have py:=dj hk;have aW:∀j,j≠k->(L.set k kj)[j]?=L[j]? :=λj hj=>avT (λhc=>hj hc.symm);have bj:(L.set k kj)[k]?=aa kj:=by simp[py]
 have KL:∀j bB,j≠k->φ j=aa bB->bB≠id:=λj bB hj fZ hc=>hj (h.inj j k id (by rw[<-hc];exact fZ) hid)
 have qw:ja R σ R' (σ.put id eT):=by
  refine⟨λbB m hm=>?_,λbB m cs ay mn hm aE=>?_,λbB m cs ay mn hm aE=>?_⟩
  ·by_cases hc:bB=id
   ·subst hc;exact hle m hm
   ·exact⟨m,by rw[hR bB hc];exact hm,asR _⟩
  ·by_cases hc:bB=id
   ·subst hc;obtain⟨cz,iW,h1,h2,h3⟩:=IX m cs ay mn hm aE;exact⟨cz,iW,by rw[St.c_,if_pos rfl,h1],h2,h3⟩
   ·exact⟨cs,ay,by rw[St.c_,if_neg (λhh=>hc hh.symm)];exact aE,asR _,λ_ _=>rfl⟩
  ·by_cases hc:bB=id
   ·subst hc;rw[St.c_,if_pos rfl]at aE;exact xf m cs ay mn hm (by injection aE)
   ·rw[St.c_,if_neg (λhh=>hc hh.symm)]at aE;exact h.fits bB m cs ay mn (by rw[<-hR bB hc];exact hm) aE
 have hs:kO ev ev R φ L σ R' φ (L.set k kj) (σ.put id eT) bad:=by
  refine .mk' (λ_ _ h=>h) qw (λj cs hj=>?_) (λj kt es hj=>?_) (λj s st cut fr z hj hb=>?_)
  ·by_cases bI:j=k
   ·subst bI;rw[hk]at hj;injection hj with hj
    obtain⟨cz,h1⟩:=hv cs hj;exact⟨⟨cz,by rw[bj,h1]⟩,rfl⟩
   ·exact⟨⟨cs,by rw[aW j bI];exact hj⟩,rfl⟩
  ·by_cases bI:j=k
   ·subst bI;rw[hk]at hj;injection hj with hj
    obtain⟨cz,h1⟩:=hm kt es hj;exact⟨⟨cz,by rw[bj,h1]⟩,rfl⟩
   ·exact⟨⟨es,by rw[aW j bI];exact hj⟩,rfl⟩
  ·by_cases bI:j=k
   ·subst bI;rw[hk]at hj;injection hj with hj
    exact absurd (hr _ _ _ _ _ hj) hb
   ·exact⟨⟨st,by rw[aW j bI];exact hj⟩,rfl,λbB jj=>by rw[St.c_,if_neg (λhc=>KL j bB bI jj hc.symm)]⟩
 refine⟨hs,⟨λd t pv hg=>(h.slot d t pv hg).step hs (Mv d t pv hg),λj o hj=>?_,h.inj,λj bB hj=>by simpa[St.put]using h.lt j bB hj,λbB m hm=>?_,qw.fits,h.wf.set _ _,λbB jj=>?_⟩⟩
 ·by_cases bI:j=k
  ·subst bI;rw[bj]at hj;cases hj;exact ho hs
  ·rw[aW j bI]at hj;exact(h.obj j o hj).step hs rfl (λbB jj=>⟨by rw[St.c_,if_neg (λhc=>KL j bB bI jj hc.symm)],hR _ (KL j bB bI jj)⟩) (hL j o hj bI)
 ·by_cases hc:bB=id
  ·subst hc;exact(h.lt _ _ hid).2
  ·rw[hR bB hc]at hm;exact h.qU _ _ hm
 ·have:=(h.lt _ _ hid).2;have Oc:σ.n<=bB:=jj;rw[St.c_,if_neg (by omega)];exact h.top bB Oc
theorem J.agD(h:J ev R φ Γ L E σ){k:Nat}{lo kj:LO α}{eT:Ob}(hk:L[k]?=aa lo)(hR:∀j,j≠σ.n->R' j=R j)
 (xf:∀m cs ay mn,R' σ.n=aa m->eT=.cells cs ay mn->m<=cs.length)
 (hr:∃s st cut fr z,lo=.row s st cut fr z)(hb:bad k)
 (Mv:∀d t pv,cA d t Γ=aa pv->pv.ok bad)(hL:∀j o,L[j]?=aa o->j≠k->o.ok bad)
 (ho:kO ev ev R φ L σ R' (bX φ k σ.n) (L.set k kj) (σ.add eT) bad->OR ev R' (bX φ k σ.n) (L.set k kj) (σ.add eT) k kj):
 kO ev ev R φ L σ R' (bX φ k σ.n) (L.set k kj) (σ.add eT) bad/\J ev R' (bX φ k σ.n) Γ (L.set k kj) E (σ.add eT):=by
 have py:=dj hk;have aW:∀j,j≠k->(L.set k kj)[j]?=L[j]? :=λj hj=>avT (λhc=>hj hc.symm);have bj:(L.set k kj)[k]?=aa kj:=by simp[py]
 have ll:∀j,j≠k->bX φ k σ.n j=φ j:=λj hj=>by simp[bX,hj]
 have qw:ja R σ R' (σ.add eT):=by
  refine⟨λbB m hm=>?_,λbB m cs ay mn hm aE=>?_,λbB m cs ay mn hm aE=>?_⟩
  ·have:=h.qU _ _ hm;exact⟨m,by rw[hR bB (by omega)];exact hm,asR _⟩
  ·have:=h.qU _ _ hm;exact⟨cs,ay,by rw[St.ie,if_neg (by omega)];exact aE,asR _,λ_ _=>rfl⟩
  ·by_cases hc:bB=σ.n
   ·subst hc;rw[St.ie,if_pos rfl]at aE;exact xf m cs ay mn hm (by injection aE)
   ·rw[St.ie,if_neg (λhh=>hc hh.symm)]at aE;exact h.fits bB m cs ay mn (by rw[<-hR bB hc];exact hm) aE
 have hs:kO ev ev R φ L σ R' (bX φ k σ.n) (L.set k kj) (σ.add eT) bad:=by
  obtain⟨s,st,cut,fr,z,rfl⟩:=hr;refine .mk' (λ_ _ h=>h) qw (λj cs hj=>?_) (λj kt es hj=>?_) (λj s st cut fr z hj sJ=>?_)
  ·by_cases bI:j=k
   ·subst bI;rw[hk]at hj;cases hj
   ·exact⟨⟨cs,by rw[aW j bI];exact hj⟩,ll j bI⟩
  ·by_cases bI:j=k
   ·subst bI;rw[hk]at hj;cases hj
   ·exact⟨⟨es,by rw[aW j bI];exact hj⟩,ll j bI⟩
  ·by_cases bI:j=k
   ·subst bI;exact absurd hb sJ
   ·exact⟨⟨st,by rw[aW j bI];exact hj⟩,ll j bI,λbB jj=>by have:=(h.lt _ _ jj).2;rw[St.ie,if_neg (by omega)]⟩
 refine⟨hs,⟨λd t pv hg=>(h.slot d t pv hg).step hs (Mv d t pv hg),λj o hj=>?_,λj j' bB h1 h2=>?_,λj bB hj=>?_,λbB m hm=>?_,qw.fits,h.wf.set _ _,λbB jj=>?_⟩⟩
 ·by_cases bI:j=k
  ·subst bI;rw[bj]at hj;cases hj;exact ho hs
  ·rw[aW j bI]at hj;refine(h.obj j o hj).step hs (ll j bI) (λbB jj=>?_) (hL j o hj bI);have:=(h.lt _ _ jj).2;exact⟨by rw[St.ie,if_neg (by omega)],hR _ (by omega)⟩
 ·unfold bX at h1 h2;split at h1<;>split at h2
  ·omega
  ·cases h1;have:=(h.lt _ _ h2).2;omega
  ·cases h2;have:=(h.lt _ _ h1).2;omega
  ·exact h.inj j j' bB h1 h2
 ·unfold bX at hj;split at hj
  ·cases hj;rename_i hh;subst hh;simp[St.add];omega
  ·have:=h.lt _ _ hj;simp[St.add];omega
 ·by_cases hc:bB=σ.n
  ·simp[St.add];omega
  ·rw[hR bB hc]at hm;have:=h.qU _ _ hm;simp[St.add];omega
 ·have Oc:σ.n+1<=bB:=jj;rw[St.ie,if_neg (by omega)];exact h.top bB (by omega)
end Go.Ev
namespace Go.Ev
variable{P:Program}{N:Nat}{ι:Io}{w:World}{σ ao:St}{e:Env}{rd:Option Nat}{fn:FuncId}{df:List Df}
abbrev kc:=Ex->Env->St->Prop
def dL(P:Program)(N:Nat)(rd:Option Nat)(c:Code)(e:Env)(df:List Df)(σ:St)(CW:kc):Prop:=
 ∀F ι a w Q,kM F rd ι->Inv N ι σ w->di ι e a.tmps->ki ι df a.defers->(∀ex e' ao,CW ex e' ao->nU N 0 ι w σ ⟨ex,e',df,ao⟩ Q)->c.wpIn F 0 P Q a w
def oX(P:Program)(N:Nat)(rd:Option Nat)(j:Nat)(c:Code)(e:Env)(df:List Df)(σ:St)(CW:kc):Prop:=
 ∀F ι a w Q,kM F rd ι->Inv N ι σ w->di ι e a.tmps->ki ι df a.defers->(∀ex e' ao,CW ex e' ao->nU N 0 ι w σ ⟨ex,e',df,ao⟩ Q)->Code.roundsIn F 0 P c Q j a w
def dx(P:Program)(N:Nat)(rd:Option Nat)(ops:Array Oper)(l:List Oper)(e:Env)(df:List Df)(σ:St)(CW:kc):Prop:=
 ∀F ι a w Q k,ops.toList.drop k=l->kM F rd ι->Inv N ι σ w->di ι e a.tmps->ki ι df a.defers->(∀ex e' ao,CW ex e' ao->nU N 0 ι w σ ⟨ex,e',df,ao⟩ Q)->
  wpOpsIn F 0 P ops Q (avb k l.length) a w
def dQ(P:Program)(N:Nat)(f:FuncId)(args:List IV)(σ:St)(RW:IV->St->Prop):Prop:=
 ∀ι us w,Inv N ι σ w->aB ι args us->CallsIn ato 0 P f us.toArray w (λed w'=>∃v ao,RW v ao/\w9 N 0 ι w σ v ao ed w')
variable{CW CW':kc}
theorem yw{ex:Ex}{a:Act}{Q:Exit->Act->World->Prop}(hi:Inv N ι σ w)(he:di ι e a.tmps)(hd:ki ι df a.defers)(hQ:nU N 0 ι w σ ⟨ex,e,df,σ⟩ Q)(hp:VW ι [] ex):Q (Hu [] ex) a w:=
 hQ a w ι [] hi (Le.refl _ _ _ _) he hd hp
theorem dL.skip(h:CW .normal e σ):dL P N rd .skip e df σ CW:=
 λ_ ι a w _ _ hi he hd hQ=>wpIn_skip (yw hi he hd (hQ _ _ _ h) trivial)
theorem dL.label{l:Nat}(h:CW .normal e σ):dL P N rd (.label l) e df σ CW:=
 λ_ ι a w _ _ hi he hd hQ=>wpIn_label (yw hi he hd (hQ _ _ _ h) trivial)
theorem dL.exit{id:Nat}(h:CW (.exit id) e σ):dL P N rd (.exit id) e df σ CW:=
 λ_ ι a w _ _ hi he hd hQ=>wpIn_exit (yw hi he hd (hQ _ _ _ h) trivial)
theorem dL.ret(h:CW .ret e σ):dL P N rd .ret e df σ CW:=
 λ_ ι a w _ _ hi he hd hQ=>wpIn_ret (yw hi he hd (hQ _ _ _ h) trivial)
def wm(N:Nat)(next:Env->St->Prop)(CW:kc):kc:=λex e1 aq=>aq.n<=N/\(ex=.normal->next e1 aq)/\(ex≠.normal->CW ex e1 aq)
theorem dL.seq{x y:Code}(h:dL P N rd x e df σ (wm N (λe1 aq=>dL P N rd y e1 df aq CW) CW)):dL P N rd (.seq x y) e df σ CW:=by
 intro F ι a w Q hF hi he hd hQ;refine wpIn_seq (h F ι a w _ hF hi he hd λex e1 aq hc=>?_);obtain⟨hn,h1,h2⟩:=hc;intro a1 w1 cq fc i1 l1 dc d1 p1;cases ex with
 |normal=>
  refine h1 rfl F cq a1 w1 Q (hF.mono l1.ext) i1 dc d1 λex e' ao hc=>(hQ ex e' ao hc).from hi l1 hn
 |exit id=>exact hQ _ _ _ (h2 (by simp)) a1 w1 cq fc i1 l1 dc d1 p1
 |goto l=>exact hQ _ _ _ (h2 (by simp)) a1 w1 cq fc i1 l1 dc d1 p1
 |ret=>exact hQ _ _ _ (h2 (by simp)) a1 w1 cq fc i1 l1 dc d1 p1
 |b_ v=>exact hQ _ _ _ (h2 (by simp)) a1 w1 cq fc i1 l1 dc d1 p1
theorem dL.cond{c:Operand}{x y:Code}{t:Bool}(hc:ax e c=.raw (.bool t))(h:dL P N rd (if t then x else y) e df σ CW):dL P N rd (.cond c x y) e df σ CW:=
 λF ι a w Q hF hi he hd hQ=>wpIn_cond (Hv hc (he.eval c)) (h F ι a w Q hF hi he hd hQ)
theorem dL.block{id:Nat}{x:Code}(h:dL P N rd x e df σ (λex e1 aq=>CW (match ex with|.exit i=>if i=id then .normal else .exit i|ex=>ex) e1 aq)):dL P N rd (.block id x) e df σ CW:=by
 intro F ι a w Q hF hi he hd hQ;refine wpIn_block (h F ι a w _ hF hi he hd λex e1 aq hc=>?_);intro a1 w1 cq fc i1 l1 dc d1 p1;cases ex with
 |exit i=>
  simp only[Hu,Exit.inBlock];simp only at hc;split
  ·rename_i hh;rw[if_pos hh]at hc;exact hQ _ _ _ hc a1 w1 cq fc i1 l1 dc d1 trivial
  ·rename_i hh;rw[if_neg hh]at hc;exact hQ _ _ _ hc a1 w1 cq fc i1 l1 dc d1 trivial
 |normal=>exact hQ _ _ _ hc a1 w1 cq fc i1 l1 dc d1 p1
 |goto l=>exact hQ _ _ _ hc a1 w1 cq fc i1 l1 dc d1 p1
 |ret=>exact hQ _ _ _ hc a1 w1 cq fc i1 l1 dc d1 p1
 |b_ v=>exact hQ _ _ _ hc a1 w1 cq fc i1 l1 dc d1 p1
theorem dL.scope{x:Code}(h:dL P N rd x e df σ (λex e1 aq=>(∀l,ex≠.goto l)/\CW ex e1 aq)):dL P N rd (.scope x) e df σ CW:=by
 intro F ι a w Q hF hi he hd hQ;refine IK (h F ι a w _ hF hi he hd λex e1 aq hc=>?_);obtain⟨hx,hc⟩:=hc;intro a1 w1 cq fc i1 l1 dc d1 p1;have:=hQ _ _ _ hc a1 w1 cq fc i1 l1 dc d1 p1;cases hh:ex<;>rw[hh]at this<;>first|exact absurd hh (hx _)|exact this
theorem oX.succ{x:Code}{j:Nat}(h:dL P N rd x e df σ (wm N (λe1 aq=>oX P N rd j x e1 df aq CW) CW)):oX P N rd (j+1) x e df σ CW:=by
 intro F ι a w Q hF hi he hd hQ;rw[roundsIn_succ];refine h F ι a w _ hF hi he hd λex e1 aq hc=>?_;obtain⟨hn,h1,h2⟩:=hc;intro a1 w1 cq fc i1 l1 dc d1 p1;cases ex with
 |normal=>
  refine h1 rfl F cq a1 w1 Q (hF.mono l1.ext) i1 dc d1 λex e' ao hc=>(hQ ex e' ao hc).from hi l1 hn
 |exit id=>exact hQ _ _ _ (h2 (by simp)) a1 w1 cq fc i1 l1 dc d1 p1
 |goto l=>exact hQ _ _ _ (h2 (by simp)) a1 w1 cq fc i1 l1 dc d1 p1
 |ret=>exact hQ _ _ _ (h2 (by simp)) a1 w1 cq fc i1 l1 dc d1 p1
 |b_ v=>exact hQ _ _ _ (h2 (by simp)) a1 w1 cq fc i1 l1 dc d1 p1
theorem dL.loop{x:Code}{j:Nat}(h:oX P N rd j x e df σ CW):dL P N rd (.loop x) e df σ CW:=
 λF ι a w Q hF hi he hd hQ=>wpIn_loop_rounds j (h F ι a w Q hF hi he hd hQ)
theorem dL.region{id:Nat}{ops:Array Oper}(h:dx P N rd ops ops.toList e df σ CW):dL P N rd (.region id ops af) e df σ CW:=by
 intro F ι a w Q hF hi he hd hQ;refine wpIn_region ?_;have:=h F ι a w Q 0 (by simp) hF hi he hd hQ;rw[List.range_eq_range'];simpa using this
theorem dL.I0{c:Code}{cr:CR}(h:fP P 0 rd fn c e df σ cr)(hdf:cr.df=df)(hn:cr.σ.n<=N)(hc:CW cr.ex cr.e cr.σ):dL P N rd c e df σ CW:=by
 intro F ι a w Q hF hi he hd hQ;refine h.wp hn hF hi he hd ?_;have:=hQ _ _ _ hc;rw[<-hdf]at this;exact this
variable{ops:Array Oper}{o:Oper}{l:List Oper}
theorem dx.nil(h:CW .normal e σ):dx P N rd ops [] e df σ CW:=
 λ_ ι a w _ _ _ _ hi he hd hQ=>yw hi he hd (hQ _ _ _ h) trivial
theorem dx.cons(hw:aQ o ops e=ab)
 (h:∀F ι a w Q k,ops.toList.drop (k+1)=l->kM F rd ι->Inv N ι σ w->di ι e a.tmps->ki ι df a.defers->(∀ex e' ao,CW ex e' ao->nU N 0 ι w σ ⟨ex,e',df,ao⟩ Q)->
  o.wpIn F 0 P a w (wpOpsIn F 0 P ops Q (avb (k+1) l.length)) Q):dx P N rd ops (o::l) e df σ CW:=by
 intro F ι a w Q k hl hF hi he hd hQ
 have gr:ops.toList.drop (k+1)=l:=by
  rw[<-avu (i:=1) (j:=k),hl];rfl
 have bz:ops[k]?=aa o:=by
  have:(ops.toList.drop k)[0]?=aa o:=by rw[hl];rfl
  simpa using this
 simp only[atG,awr];rw[wpOpsIn_cons];unfold wpOpIn;rw[bz];simp only;rw[sN he,if_pos hw];exact h F ι a w Q k gr hF hi he hd hQ
theorem dx.skip(hw:aQ o ops e=af)(h:dx P N rd ops l (e.put o.dst .undef) df σ CW):dx P N rd ops (o::l) e df σ CW:=by
 intro F ι a w Q k hl hF hi he hd hQ
 have gr:ops.toList.drop (k+1)=l:=by
  rw[<-avu (i:=1) (j:=k),hl];rfl
 have bz:ops[k]?=aa o:=by
  have:(ops.toList.drop k)[0]?=aa o:=by rw[hl];rfl
  simpa using this
 simp only[atG,awr];rw[wpOpsIn_cons];unfold wpOpIn;rw[bz];simp only;rw[sN he,hw,if_neg (by simp)];exact⟨λf _=>hF.fn f,h F ι _ w Q (k+1) gr hF hi (he.put sj _) (by cases o.dst<;>exact hd) hQ⟩
theorem dx.val{v:IV}{aq:St}(hw:aQ o ops e=ab)(hv:av P 0 (ax e) o σ=aa (.val v aq))(hn:aq.n<=N)(h:dx P N rd ops l (e.put o.dst v) df aq CW):dx P N rd ops (o::l) e df σ CW:=by
 refine .cons hw λF ι a w Q k hl hF hi he hd hQ=>?_;refine⟨λf _=>hF.fn f,?_⟩;rw[auC _ _ _ (iu hv (by simp))];obtain⟨u,w',aG,hr,h2,h3,h4⟩:=pq hi he.eval hv hn
 have key:wpOpsIn F 0 P ops Q (avb (k+1) l.length) (a.put o.dst u) w':=
  h F aG _ w' Q (k+1) hl (hF.mono h4.ext) h3 ((he.mono h4.ext).put h2 _) (hd.mono h4.ext|>λx=>by cases o.dst<;>exact x) (λex e' ao hc=>(hQ ex e' ao hc).from hi h4 hn)
 rcases hr with hr|⟨hr,rfl⟩
 ·rw[hr,av8];exact key
 ·rw[hr,Oper.uponIn_skip];exact key
theorem dx.call{f:FuncId}{args:List IV}{RW:IV->St->Prop}(hw:aQ o ops e=ab)(hv:av P 0 (ax e) o σ=aa (.enter f args))(hc:dQ P N f args σ RW)
 (h:∀v aq,RW v aq->aq.n<=N/\dx P N rd ops l (e.put o.dst v) df aq CW):dx P N rd ops (o::l) e df σ CW:=by
 refine .cons hw λF ι a w Q k hl hF hi he hd hQ=>?_;refine⟨λf _=>hF.fn f,?_⟩;rw[auC _ _ _ (iu hv (by simp))];obtain⟨us,hr,h3⟩:=pq hi he.eval hv;rw[hr,awh];refine⟨hF.depth,(hF.calls (hc ι us w hi h3)).mono λed w' hR=>?_⟩;obtain⟨v,aq,rK,hR⟩:=hR;obtain⟨hn,h⟩:=h v aq rK;cases ed with
 |returned u=>
  obtain⟨aG,h2,h3,h4⟩:=hR;exact h F aG _ w' Q (k+1) hl (hF.mono h4.ext) h3 ((he.mono h4.ext).put h2 _) (hd.mono h4.ext|>λx=>by cases o.dst<;>exact x) (λex e' ao hc=>(hQ ex e' ao hc).from hi h4 hn)
 |outgrown=>exact hR.elim
 |panicked chain=>exact hR.elim
theorem dQ.I0{f:FuncId}{args:List IV}{v:IV}(h:gP P 0 f args σ v ao)(hn:ao.n<=N):dQ P N f args σ (λv1 aq=>v1=v/\aq=ao):=
 λι us w hi hr=>(h.2 N hn ι us w hi hr).mono λed w' hR=>⟨v,ao,⟨rfl,rfl⟩,hR⟩
theorem dQ.body{f:FuncId}{fn:Func}{c:Code}{args:List IV}{RW:IV->St->Prop}(bV:P.funcs[f]?=aa fn)(hb:fn.body=aa c)(hlen:args.length<=fn.ntmps)
 (h:dL P N ah c (cO args fn.ntmps) [] σ (λex e1 aq=>(ex=.normal\/ex=.ret)/\aq.n<=N/\∃v,bJ P fn e1 aq=aa v/\RW v aq)):dQ P N f args σ RW:=by
 intro ι us w hi hr;refine callsIn_of_wp_marks bV hb trivial ?_;refine h ato ι {tmps:=us.toArray++aub (fn.ntmps- us.toArray.size) Go.undef,defers:=[]} w _ (.inl ⟨rfl,rfl⟩) hi (yp hr hlen) trivial λex e1 aq hc=>?_;obtain⟨hex,hn,v,hv,rK⟩:=hc;intro a1 w1 cq fc i1 l1 dc d1 p1
 have:∀u,px cq ah u->LeavesInM ato 0 P fn a1.tmps (λed w'=>∃v ao,RW v ao/\w9 N 0 ι w σ v ao ed w') a1.defers u w1:=λu hu=>
  sn (S:=Self.none) (ro:=0) (sP (P:=P)).1 (sP (P:=P)).2 rfl d1 hu i1 hn λw2 pj u2 i2 l2 rF=>by
   rw[show u2=_ from rF];obtain⟨u,k1,k2⟩:=tE hv i2 (dc.mono l2.ext);exact⟨u,k1,v,aq,rK,pj,k2,i2,Le.then hi hn l1 l2⟩
 rcases hex with rfl|rfl
 ·exact this _ rfl
 ·exact this _ rfl
def xg(P:Program)(N:Nat)(f:FuncId)(args:List IV)(σ:St)(RW PW:IV->St->Prop):Prop:=
 ∀ι us w,Inv N ι σ w->aB ι args us->CallsIn ato 0 P f us.toArray w (λed w'=>(∃v ao,RW v ao/\w9 N 0 ι w σ v ao ed w')\/(∃v ao,PW v ao/\N8 N 0 ι w σ v ao ed w'))
theorem dQ.toX{f:FuncId}{args:List IV}{RW PW:IV->St->Prop}(h:dQ P N f args σ RW):xg P N f args σ RW PW:=
 λι us w hi hr=>(h ι us w hi hr).mono λ_ _ hR=>.inl hR
theorem dx.panic{v:IV}(hw:aQ o ops e=ab)(hv:av P 0 (ax e) o σ=aa (.b_ v))(h:CW (.b_ v) e σ):dx P N rd ops (o::l) e df σ CW:=by
 refine .cons hw λF ι a w Q k hl hF hi he hd hQ=>?_;refine⟨λf _=>hF.fn f,?_⟩;rw[auC _ _ _ (iu hv (by simp))];obtain⟨u,hr,h3⟩:=pq hi he.eval hv;rw[hr,Oper.uponIn_panic];exact hQ _ _ _ h a w ι [{v:=u,recovered:=af}] hi (Le.refl _ _ _ _) he hd ⟨u,rfl,h3⟩
theorem dx.Wc{f:FuncId}{args:List IV}{RW PW:IV->St->Prop}(hw:aQ o ops e=ab)(hv:av P 0 (ax e) o σ=aa (.enter f args))(hc:xg P N f args σ RW PW)
 (h:∀v aq,RW v aq->aq.n<=N/\dx P N rd ops l (e.put o.dst v) df aq CW)(hp:∀v aq,PW v aq->CW (.b_ v) e aq):dx P N rd ops (o::l) e df σ CW:=by
 refine .cons hw λF ι a w Q k hl hF hi he hd hQ=>?_;refine⟨λf _=>hF.fn f,?_⟩;rw[auC _ _ _ (iu hv (by simp))];obtain⟨us,hr,h3⟩:=pq hi he.eval hv;rw[hr,awh];refine⟨hF.depth,(hF.calls (hc ι us w hi h3)).mono λed w' hR=>?_⟩;rcases hR with⟨v,aq,rK,hR⟩|⟨v,aq,hpw,hR⟩
 ·obtain⟨hn,h⟩:=h v aq rK;cases ed with
  |returned u=>
   obtain⟨aG,h2,h3,h4⟩:=hR;exact h F aG _ w' Q (k+1) hl (hF.mono h4.ext) h3 ((he.mono h4.ext).put h2 _) (hd.mono h4.ext|>λx=>by cases o.dst<;>exact x) (λex e' ao hc=>(hQ ex e' ao hc).from hi h4 hn)
  |outgrown=>exact hR.elim
  |panicked chain=>exact hR.elim
 ·cases ed with
  |returned u=>exact hR.elim
  |outgrown=>exact hR.elim
  |panicked chain=>
   obtain⟨aG,h4,h5,h6⟩:=hR;exact hQ _ _ _ (hp v aq hpw) a w' aG chain h5 h6 (he.mono h6.ext) (hd.mono h6.ext) h4
def xM(σ:St)(id:Nat)(x:IV):St:=((σ.add (.cells [.int 0] 0 0)).put σ.n (.cells [x] 0 0)).put id (.cells [x] 0 0)
def Es(P:Program)(g:FuncId)(t:TypeId):Prop:=
 ∀(N:Nat) (cl:IV) (f:FuncId) (as:List IV) (σ:St) (RW PW TD:IV->St->Prop),gD P cl []=aa (.enter f as)->σ.n+1<=N->xg P N f as (σ.add (.cells [.int 0] 0 0)) RW PW->
  (∀v dw,RW v dw->dw.at σ.n=aa (.cells [.int 0] 0 0)/\dw.n<=N/\TD (.int 0) (dw.put σ.n (.cells [.int 0] 0 0)))->
  (∀v dw,PW v dw->∃u,v=.du t (.agg [.raw u])/\aj (.raw u)=ab/\dw.at σ.n=aa (.cells [.int 0] 0 0)/\dw.n+1<=N/\σ.n<dw.n/\TD (.raw u) (xM dw σ.n (.raw u)))->dQ P N g [cl] σ TD
theorem xg.body{f:FuncId}{fn:Func}{c:Code}{args:List IV}{RW PW:IV->St->Prop}(bV:P.funcs[f]?=aa fn)(hb:fn.body=aa c)(hlen:args.length<=fn.ntmps)
 (h:dL P N ah c (cO args fn.ntmps) [] σ (λex e1 aq=>aq.n<=N/\(((ex=.normal\/ex=.ret)/\∃v,bJ P fn e1 aq=aa v/\RW v aq)\/∃v,ex=.b_ v/\PW v aq))):xg P N f args σ RW PW:=by
 intro ι us w hi hr;refine callsIn_of_wp_marks bV hb trivial ?_;refine h ato ι {tmps:=us.toArray++aub (fn.ntmps- us.toArray.size) Go.undef,defers:=[]} w _ (.inl ⟨rfl,rfl⟩) hi (yp hr hlen) trivial λex e1 aq hc=>?_;obtain⟨hn,hc⟩:=hc;intro a1 w1 cq fc i1 l1 dc d1 p1;rcases hc with⟨hex,v,hv,rK⟩|⟨v,rfl,hpw⟩
 ·have:∀u,px cq ah u->LeavesInM ato 0 P fn a1.tmps (λed w'=>(∃v ao,RW v ao/\w9 N 0 ι w σ v ao ed w')\/(∃v ao,PW v ao/\N8 N 0 ι w σ v ao ed w')) a1.defers u w1:=λu hu=>
   sn (S:=Self.none) (ro:=0) (sP (P:=P)).1 (sP (P:=P)).2 rfl d1 hu i1 hn λw2 pj u2 i2 l2 rF=>by
    rw[show u2=_ from rF];obtain⟨u,k1,k2⟩:=tE hv i2 (dc.mono l2.ext);exact⟨u,k1,.inl ⟨v,aq,rK,pj,k2,i2,Le.then hi hn l1 l2⟩⟩
  rcases hex with rfl|rfl
  ·exact this _ rfl
  ·exact this _ rfl
 ·have:∀u,px cq (aa v) u->LeavesInM ato 0 P fn a1.tmps (λed w'=>(∃v ao,RW v ao/\w9 N 0 ι w σ v ao ed w')\/(∃v ao,PW v ao/\N8 N 0 ι w σ v ao ed w')) a1.defers u w1:=λu hu=>
   sn (S:=Self.none) (ro:=0) (sP (P:=P)).1 (sP (P:=P)).2 rfl d1 hu i1 hn λw2 pj u2 i2 l2 rF=>by
    obtain⟨x,rfl,hx⟩:=rF;exact .inr ⟨v,aq,hpw,pj,⟨x,rfl,hx⟩,i2,Le.then hi hn l1 l2⟩
  obtain⟨u,rfl,hu⟩:=p1;exact this _ ⟨u,rfl,hu⟩
theorem fm.Dz{new:Bool}{f:FuncId}{xs:List IV}{z:IV}{RW:IV->St->Prop}{N:Nat}(h:dQ P N f xs ⟨0,.lf⟩ RW)(hc:∀v ao,RW v ao->Can (!new) ao v z):fm P af new f xs z:=by
 intro M w us hM hr;refine(h (eH M) us w (FM hM) hr).mono λe w' hR=>?_;obtain⟨v,ao,rK,hR⟩:=hR;cases e with
 |returned u=>
  obtain⟨aG,h1,h2,h3⟩:=hR;exact⟨rfl,TA hM (hc v ao rK) h1 h2 h3⟩
 |panicked ch=>exact hR.elim
 |outgrown=>exact hR.elim
end Go.Ev
namespace Go.Ev
variable{P:Program}{N:Nat}{ι:Io}{w:World}{σ ao:St}{e:Env}{rd:Option Nat}{fn:FuncId}{df:List Df}{CW:kc}{ops:Array Oper}{o:Oper}{l:List Oper}
theorem agE(t m:Nat)(h:m<1000000):((t+1)*1000000+m) % 1000000=m:=by omega
theorem adr(t m:Nat):1000000<=(t+1)*1000000+m:=by omega
theorem ads{kt:Nat}(h:1000000<=kt)(h0:kt=0):False:=by omega
theorem Et{kt:Nat}(h:1000000<=kt):gI kt=ab:=by
 unfold gI;rw[atw];exact .inr (by simpa using h)
theorem Left.init(ds:List IV):Left ds [] ds:=by
 refine⟨ds.zipIdx,by simp,by simp[List.zipIdx_map_snd,List.nodup_range'],λp hp=>⟨?_,by simp⟩,λi hi _=>?_⟩
 ·obtain⟨a,b⟩:=p;exact atV.1 hp
 ·exact⟨(ds[i],i),atV.2 (asL hi),rfl⟩
theorem wG{α β:Type}(f:α->β):∀(l:List α) (i:Nat),(l.map f).eraseIdx i=(l.eraseIdx i).map f
 |[],_=>rfl
 |_::_,0=>rfl
 |_::l,i+1=>by simp[wG f l i]
theorem Left.empty{ds:List IV}{seen:List Nat}{rem:List IV}(h:Left ds seen rem)(hs:∀i,i<ds.length->i∈seen):rem=[]:=by
 obtain⟨ps,rfl,_,h3,_⟩:=h;cases ps with
 |nil=>rfl
 |cons p ps=>
  obtain⟨h1,h2⟩:=h3 p (by simp);exact absurd (hs _ (asM.1 h1).1) h2
theorem Pr{p:Nat->Nat->Prop}:∀(n:Nat),(∀i,i<n->∃b,∀N,b<=N->p i N)->∃b,∀i,i<n->∀N,b<=N->p i N
 |0,_=>⟨0,λi hi=>absurd hi (Nat.not_lt_zero _)⟩
 |n+1,h=>by
  obtain⟨b,hb⟩:=Pr n λi hi=>h i (by omega);obtain⟨c,hc⟩:=h n (by omega);refine⟨max b c,λi hi N hN=>?_⟩;by_cases he:i=n
  ·subst he;exact hc N (by omega)
  ·exact hb i (by omega) N (by omega)
theorem Left.has{ds:List IV}{seen:List Nat}{rem:List IV}(h:Left ds seen rem){i:Nat}(hi:i<ds.length)(hn:i∉seen):∃(j:Nat) (y:IV),rem[j]?=aa y/\ds[i]?=aa y/\Left ds (seen++[i]) (rem.eraseIdx j):=by
 obtain⟨ps,rfl,h2,h3,h4⟩:=h;obtain⟨p,hp,rfl⟩:=h4 i hi hn;obtain⟨j,hj⟩:=avP.1 hp;refine⟨j,p.1,by simp[hj],(h3 p hp).1,ps.eraseIdx j,by rw[wG],?_,λq hq=>?_,λi hi hn=>?_⟩
 ·rw[<-wG];exact h2.sublist (List.eraseIdx_sublist _ _)
 ·obtain⟨k,hk,hkq⟩:=awj.1 hq;have wo:=asZ hkq;refine⟨(h3 q wo).1,?_⟩;simp only[as8,atF,not_or];refine⟨(h3 q wo).2,λhe=>hk ?_⟩;have a1:(ps.map (·.2))[k]?=aa p.2:=by simp[hkq,he]
  have a2:(ps.map (·.2))[j]?=aa p.2:=by simp[hj]
  have nK:=(asM.1 a1).1;exact(List.getElem?_inj nK h2).1 (a1.trans a2.symm)
 ·simp only[as8,atF,not_or]at hn;obtain⟨q,hq,rfl⟩:=h4 i hi hn.1;obtain⟨k,hk⟩:=avP.1 hq;refine⟨q,awj.2 ⟨k,λhe=>?_,hk⟩,rfl⟩;subst he;rw[hj]at hk;cases hk;exact hn.2 rfl
theorem KM(n:Nat)(hn:0<n)(w:World):∃i w',i<n/\(choose (.mapNext n)).run P w=.ok i w'/\(w'=w\/w'={w with drawn:=w.drawn+1}):=by
 by_cases h:n<=1
 ·exact⟨0,w,hn,by simp[choose,auH,auP,h],.inl rfl⟩
 ·exact⟨w.tape w.drawn (.mapNext n) % n,_,Nat.mod_lt _ hn,by simp[choose,auH,auP,h,Question.cut],.inr rfl⟩
theorem SZ{r m:Nat}{res:Array MapEntry}{seen:Array Nat}{n clock:Nat}{t:TypeId}(hh:w.heap[r]?=aa (.mapIter (aa m) n seen n))(GQ:w.heap[m]?=aa (.map res clock))(hn:clock=n)(hb:∀e∈res,e.born<n):
 ∃w0,(w0=w\/w0={w with drawn:=w.drawn+1})/\(((∀e∈res,e.born∈seen)/\(au1 (.pointer (aa ⟨r,0,ah⟩)) af t).run P w=.ok (.tuple #[.bool af]) w0)\/
  ∃e∈res,e.born∉seen/\(au1 (.pointer (aa ⟨r,0,ah⟩)) af t).run P w=.ok (.tuple #[.bool ab,e.key,e.val]) {w0 with heap:=w0.heap.setIfInBounds r (.mapIter (aa m) n (seen.push e.born) n)}):=by
 subst hn
 have bQ:¬((!seen.isEmpty&& !res.isEmpty&&res.all (λe=>decide (e.born≥clock)))=ab):=by
  intro hc;simp only[asN,Array.all_eq_true_iff_forall_mem,decide_eq_true_eq]at hc;have aW:res.size≠0:=by have:=hc.1.2;simpa using this
  have:=hc.2 (res[0]'(by omega)) (by simp)
  have:=hb (res[0]'(by omega)) (by simp)
  omega
 have hold:∀left:Array MapEntry,(∀e∈left,e∈res)->left.filter (λe=>decide (e.born<clock))=left:=λleft hl=>by
  rw[Array.filter_eq_self];intro a ha;simp[hb a (hl a ha)]
 have fg:∀left:Array MapEntry,(∀e∈left,e∈res)->left.filter (λe=>decide (e.born≥clock))= #[]:=λleft hl=>by
  rw[Array.filter_eq_empty_iff];intro a ha;have:=hb a (hl a ha);simp;omega
 have fz:∀e∈res.filter (λe=> !seen.contains e.born),e∈res:=λe he=>(awc.1 he).1;generalize Od:res.filter (λe=> !seen.contains e.born)=left at fz;by_cases hl:left= #[]
 ·subst hl;refine⟨w,.inl rfl,.inl ⟨λe he=>?_,?_⟩⟩
  ·have h1:e∉res.filter (λe=> !seen.contains e.born):=by rw[Od];simp
   refine atA λhn=>h1 (awc.2 ⟨he,?_⟩);simpa using hn
  ·simp only[au1,asT,bW (P:=P) hh (by simp),asQ,bW (P:=P) GQ (by simp)];rw[if_neg bQ];simp only[asT,Od,hold #[] fz,fg #[] fz];simp[choose,auH,auP]
 ·have aU:0<(left.map aa).size:=by
   have:left.size≠0:=by simpa using hl
   simp;omega
  obtain⟨c,w0,hc,fU,GY⟩:=KM (P:=P) (left.map aa).size aU w;have yd:c<left.size:=by simpa using hc
  have yg:left[c]∈left:=by simp
  refine⟨w0,GY,.inr ⟨left[c],fz _ yg,?_,?_⟩⟩
  ·have:left[c]∈res.filter (λe=> !seen.contains e.born):=by rw[Od];exact yg
   have:=(awc.1 this).2;simpa using this
  ·have IG:w0.heap[r]?=aa (.mapIter (aa m) clock seen clock):=by
    rcases GY with rfl|rfl<;>exact hh
   have hem:left.isEmpty=af:=by simpa using hl
   simp only[au1,asT,bW (P:=P) hh (by simp),asQ,bW (P:=P) GQ (by simp)];rw[if_neg bQ];simp only[asT,Od,hold left fz,fg left fz,hem,Bool.false_eq_true,if_false,Array.empty_append,Array.append_empty,fU,asQ];have:(left.map aa)[c]?=aa (aa left[c]):=by simp[yd]
   rw[this];simp only[asT,eR (P:=P) IG (by simp),asQ,Sem.run_pure]
theorem dx.aj1{it:Operand}{id m:Nat}{es:List (Value×IV×Nat)}{seen:List Nat}{clock:Nat}(hw:aQ o ops e=ab)(ho:o.op=.next it af)(hit:ax e it=.ptr id 0 0 1)
 (aE:σ.at id=aa (.jO (aa m) es.length seen es.length))(OT:σ.at m=aa (.map es clock))(hc:Canon es clock)(hN:σ.n<=N)
 (h0:(∀i,i<es.length->i∈seen)->dx P N rd ops l (e.put o.dst (.az [.bool af])) df σ CW)
 (h1:∀i en,es[i]?=aa en->i∉seen->dx P N rd ops l (e.put o.dst (.az [.bool ab,lift en.1,en.2.1])) df (σ.put id (.jO (aa m) es.length (seen++[i]) es.length)) CW):dx P N rd ops (o::l) e df σ CW:=by
 refine .cons hw λF ι a w Q k hl hF hi he hd hQ=>?_;refine⟨λf _=>hF.fn f,?_⟩;rw[auC _ _ _ (λc hc=>by rw[ho]at hc;cases hc)];have hr:=he.eval it;rw[hit]at hr;generalize hq:a.eval it=q at hr;cases hr with
 |ptr _ _ _ _ lo zk hle=>
  have ai:lo.b<w.heap.size:=hi.jc id _ ⟨_,_,zk,rfl⟩;obtain⟨l',mr,cu,hh,lm,AQ,rfl⟩:=hi.obj id _ aE;rw[zk]at cu;cases cu;obtain⟨lm',res,pe,GQ,pw⟩:=hi.obj m _ OT;rw[AQ]at pe;cases pe;have ek:=hc.1
  have Wd:∀(i:Nat) (r:MapEntry),res[i]?=aa r->i<es.length/\r.born=i:=by
   intro i r hr;have da:i<es.length:=by have:=(Array.getElem?_eq_some_iff.1 hr).1;rw[pw.1];exact this
   exact⟨da,((pw.2 i es[i] r (asL da) hr).2.2).trans (hc.2 i _ (asL da))⟩
  have qS:∀r∈res,∃i,res[i]?=aa r:=λr hr=>by
   obtain⟨i,hi,rfl⟩:=Array.mem_iff_getElem.1 hr;exact⟨i,atj hi⟩
  obtain⟨w0,GY,eE⟩:=SZ (P:=P) (t:=o.type) hh GQ ek (λr hr=>by
   obtain⟨i,hi⟩:=qS r hr;have:=Wd i r hi;omega)
  have Dq:Inv N ι σ w0:=by rcases GY with rfl|rfl;exact hi;exact hi.same rfl
  have agF:Le 0 ι w σ ι w0 σ:=by rcases GY with rfl|rfl;exact Le.refl _ _ _ _;exact Le.same rfl rfl rfl rfl
  rcases eE with⟨bg,fU⟩|⟨r,hrm,GZ,fU⟩
  ·have hx:(execOp a.eval o).run P w=.ok (.value (.tuple #[.bool af])) w0:=by
    simp only[execOp,ho,hq];simp only[asT,ayp,fU];rfl
   rw[hx,av8];refine h0 (λi hi=>?_) F ι _ w0 Q (k+1) hl hF Dq (he.put (qu (aB.cons (.raw _) aB.nil)) _) (by cases o.dst<;>exact hd) (λex e' ao hc=>(hQ ex e' ao hc).from hi agF hN);have da:i<res.size:=by rw[<-pw.1];exact hi
   have:=bg res[i] (by simp);rw[(Wd i res[i] (atj da)).2]at this;simpa using this
  ·obtain⟨i,hri⟩:=qS r hrm;obtain⟨uS,OI⟩:=Wd i r hri
   have hx:(execOp a.eval o).run P w=.ok (.value (.tuple #[.bool ab,r.key,r.val])) {w0 with heap:=w0.heap.setIfInBounds lo.b (.mapIter (aa lm.b) es.length (seen.toArray.push r.born) es.length)}:=by
    simp only[execOp,ho,hq];simp only[asT,ayp,fU];rfl
   rw[hx,av8];obtain⟨hk,hv,hb⟩:=pw.2 i es[i] r (asL uS) hri;have kf:lo.b<w0.heap.size:=by rcases GY with rfl|rfl<;>exact ai
   obtain⟨r1,r2⟩:=Dq.kX (ro:=0) (eT:=.jO (aa m) es.length (seen++[i]) es.length) (go:=.mapIter (aa lm.b) es.length (seen.toArray.push r.born) es.length) aE (Nat.zero_le _) zk ⟨lo,aa lm.b,zk,by simp[kf,OI],lm,AQ,rfl⟩;have HH:=Le.then hi hN agF r2;refine h1 i es[i] (asL uS) (by rw[OI]at GZ;simpa using GZ) F ι _ _ Q (k+1) hl hF r1 (he.put ?_ _) (by cases o.dst<;>exact hd) (λex e' ao hc=>(hQ ex e' ao hc).from hi HH hN);rw[<-hk];exact qu (aB.cons (.raw _) (aB.cons (Rv.lift _) (aB.cons hv aB.nil)))
end Go.Ev
namespace Go.Ev
attribute [local instance] agB
variable{P:Program}{ro:Nat}{σ:St}{ρ:Operand->IV}{o:Oper}{out:eN}
structure ko where
 nt:Nat
 cL:List Nat
 emp:List Nat
 tg:List (Nat×Nat):=[]
 ld:List (Nat×Nat×Nat×Nat):=[]
def wH(l:List Nat)(t:Nat):Bool:=l.any (asW t)
def I1(l:List Nat):Operand->Bool
 |.tmp t=>wH l t
 |_=>af
def ko.del(T:ko):Option Nat->ko
 |some d=>⟨T.nt,T.cL.filter (λt=> !asW t d),T.emp.filter (λt=> !asW t d),T.tg.filter (λp=> !asW p.1 d),T.ld.filter (λp=> !asW p.2.1 d&& !asW p.2.2.1 d)⟩
 |none=>T
def Ps(T:ko)(o:Oper):ko:=
 let D:=T.del o.dst
 match o.dst with
 |some d=>if !atQ d T.nt then D else match o.op with
  |.fieldAddr _ x _=>if I1 T.cL x then{D with cL:=d::D.cL}else D
  |.buildSlice _ 0 _=>if o.guard.isNone then{D with emp:=d::D.emp}else D
  |_=>D
 |_=>D
def FT(l:List (Nat×Nat))(t:Nat):Option Nat:=
 match l with
 |[]=>ah
 |(a,h)::l=>if asW a t then aa h else FT l t
def Pt(T:ko)(o:Oper):List (Nat×Nat):=
 match o.guard,o.dst,o.op with
 |none,aa d,.fieldAddr _ (.tmp x) _=>(match FT T.tg x with
  |some h=>if atQ d T.nt then(d,h)::(T.del o.dst).tg else(T.del o.dst).tg
  |none=>(T.del o.dst).tg)
 |_,_,_=>(T.del o.dst).tg
def Pu(T:ko)(o:Oper)(j:Nat):List (Nat×Nat×Nat×Nat):=
 match dv o with
 |.pure=>(T.del o.dst).ld
 |.load=>(match o.guard,o.dst,o.op with
  |none,aa d,.load _ (.tmp a)=>(match FT T.tg a with
   |some h=>if atQ d T.nt&& !asW a d then(j,a,d,h)::(T.del o.dst).ld else(T.del o.dst).ld
   |none=>(T.del o.dst).ld)
  |_,_,_=>(T.del o.dst).ld)
 |_=>[]
def G0(T:ko)(o:Oper)(j:Nat):ko:={Ps T o with tg:=Pt T o,ld:=Pu T o j}
def HI(pl:dX)(j:Nat):Bool:=
 (aup j).all λi=>atb (pl.cd.getD j 0) i||(match pl.kinds.getD i .effect with|.alloc|.effect|.call=>af|_=>ab)
def agG(pl:dX)(j:Nat):Bool:=
 (aup j).all λi=>atb (pl.cd.getD j 0) i||(match pl.kinds.getD i .effect with|.effect=>af|_=>ab)
def BU(pl:dX)(j:Nat):Bool:=
 (aup j).all λi=>atb (pl.cd.getD j 0) i||(match pl.kinds.getD i .effect with|.pure=>ab|_=>af)
def KN(o:Oper):Option Operand:=
 match o.op with
 |.call {callee:=.builtin .append,args,.. }=>args.toList.head?
 |_=>ah
def KO(P:Program)(o:Oper):Bool:=
 match o.op with
 |.call {callee:=.builtin .len,argTypes,.. }=>match(argTypes[0]?).bind P.underlying with
  |some (.slice _)|some .string=>ab
  |_=>af
 |_=>af
def Eu(pl:dX)(T:ko)(o:Oper)(j:Nat):Bool:=
 match o.guard,o.op with
 |none,.store _ (.tmp a) _=>(match FT T.tg a with
  |some g=>HI pl j&&(aup j).all λi=>atb (pl.cd.getD j 0) i||(match pl.kinds.getD i .effect with
   |.load=>T.ld.any λp=>asW p.1 i&& !asW p.2.2.2 g
   |.effect=>af
   |_=>ab)
  |none=>af)
 |_,_=>af
def lD(P:Program)(pl:dX)(T:ko)(o:Oper)(j:Nat):Bool:=
 match pl.kinds.getD j .effect with
 |.pure=>dv o==.pure
 |.alloc=>dv o==.alloc&&ab
 |.load=>dv o==.load&&(HI pl j||(agG pl j&&(KO P o||match o.op with|.load _ a=>I1 T.cL a|_=>af)))
 |.call=>dv o==.call&&HI pl j&&(AY o||(match KN o with|some a=>I1 T.emp a|none=>af))
 |.effect=>BU pl j||Eu pl T o j
def nf(P:Program)(pl:dX):List (Oper×Nat)->ko->Bool
 |[],_=>ab
 |(o,j)::l,T=>lD P pl T o j&&nf P pl l (G0 T o j)
def abG(n0:Nat)(x:IV):Prop:=(∃id off ep ext,x=.ptr id off ep ext/\id<n0)\/(∃cs,x=.lN cs)\/x=.undef
structure mz(n0:Nat)(e:Env)(T:ko):Prop where
 n:e.n=T.nt
 cL:∀t,wH T.cL t=ab->abG n0 (e.at t)
 emp:∀t,wH T.emp t=ab->e.at t=.emp
theorem Au{l:List Nat}{d t:Nat}(h:wH (l.filter λt=> !asW t d) t=ab):wH l t=ab/\t≠d:=by
 unfold wH at h⊢;rw[aws]at h⊢;obtain⟨x,hx,hxt⟩:=h;obtain⟨h1,h2⟩:=atW.1 hx;have:=asV hxt;subst this;exact⟨⟨t,h1,by simp⟩,λh=>by subst h;simp at h2⟩
theorem zy{l:List Nat}{d t:Nat}(h:wH (d::l) t=ab):t=d\/wH l t=ab:=by
 unfold wH at h⊢;simp only[List.any_cons,atw]at h;exact h.imp (λh=>asV h) id
theorem fI{e:Env}{d t:Nat}{v:IV}(h:t≠d):(e.put (aa d) v).at t=e.at t:=by
 unfold Env.put Env.at;simp only;split
 ·rw[T.gj,if_neg (Ne.symm h)]
 ·rfl
theorem dT{e:Env}{d:Nat}{v:IV}(h:d<e.n):(e.put (aa d) v).at d=v:=by
 unfold Env.put Env.at;simp only;rw[if_pos (by simpa using h),T.gj,if_pos rfl];rfl
theorem agH(e:Env)(d:Option Nat)(v:IV):(e.put d v).n=e.n:=by
 unfold Env.put;split
 ·rfl
 ·split<;>rfl
theorem mz.del{n0:Nat}{e:Env}{T:ko}(h:mz n0 e T)(d:Option Nat)(v:IV):mz n0 (e.put d v) (T.del d):=by
 cases d with
 |none=>exact h
 |some d=>
  refine⟨by rw[agH];exact h.n,λt ht=>?_,λt ht=>?_⟩
  ·obtain⟨h1,h2⟩:=Au ht;rw[fI h2];exact h.cL t h1
  ·obtain⟨h1,h2⟩:=Au ht;rw[fI h2];exact h.emp t h1
theorem Mw{n0:Nat}{e:Env}{T:ko}(h:mz n0 e T){x:Operand}(hx:I1 T.cL x=ab):abG n0 (ax e x):=by
 cases x with
 |tmp t=>exact h.cL t hx
 |_=>cases hx
theorem YD{n0:Nat}{e:Env}{T:ko}(h:mz n0 e T){x:Operand}(hx:I1 T.emp x=ab):ax e x=.emp:=by
 cases x with
 |tmp t=>exact h.emp t hx
 |_=>cases hx
theorem mz.aj2{n0:Nat}{e:Env}{T:ko}{v:IV}{aq:St}(h:mz n0 e T)(hv:av P ro (ax e) o σ=aa (.val v aq)):mz n0 (e.put o.dst v) (Ps T o):=by
 have hd:=h.del o.dst v;unfold Ps;simp only;split
 ·rename_i d gl;split
  ·exact hd
  ·rename_i ai;have gk:d<e.n:=by rw[h.n];simpa using ai
   split
   ·rename_i s x f ho;split
    ·rename_i hx;refine⟨hd.n,λt ht=>?_,hd.emp⟩;rcases zy ht with rfl|ht
     ·rw[gl,dT gk];have ho:=Mw h hx;unfold av at hv;rw[‹o.op=_›]at hv;dsimp only at hv
      repeat' split at hv
      all_goals first|(cases hv;done)|skip
      ·rename_i he _;rcases ho with⟨bB,Kq,ep',ext',h1,h2⟩|⟨cs,h1⟩|h1
       ·rw[he]at h1;cases h1;have:=aJ hv;cases this;exact .inl ⟨_,_,_,_,rfl,h2⟩
       ·rw[he]at h1;cases h1
       ·rw[he]at h1;cases h1
      ·have:=aJ hv;cases this;exact .inr (.inl ⟨_,rfl⟩)
     ·exact hd.cL t ht
    ·exact hd
   ·rename_i t0 parts ho;split
    ·refine⟨hd.n,hd.cL,λt ht=>?_⟩;rcases zy ht with rfl|ht
     ·rw[gl,dT gk];unfold av at hv;rw[ho]at hv;dsimp only at hv
      repeat' split at hv
      all_goals first|(cases hv;done)|skip
      all_goals first|(have:=aJ hv;cases this;rfl)|(exfalso;omega)|skip
     ·exact hd.emp t ht
    ·exact hd
   ·exact hd
 ·exact hd
theorem mz.aj3{n0:Nat}{e:Env}{T:ko}{v:IV}{ops:Array Oper}(h:mz n0 e T)(hw:(aQ o ops e=af/\v=.undef)\/dv o=.call\/dv o=.effect):mz n0 (e.put o.dst v) (Ps T o):=by
 have hd:=h.del o.dst v;unfold Ps;simp only;split
 ·rename_i d gl;split
  ·exact hd
  ·rename_i ai;have gk:d<e.n:=by rw[h.n];simpa using ai
   rcases hw with⟨hw,rfl⟩|hw
   ·split
    ·split
     ·refine⟨hd.n,λt ht=>?_,hd.emp⟩;rcases zy ht with rfl|ht
      ·rw[gl,dT gk];exact .inr (.inr rfl)
      ·exact hd.cL t ht
     ·exact hd
    ·split
     ·rename_i hg;unfold aQ at hw;rw[Option.isNone_iff_eq_none.1 hg]at hw;cases hw
     ·exact hd
    ·exact hd
   ·unfold dv at hw;split
    ·rename_i ho;rw[ho]at hw;rcases hw with hw|hw<;>cases hw
    ·rename_i ho;rw[ho]at hw;rcases hw with hw|hw<;>cases hw
    ·exact hd
 ·exact hd
theorem We{n0:Nat}{e:Env}{t:TypeId}{a:Operand}{v:IV}{aq:St}(ho:o.op=.load t a)(ha:abG n0 (ax e a))(hv:av P ro (ax e) o σ=aa (.val v aq)){ao:St}(IS:∀id,id<n0->ao.at id=σ.at id)(ga:Nat):
 av P ga (ax e) o ao=aa (.val v ao):=by
 unfold av at hv⊢;rw[ho]at hv⊢;dsimp only at hv⊢;rcases ha with⟨id,off,ep,ext,h1,h2⟩|⟨cs,h1⟩|h1
 ·rw[h1]at hv⊢;dsimp only at hv⊢;rw[IS id h2]
  repeat' split at hv
  all_goals first|(cases hv;done)|skip
  have:=aJ hv;cases this
  simp_all[ret]
 ·rw[h1]at hv⊢;dsimp only at hv⊢
  repeat' split at hv
  all_goals first|(cases hv;done)|skip
  have:=aJ hv;cases this
  simp_all[ret]
 ·rw[h1]at hv;simp only[IV.undef]at hv
  repeat' split at hv
  all_goals first|(cases hv;done)|skip
theorem abH{e:Env}{v:IV}{aq:St}(h:KO P o=ab)(hv:av P ro (ax e) o σ=aa (.val v aq))(ga:Nat)(ao:St):av P ga (ax e) o ao=aa (.val v ao):=by
 unfold KO at h;split at h<;>first|(cases h;done)|skip
 rename_i args ats ho
 have hl:∀x τ τ' u,pd P ats x τ=aa u->pd P ats x τ'=aa u:=by
  intro x τ τ' u hu;unfold pd at hu⊢;cases hq:(ats[0]?).bind P.underlying with
  |none=>rw[hq]at h;cases h
  |some td=>
   cases td<;>rw[hq]at h hu<;>first|(cases h;done)|skip
   all_goals
    cases x<;>first|exact hu|skip
    rename_i v;cases v<;>first|exact hu|(rename_i a b c;cases a<;>exact hu)
 simp only[av,ho,dJ]at hv⊢;split at hv<;>first|(cases hv;done)|skip
 obtain⟨u,hu,hv⟩:=asS.1 hv;cases hv;rw[hl _ _ ao _ hu];rfl
theorem agI{e:Env}{a:Operand}{v:IV}{aq:St}(hb:KN o=aa a)(ha:ax e a=.emp)(hv:av P ro (ax e) o σ=aa (.val v aq)):(∀ga,av P ga (ax e) o σ=aa (.val v aq))/\(aq=σ\/∃ob,aq=σ.add ob):=by
 unfold KN at hb;split at hb<;>first|(cases hb;done)|skip
 rename_i args ats fH;unfold av at hv⊢;rw[fH]at hv⊢;dsimp only at hv⊢;unfold dJ at hv⊢;split at hv
 ·split at hv<;>first|(cases hv;done)|skip
  rename_i s x bp
  have hs:s=.emp:=by
   cases hl:args.toList with
   |nil=>rw[hl]at hb;cases hb
   |cons y l=>
    rw[hl]at hb bp;simp only[List.head?_cons,asP]at hb;subst hb;simp only[List.map_cons,atK]at bp;rw[<-bp.1,ha]
  subst hs;unfold kW at hv⊢
  repeat' split at hv
  all_goals first|(cases hv;done)|skip
  simp only[*];unfold eO at hv⊢;simp only at hv⊢;split at hv
  ·have:=aJ hv;cases this;refine⟨λ_=>?_,.inl rfl⟩
   simp_all
  ·refine⟨λ_=>by simp_all,?_⟩;unfold fF at hv
   repeat' split at hv
   all_goals first|(cases hv;done)|skip
   have:=aJ hv;cases this;exact .inr ⟨_,rfl⟩
 all_goals (first|(exfalso;simp_all;done)|(simp_all;done))
theorem mz.step{n0:Nat}{e:Env}{T:ko}{v:IV}{aq:St}(j:Nat)(h:mz n0 e T)(hv:av P ro (ax e) o σ=aa (.val v aq)):mz n0 (e.put o.dst v) (G0 T o j):=
 have:=h.aj2 hv
 ⟨this.n,this.cL,this.emp⟩
theorem mz.skip{n0:Nat}{e:Env}{T:ko}{v:IV}{ops:Array Oper}(j:Nat)(h:mz n0 e T)(hw:(aQ o ops e=af/\v=.undef)\/dv o=.call\/dv o=.effect):mz n0 (e.put o.dst v) (G0 T o j):=
 have:=h.aj3 hw
 ⟨this.n,this.cL,this.emp⟩
structure tR(P:Program)(ops:Array Oper)(θ:Nat->Option Nat)(e:Env)(σ:St)(T:ko):Prop where
 tg:∀t h,(t,h)∈T.tg->∃id off ep ext,θ h=aa id/\e.at t=.ptr id off ep ext
 ld:∀i a d h,(i,a,d,h)∈T.ld->∃p ty id off ep ext,ops[i]?=aa p/\p.op=.load ty (.tmp a)/\p.dst=aa d/\θ h=aa id/\e.at a=.ptr id off ep ext/\av P 0 (ax e) p σ=aa (.val (e.at d) σ)
theorem zz:∀{l:List (Nat×Nat)} {t h:Nat},FT l t=aa h->(t,h)∈l
 |[],_,_,h=>by cases h
 |(a,q)::l,t,h,hh=>by
  unfold FT at hh;split at hh
  ·rename_i hb;have:=asV hb;cases hh;subst this;simp
  ·exact at6 _ (zz hh)
theorem Pv{p:Oper}{ty:TypeId}{a:Operand}(hp:p.op=.load ty a){ρ AV:Operand->IV}(h:ρ a=AV a)(ro:Nat)(σ:St):av P ro ρ p σ=av P ro AV p σ:=by
 simp only[av,hp,h]
theorem abI{p:Oper}{ty:TypeId}{a:Operand}(hp:p.op=.load ty a){ρ:Operand->IV}{id off ep ext:Nat}{v:IV}{aq:St}(ha:ρ a=.ptr id off ep ext)(hv:av P ro ρ p σ=aa (.val v aq)){ao:St}(IS:ao.at id=σ.at id)(ga:Nat):av P ga ρ p ao=aa (.val v ao):=by
 unfold av at hv⊢;rw[hp]at hv⊢;dsimp only at hv⊢;rw[ha]at hv⊢;dsimp only at hv⊢;rw[IS]
 repeat' split at hv
 all_goals first|(cases hv;done)|skip
 have:=aJ hv;cases this
 simp_all[ret]
theorem agJ{T:ko}{dst:Option Nat}{t h:Nat}(hm:(t,h)∈(T.del dst).tg):(t,h)∈T.tg/\dst≠aa t:=by
 cases dst with
 |none=>exact⟨hm,by simp⟩
 |some d=>
  obtain⟨h1,h2⟩:=atW.1 hm;exact⟨h1,λhe=>by cases he;simp at h2⟩
theorem agK{T:ko}{dst:Option Nat}{i a d h:Nat}(hm:(i,a,d,h)∈(T.del dst).ld):(i,a,d,h)∈T.ld/\dst≠aa a/\dst≠aa d:=by
 cases dst with
 |none=>exact⟨hm,by simp,by simp⟩
 |some q=>
  obtain⟨h1,h2⟩:=atW.1 hm;exact⟨h1,λhe=>by cases he;simp at h2,λhe=>by cases he;simp at h2⟩
theorem zA{e:Env}{dst:Option Nat}{v:IV}{t:Nat}(h:dst≠aa t):(e.put dst v).at t=e.at t:=by
 cases dst with
 |none=>rfl
 |some d=>exact fI λhe=>h (by rw[he])
theorem tR.Pw{ops:Array Oper}{θ:Nat->Option Nat}{e:Env}{T:ko}(h:tR P ops θ e σ T)(dst:Option Nat)(v:IV):∀t q,(t,q)∈(T.del dst).tg->∃id off ep ext,θ q=aa id/\(e.put dst v).at t=.ptr id off ep ext:=by
 intro t q hm;obtain⟨h1,h2⟩:=agJ hm;rw[zA h2];exact h.tg t q h1
theorem tR.HJ{ops:Array Oper}{θ:Nat->Option Nat}{e:Env}{T:ko}(h:tR P ops θ e σ T)(dst:Option Nat)(v:IV):∀i a d q,(i,a,d,q)∈(T.del dst).ld->∃p ty id off ep ext,ops[i]?=aa p/\p.op=.load ty (.tmp a)/\p.dst=aa d/\θ q=aa id/\(e.put dst v).at a=.ptr id off ep ext/\av P 0 (ax (e.put dst v)) p σ=aa (.val ((e.put dst v).at d) σ):=by
 intro i a d q hm;obtain⟨h1,h2,h3⟩:=agK hm;obtain⟨p,ty,id,off,ep,ext,g1,g2,g3,g4,g5,g6⟩:=h.ld i a d q h1;refine⟨p,ty,id,off,ep,ext,g1,g2,g3,g4,by rw[zA h2];exact g5,?_⟩;rw[zA h3,<-g6];exact Pv g2 (by show(e.put dst v).at a=e.at a;exact zA h2) _ _
theorem tR.step{ops:Array Oper}{θ:Nat->Option Nat}{n0:Nat}{e:Env}{T:ko}{v:IV}{aq:St}{j:Nat}(hj:ops[j]?=aa o)(h:tR P ops θ e σ T)(hT:mz n0 e T)(hv:av P ro (ax e) o σ=aa (.val v aq)):tR P ops θ (e.put o.dst v) aq (G0 T o j):=by
 refine⟨λt q hm=>?_,λi a d q hm=>?_⟩
 ·have hm:(t,q)∈Pt T o:=hm;unfold Pt at hm;split at hm
  ·rename_i d s x f hg gl fH;split at hm
   ·rename_i hh Px;split at hm
    ·rename_i ai;rcases aty.1 hm with he|hm
     ·cases he;obtain⟨id,off,ep,ext,g1,g2⟩:=h.tg _ _ (zz Px);have hx:ax e (.tmp x)=.ptr id off ep ext:=g2;have gk:t<e.n:=by rw[hT.n];simpa using ai
      rw[gl,dT gk];unfold av at hv;rw[fH]at hv;dsimp only at hv
      repeat' split at hv
      all_goals first|(cases hv;done)|skip
      ·rename_i he _;rw[hx]at he;cases he;have:=aJ hv;cases this;exact⟨_,_,_,_,g1,rfl⟩
      ·rename_i he _;rw[hx]at he;cases he
     ·exact h.Pw _ _ t q hm
    ·exact h.Pw _ _ t q hm
   ·exact h.Pw _ _ t q hm
  ·exact h.Pw _ _ t q hm
 ·have hm:(i,a,d,q)∈Pu T o j:=hm;unfold Pu at hm;split at hm
  ·rename_i hk;obtain⟨rfl,_⟩:=En hk hv;exact h.HJ _ _ i a d q hm
  ·rename_i hk;obtain⟨rfl,nV⟩:=Eo hk hv;split at hm
   ·rename_i d' ty a' hg gl fH;split at hm
    ·rename_i hh Px;split at hm
     ·rename_i hc;rcases aty.1 hm with he|hm
      ·cases he;simp only[asN,atD]at hc;have aW:a≠d:=λhe=>by subst he;simp at hc
       have gk:d<e.n:=by rw[hT.n];simpa using hc.1
       obtain⟨id,off,ep,ext,g1,g2⟩:=h.tg _ _ (zz Px);have ha:(e.put o.dst v).at a=e.at a:=by rw[gl];exact fI aW
       refine⟨o,ty,id,off,ep,ext,hj,fH,gl,g1,by rw[ha];exact g2,?_⟩;rw[Pv fH (AV:=ax e) (show(e.put o.dst v).at a=e.at a from ha),nV 0,gl,dT gk]
      ·exact h.HJ _ _ i a d q hm
     ·exact h.HJ _ _ i a d q hm
    ·exact h.HJ _ _ i a d q hm
   ·exact h.HJ _ _ i a d q hm
  ·cases hm
theorem tR.skip{ops:Array Oper}{θ:Nat->Option Nat}{e:Env}{T:ko}{v:IV}{aq:St}{j:Nat}(h:tR P ops θ e σ T)(hw:(aQ o ops e=af/\aq=σ)\/dv o=.call\/dv o=.effect):tR P ops θ (e.put o.dst v) aq (G0 T o j):=by
 have hgd:(aQ o ops e=af/\aq=σ)->o.guard≠ah:=λhw hg=>by
  have:=hw.1;unfold aQ at this;rw[hg]at this;cases this
 refine⟨λt q hm=>?_,λi a d q hm=>?_⟩
 ·have hm:(t,q)∈Pt T o:=hm;unfold Pt at hm;split at hm
  ·rename_i d s x f hg gl fH;rcases hw with hw|hw
   ·exact absurd hg (hgd hw)
   ·unfold dv at hw;rw[fH]at hw;rcases hw with hw|hw<;>cases hw
  ·exact h.Pw _ _ t q hm
 ·have hm:(i,a,d,q)∈Pu T o j:=hm;unfold Pu at hm;split at hm
  ·rename_i hk;rcases hw with⟨_,rfl⟩|hw
   ·exact h.HJ _ _ i a d q hm
   ·rw[hk]at hw;rcases hw with hw|hw<;>cases hw
  ·rename_i hk;rcases hw with hw|hw
   ·obtain⟨_,rfl⟩:=id hw;split at hm
    ·rename_i hg _ _;exact absurd hg (hgd hw)
    ·exact h.HJ _ _ i a d q hm
   ·rw[hk]at hw;rcases hw with hw|hw<;>cases hw
  ·cases hm
theorem YE{ty:TypeId}{a x:Operand}(ho:o.op=.store ty a x){ρ:Operand->IV}{id off ep ext:Nat}(ha:ρ a=.ptr id off ep ext){v:IV}{aq:St}(hv:av P ro ρ o σ=aa (.val v aq)):aq.n=σ.n/\∀bB,bB≠id->aq.at bB=σ.at bB:=by
 unfold av at hv;rw[ho]at hv;dsimp only at hv;rw[ha]at hv;dsimp only at hv
 repeat' split at hv
 all_goals first|(cases hv;done)|skip
 all_goals
  have:=aJ hv;cases this;exact⟨rfl,λbB aW=>by rw[St.c_,if_neg (Ne.symm aW)]⟩
theorem YF{pl:dX}{T:ko}{j:Nat}(h:Eu pl T o j=ab):HI pl j=ab:=by
 unfold Eu at h;split at h<;>first|(cases h;done)|skip
 split at h<;>first|(cases h;done)|skip
 simp only[asN]at h;exact h.1
theorem FU{pl:dX}{j i:Nat}(h:HI pl j=ab)(hi:i<j)(hk:bc pl i=.alloc\/bc pl i=.effect\/bc pl i=.call):atb (pl.cd.getD j 0) i=ab:=by
 have:=as6.1 h i (avv.2 hi);simp only[atw]at this;refine this.resolve_right λhh=>?_;unfold bc at hk;rcases hk with hk|hk|hk<;>rw[hk]at hh<;>cases hh
theorem ae3{pl:dX}{j i:Nat}(h:agG pl j=ab)(hi:i<j)(hk:bc pl i=.effect):atb (pl.cd.getD j 0) i=ab:=by
 have:=as6.1 h i (avv.2 hi);simp only[atw]at this;refine this.resolve_right λhh=>?_;unfold bc at hk;rw[hk]at hh;cases hh
theorem TE{pl:dX}{j i:Nat}(h:BU pl j=ab)(hi:i<j)(hk:bc pl i≠.pure):atb (pl.cd.getD j 0) i=ab:=by
 have:=as6.1 h i (avv.2 hi);simp only[atw]at this;refine this.resolve_right λhh=>hk ?_;unfold bc;split at hh
 ·assumption
 ·cases hh
theorem Ew:∀(l:List Piece) (b:T Ob),(∀p∈l,p.hi<=p.lo)->l.foldl dB b=b
 |[],_,_=>rfl
 |p::l,b,h=>by
  rw[att,lh b p (h p (au5 ..))];exact Ew l b λq hq=>h q (at6 _ hq)
theorem Ey{n0:Nat}:∀(l:List Piece) (b:T Ob),(∀p∈l,n0<=p.lo)->∀id,id<n0->(l.foldl dB b).get id=b.get id
 |[],_,_,_,_=>rfl
 |p::l,b,h,id,hid=>by
  rw[att,Ey l _ (λq hq=>h q (at6 _ hq)) id hid,kN,if_neg];have:=h p (au5 ..);omega
structure ng(pl:dX)(n0 j:Nat)(d:DS)(e:Env)(σ:St):Prop where
 e:d.e=e
 n:d.n=σ.n
 le:n0<=σ.n
 bs:∃i b rest,d.bs=(i,b)::rest/\(rest=[]\/(i<j/\bc pl i=.effect))/\d.aI.foldl dB b=σ.t/\b.WF
 aI:∀p∈d.aI,(p.hi<=p.lo\/(p.j<j/\(bc pl p.j=.alloc\/bc pl p.j=.call)))/\p.hi<=d.n/\n0<=p.lo
variable{ops:Array Oper}{pl:dX}{d:DS}{e e':Env}{ao:St}{j n0:Nat}
theorem u5{b:T Ob}(hs:ng pl n0 j d e σ)(ew:d.aI.foldl dB b=σ.t)(ho:HI pl j=ab):seen d.aI (pl.cd.getD j 0) b=σ.t:=by
 unfold seen;rw[tN _ _ λp hp=>?_,ew];rcases(hs.aI p hp).1 with h|⟨h1,h2⟩
 ·exact .inr h
 ·exact .inl (FU ho h1 (h2.elim .inl λh=>.inr (.inr h)))
theorem YG(h:BU pl j=ab):HI pl j=ab:=by
 refine as6.2 λi hi=>?_;have:=as6.1 h i hi;simp only[atw]at this⊢;refine this.imp id λh=>?_;split at h
 ·rename_i hk;rw[hk]
 ·cases h
theorem G1{bits:Nat}{e:Env}{n:Nat}{aI:List Piece}{b:T Ob}{l:List (Oper×Nat)}(h:∀p i,(p,i)∈l->bc pl i=.load->atb bits i=ab):recheck P pl ops bits e n aI b l=ab:=by
 unfold recheck;rw[as6];rintro⟨p,q⟩ yu;simp only;split
 ·rename_i AU;rw[h p q yu AU];rfl
 ·rfl
theorem zB{U:Self}{aq:St}{v:IV}(hs:ng pl n0 j d e σ)(hk:bc pl j=.effect)(hw:aQ o ops e=ab)(gQ:∀p i,(p,i)∈ops.toList.zipIdx.take j->(p,i)∈ops.toList.zipIdx/\i<j)(hA:BU pl j=ab)
 (hx:jP P U ro e o σ=aa (v,aq))(jF:aq.t.WF)(hn:σ.n<=aq.n):∃d1,bR P U pl ro ops o j d=aa d1/\ng pl n0 (j+1) d1 (e.put o.dst v) aq:=by
 obtain⟨i,b,rest,cN,fk,ew,jS⟩:=hs.bs;have mT:=u5 hs ew (YG hA);have cw:(⟨d.n,seen d.aI (pl.cd.getD j 0) b⟩:St)=σ:=by rw[mT,hs.n]
 refine⟨⟨e.put o.dst v,aq.n,(j,aq.t)::d.bs,d.aI.filter λp=> !atb (pl.cd.getD j 0) p.j⟩,?_,⟨rfl,rfl,atd hs.le hn,⟨j,aq.t,d.bs,rfl,.inr ⟨by omega,hk⟩,?_,jF⟩,λp hp=>?_⟩⟩
 ·unfold bR;rw[cN];simp only;rw[hs.e,hw,if_pos rfl];have cH:pl.kinds.getD j .effect=.effect:=hk;rw[cH];simp only;rw[cw,hx];simp only;rw[if_pos (G1 λp q yu AU=>TE hA (gQ p q yu).2 (by rw[AU];simp))]
 ·refine zr _ _ λp hp hf=>?_;rcases(hs.aI p hp).1 with h|⟨h1,h2⟩
  ·exact h
  ·rw[FU (YG hA) h1 (h2.elim .inl λh=>.inr (.inr h))]at hf;cases hf
 ·have rA:=(atW.1 hp).1;obtain⟨h1,h2,h3⟩:=hs.aI p rA;exact⟨h1.imp id (λh=>⟨by omega,h.2⟩),by rw[hs.n]at h2;exact atd h2 hn,h3⟩
theorem YH{T:ko}{θ:Nat->Option Nat}(YI:∀k k' id,θ k=aa id->θ k'=aa id->k=k')(hL:tR P ops θ e σ T){U:Self}{aq:St}{v:IV}(hs:ng pl n0 j d e σ)(hk:bc pl j=.effect)(hw:aQ o ops e=ab)(gQ:∀p i,(p,i)∈ops.toList.zipIdx.take j->(p,i)∈ops.toList.zipIdx/\i<j)(hX:Eu pl T o j=ab)
 (hv:av P ro (ax e) o σ=aa (.val v aq))(jF:aq.t.WF)(hn:σ.n<=aq.n):∃d1,bR P U pl ro ops o j d=aa d1/\ng pl n0 (j+1) d1 (e.put o.dst v) aq:=by
 obtain⟨i,b,rest,cN,fk,ew,jS⟩:=hs.bs;have mT:=u5 hs ew (YF hX);have cw:(⟨d.n,seen d.aI (pl.cd.getD j 0) b⟩:St)=σ:=by rw[mT,hs.n]
 have hx:jP P U ro e o σ=aa (v,aq):=by unfold jP;rw[hv]
 have abq:∀p∈(d.aI.filter λp=> !atb (pl.cd.getD j 0) p.j),p.hi<=p.lo:=λp hp=>by
  obtain⟨l6,hp2⟩:=atW.1 hp;rcases(hs.aI p l6).1 with h|⟨h1,h2⟩
  ·exact h
  ·rw[FU (YF hX) h1 (h2.elim .inl λh=>.inr (.inr h))]at hp2;cases hp2
 refine⟨⟨e.put o.dst v,aq.n,(j,aq.t)::d.bs,d.aI.filter λp=> !atb (pl.cd.getD j 0) p.j⟩,?_,⟨rfl,rfl,atd hs.le hn,⟨j,aq.t,d.bs,rfl,.inr ⟨by omega,hk⟩,?_,jF⟩,λp hp=>?_⟩⟩
 ·unfold bR;rw[cN];simp only;rw[hs.e,hw,if_pos rfl];have cH:pl.kinds.getD j .effect=.effect:=hk;rw[cH];simp only;rw[cw,hx];simp only;rw[if_pos];unfold recheck;rw[as6];rintro⟨p,q⟩ yu;simp only;split
  ·rename_i AU;obtain⟨aow,Yt⟩:=gQ p q yu;unfold Eu at hX;split at hX<;>first|(cases hX;done)|skip
   rename_i ty a x hg fH;split at hX<;>first|(cases hX;done)|skip
   rename_i g Px;simp only[asN,as6]at hX;have hq:=hX.2 q (avv.2 Yt);rw[atw]at hq;rcases hq with hq|hq
   ·rw[hq];rfl
   ·rw[AU]at hq;simp only[aws,asN,atD]at hq;obtain⟨⟨i',a',d',h'⟩,hm,da,aW⟩:=hq;have:=asV da;simp only at this;subst this;obtain⟨p',ty',id,off,ep,ext,g1,g2,g3,g4,g5,g6⟩:=hL.ld _ _ _ _ hm
    have hpp:p=p':=by
     have:=atV.1 aow;rw[auM]at this;rw[g1]at this;cases this;rfl
    subst hpp;obtain⟨id2,asy,ep2,asz,f1,f2⟩:=hL.tg _ _ (zz Px);obtain⟨e1,e2⟩:=YE fH (show ax e (.tmp a)=_ from f2) hv
    have aj4:id≠id2:=λhe=>by
     subst he;have:=YI _ _ _ g4 f1;subst this;simp at aW
    have aj5:=abI g2 (show ax e (.tmp a')=_ from g5) g6 (e2 id aj4) aq.n
    have hse:seen (d.aI.filter λp=> !atb (pl.cd.getD j 0) p.j) (pl.cd.getD i' 0) aq.t=aq.t:=by
     unfold seen;exact Ew _ _ λp hp=>abq p (atW.1 hp).1
    rw[g3];simp only;unfold loadAt;rw[hse,aj5];simp[Sm.sm]
  ·rfl
 ·exact Ew _ _ abq
 ·have rA:=(atW.1 hp).1;obtain⟨h1,h2,h3⟩:=hs.aI p rA;exact⟨h1.imp id (λh=>⟨by omega,h.2⟩),by rw[hs.n]at h2;exact atd h2 hn,h3⟩
theorem noX{T:ko}(h:Eu pl T o j=ab)(hn:(∃ro ρ f args,av P ro ρ o σ=aa (.enter f args))\/aQ o ops e=af):False:=by
 unfold Eu at h;split at h<;>first|(cases h;done)|skip
 rename_i ty a x hg fH;rcases hn with⟨ro,ρ,f,args,hn⟩|hn
 ·unfold av at hn;rw[fH]at hn;dsimp only at hn
  repeat' split at hn
  all_goals first|(cases hn;done)|skip
  all_goals (have:=aJ hn;cases this)
 ·unfold aQ at hn;rw[hg]at hn;cases hn
theorem Wf{fr:Bool}{l:List (Oper×Nat)}{θ:Nat->Option Nat}(YI:∀k k' id,θ k=aa id->θ k'=aa id->k=k')(h:gm P ro ops pl fr l e σ e' ao):
 ∀(k:Nat) (d:DS) (T:ko),ops.toList.zipIdx.drop k=l->ng pl n0 k d e σ->nf P pl l T=ab->mz n0 e T->tR P ops θ e σ T->
  ∃SF:Nat->Self,(∀i,l9 P (SF i))/\∃d',jh P SF pl ro ops l d=aa d'/\d'.e=e'/\d'.n=ao.n/\∃i b rest,d'.bs=(i,b)::rest/\d'.aI.foldl dB b=ao.t:=by
 have jk:∀{o:Oper} {j:Nat} {l:List (Oper×Nat)} {k:Nat},ops.toList.zipIdx.drop k=(o,j)::l->j=k/\ops.toList.zipIdx.drop (k+1)=l/\
  (∀p i,(p,i)∈ops.toList.zipIdx.take j->(p,i)∈ops.toList.zipIdx/\i<j)/\(∀o' i,(o',i)∈l->i≠j)/\ops[j]?=aa o:=by
  intro o j l k h;have h1:(ops.toList.zipIdx.drop k)[0]?=aa (o,j):=by rw[h];rfl
  rw[List.getElem?_drop,Nat.add_zero]at h1;rw[List.getElem?_zipIdx]at h1
  have hj:j=k:=by
   cases hk:ops.toList[k]? with
   |none=>rw[hk]at h1;cases h1
   |some o'=>rw[hk]at h1;simp at h1;omega
  have AS:ops.toList.zipIdx.drop (k+1)=l:=by rw[<-avu (i:=1) (j:=k),h];rfl
  have mN:ops[j]?=aa o:=by
   rw[hj];cases hk:ops.toList[k]? with
   |none=>rw[hk]at h1;cases h1
   |some o'=>
    rw[hk]at h1;simp at h1;rw[auM]at hk;rw[hk,h1.1]
  refine⟨hj,AS,λp i hp=>⟨List.mem_of_mem_take hp,?_⟩,λo' i hi=>?_,mN⟩
  ·obtain⟨m,hm,he⟩:=auG hp;rw[List.length_take]at hm;rw[List.getElem_take,av0]at he;cases he;omega
  ·rw[<-AS]at hi;obtain⟨m,hm,he⟩:=auG hi;rw[List.getElem_drop,av0]at he;cases he;omega
 induction h with
 |nil e σ=>
  intro k d T _ hs _ _ _;obtain⟨i,b,rest,h1,_,h3,_⟩:=hs.bs;exact⟨λ_=>Self.none,λ_=>oW,d,rfl,hs.e,hs.n,i,b,rest,h1,h3⟩
 | @skip o j l e σ e' ao hw h ih=>
   intro k d T hl hs hc hT DA;obtain⟨rfl,hd,gQ,ai,mN⟩:=jk hl;simp only[nf,asN]at hc;obtain⟨bN,gG⟩:=hc;obtain⟨i,b,rest,cN,fk,ew,jS⟩:=hs.bs;have jl:∀p∈d.aI,(p.hi<=p.lo\/(p.j<j+1/\(bc pl p.j=.alloc\/bc pl p.j=.call)))/\p.hi<=d.n/\n0<=p.lo:=λp hp=>⟨(hs.aI p hp).1.imp id (λh=>⟨by omega,h.2⟩),(hs.aI p hp).2⟩
   have key:∃U,l9 P U/\∃d1,bR P U pl ro ops o j d=aa d1/\ng pl n0 (j+1) d1 (e.put o.dst .undef) σ:=by
    refine⟨Self.none,oW,?_⟩;by_cases hk:bc pl j=.effect
    ·refine⟨⟨d.e.put o.dst .undef,d.n,(j,b)::d.bs,d.aI⟩,?_,⟨by rw[hs.e],hs.n,hs.le,⟨j,b,d.bs,rfl,.inr ⟨by omega,hk⟩,ew,jS⟩,jl⟩⟩;unfold bR;rw[cN];simp only;rw[hs.e,hw,if_neg (by simp)];have cH:pl.kinds.getD j .effect=.effect:=hk;have hA:BU pl j=ab:=by unfold lD at bN;rw[cH,atw]at bN;exact bN.elim id λh=>(noX (P:=P) (σ:=σ) h (.inr hw)).elim
     rw[cH];simp only;rw[if_pos (G1 λp q yu AU=>TE hA (gQ p q yu).2 (by rw[AU];simp))]
    ·refine⟨{d with e:=d.e.put o.dst .undef},?_,⟨by rw[hs.e],hs.n,hs.le,⟨i,b,rest,cN,fk.imp id (λh=>⟨by omega,h.2⟩),ew,jS⟩,jl⟩⟩;unfold bR;rw[cN];simp only;rw[hs.e,hw,if_neg (by simp)];have cH:pl.kinds.getD j .effect≠.effect:=hk;cases hq:pl.kinds.getD j .effect<;>first|exact absurd hq cH|simp only
   obtain⟨U,hU,d1,h1,h2⟩:=key;obtain⟨SF,lk,d',h3,h4⟩:=ih (j+1) d1 (G0 T o j) hd h2 gG (hT.skip j (.inl ⟨hw,rfl⟩)) (DA.skip (.inl ⟨hw,rfl⟩));obtain⟨pV,h5,h6⟩:=l_ hU lk h1 h3 ai;exact⟨pV,h5,d',h6,h4⟩
 | @val o j l e σ e' ao v aq hw hv h ih=>
   intro k d T hl hs hc hT DA;obtain⟨rfl,hd,gQ,ai,mN⟩:=jk hl;simp only[nf,asN]at hc;obtain⟨bN,gG⟩:=hc;obtain⟨i,b,rest,cN,fk,ew,jS⟩:=hs.bs;have pW:σ.t.WF:=ew▸lj _ jS;have jl:∀p∈d.aI,(p.hi<=p.lo\/(p.j<j+1/\(bc pl p.j=.alloc\/bc pl p.j=.call)))/\p.hi<=d.n/\n0<=p.lo:=λp hp=>⟨(hs.aI p hp).1.imp id (λh=>⟨by omega,h.2⟩),(hs.aI p hp).2⟩
   have one:∀(t:Go.Ev.T Ob),((aq=σ)\/∃ob,aq=σ.add ob/\t.get σ.n=aa ob)->(bc pl j=.alloc\/bc pl j=.call)->
    ng pl n0 (j+1) ⟨d.e.put o.dst v,aq.n,d.bs,⟨j,d.n,aq.n,t⟩::d.aI⟩ (e.put o.dst v) aq:=by
    intro t tA hk;refine⟨by rw[hs.e],rfl,atd hs.le (my hv),⟨i,b,rest,cN,fk.imp id (λh=>⟨by omega,h.2⟩),?_,jS⟩,λp hp=>?_⟩
    ·simp only[att];rcases tA with rfl|⟨ob,rfl,ht⟩
     ·rw[lh _ _ (by simp[hs.n]),ew]
     ·refine Go.Ev.T.WF.ext (lj _ (xc jS _)) (pW.set _ _) λid=>?_
      have:=zu (n:=σ.n) (ob:=ob) d.aI (dB b ⟨j,d.n,(σ.add ob).n,t⟩) b (λp hp=>by rw[<-hs.n];exact(hs.aI p hp).2.1) (λid=>by
       rw[kN,Go.Ev.T.gj];simp only[hs.n,St.lC];by_cases hid:σ.n=id
       ·subst hid;simp[ht]
       ·rw[if_neg (by omega),if_neg hid]) id
      rw[this,ew];rfl
    ·rcases aty.1 hp with rfl|hp
     ·exact⟨.inr ⟨by simp,hk⟩,asR _,by show n0<=d.n;rw[hs.n];exact hs.le⟩
     ·obtain⟨h1,h2,h3⟩:=jl p hp;exact⟨h1,by have:=my hv;rw[hs.n]at h2;exact atd h2 this,h3⟩
   have key:∃U,l9 P U/\∃d1,bR P U pl ro ops o j d=aa d1/\ng pl n0 (j+1) d1 (e.put o.dst v) aq:=by
    refine⟨Self.none,oW,?_⟩;cases hk:bc pl j with
    |pure=>
     have cH:pl.kinds.getD j .effect=.pure:=hk;unfold lD at bN;rw[cH]at bN;have nK:dv o=.pure:=by simpa using bN
     obtain⟨rfl,nV⟩:=En nK hv;refine⟨{d with e:=d.e.put o.dst v},?_,⟨by rw[hs.e],hs.n,hs.le,⟨i,b,rest,cN,fk.imp id (λh=>⟨by omega,h.2⟩),ew,jS⟩,jl⟩⟩;unfold bR;rw[cN];simp only;rw[hs.e,hw,if_pos rfl];rw[cH];simp only;rw[nV 0 ⟨0,.lf⟩];simp[hs.e,cN]
    |alloc=>
     have cH:pl.kinds.getD j .effect=.alloc:=hk;unfold lD at bN;rw[cH]at bN;simp only[asN,beq_iff_eq]at bN;obtain⟨t,nV,tA⟩:=IU bN.1 hv;refine⟨⟨d.e.put o.dst v,aq.n,d.bs,⟨j,d.n,aq.n,t⟩::d.aI⟩,?_,one t (tA.imp (λh=>h.1) λ⟨ob,h1,h2⟩=>⟨ob,h1,by rw[h2,Go.Ev.T.gj,if_pos rfl]⟩) (.inl hk)⟩;unfold bR;rw[cN];simp only;rw[hs.e,hw,if_pos rfl];rw[cH];simp only;rw[hs.n,nV 0]
    |load=>
     have cH:pl.kinds.getD j .effect=.load:=hk;unfold lD at bN;rw[cH]at bN;simp only[asN,beq_iff_eq,atw]at bN;obtain⟨nK,bN⟩:=bN;obtain⟨rfl,nV⟩:=Eo nK hv
     have eB:av P d.n (ax e) o ⟨d.n,seen d.aI (pl.cd.getD j 0) b⟩=aa (.val v ⟨d.n,seen d.aI (pl.cd.getD j 0) b⟩):=by
      rcases bN with ho|⟨_,ho⟩
      ·have mT:=u5 hs ew ho;have cw:(⟨d.n,seen d.aI (pl.cd.getD j 0) b⟩:St)=aq:=by rw[mT,hs.n]
       rw[cw];exact nV d.n
      ·rcases ho with ho|ho
       ·exact abH ho hv _ _
       split at ho<;>first|(cases ho;done)|skip
       rename_i t a fH;refine We fH (Mw hT ho) hv (λid hid=>?_) d.n;show(seen d.aI (pl.cd.getD j 0) b).get id=aq.t.get id;unfold seen;rw[<-ew,Ey _ _ (λp hp=>(hs.aI p (atW.1 hp).1).2.2) id hid,Ey _ _ (λp hp=>(hs.aI p hp).2.2) id hid]
     have aj6:(atb (pl.cd.getD j 0) i||mv P e o d.n v d.aI (pl.cd.getD j 0) rest)=ab:=by
      rcases fk with rfl|⟨h1,h2⟩
      ·simp[mv]
      ·have:atb (pl.cd.getD j 0) i=ab:=by
        rcases bN with ho|⟨ho,_⟩
        ·exact FU ho h1 (.inr (.inl h2))
        ·exact ae3 ho h1 h2
       rw[this];rfl
     refine⟨{d with e:=d.e.put o.dst v},?_,⟨by rw[hs.e],hs.n,hs.le,⟨i,b,rest,cN,fk.imp id (λh=>⟨by omega,h.2⟩),ew,jS⟩,jl⟩⟩;unfold bR;rw[cN];simp only;rw[hs.e,hw,if_pos rfl];rw[cH];simp only;rw[eB];simp only;rw[if_pos ⟨trivial,aj6⟩]
    |call=>
     have cH:pl.kinds.getD j .effect=.call:=hk;unfold lD at bN;rw[cH]at bN;simp only[asN,atw]at bN;obtain⟨⟨_,ho⟩,bN⟩:=bN;rcases bN with bN|bN
     ·exact(Du bN hv).elim
     ·split at bN<;>first|(cases bN;done)|skip
      rename_i a hb;obtain⟨nV,tA⟩:=agI hb (YD hT bN) hv;have mT:=u5 hs ew ho;have cw:(⟨d.n,seen d.aI (pl.cd.getD j 0) b⟩:St)=σ:=by rw[mT,hs.n]
      refine⟨⟨d.e.put o.dst v,aq.n,d.bs,⟨j,d.n,aq.n,aq.t⟩::d.aI⟩,?_,one aq.t (tA.imp id λ⟨ob,h1⟩=>⟨ob,h1,by rw[h1];exact(by simp[St.add,Go.Ev.T.gj])⟩) (.inr hk)⟩;unfold bR;rw[cN];simp only;rw[hs.e,hw,if_pos rfl];rw[cH];simp only;rw[cw];unfold jP;rw[nV d.n]
    |effect=>
     have cH:pl.kinds.getD j .effect=.effect:=hk;have hA:(BU pl j||Eu pl T o j)=ab:=by unfold lD at bN;rw[cH]at bN;exact bN
     rw[atw]at hA;rcases hA with hA|hA
     ·refine zB hs hk hw gQ hA ?_ (V9 hv pW) (my hv);unfold jP;rw[hv]
     ·exact YH YI DA hs hk hw gQ hA hv (V9 hv pW) (my hv)
   obtain⟨U,hU,d1,h1,h2⟩:=key;obtain⟨SF,lk,d',h3,h4⟩:=ih (j+1) d1 (G0 T o j) hd h2 gG (hT.step j hv) (DA.step mN hT hv);obtain⟨pV,h5,h6⟩:=l_ hU lk h1 h3 ai;exact⟨pV,h5,d',h6,h4⟩
 | @IW o j l e σ e' ao f args v hw hv ek h ih=>
   intro k d T hl hs hc hT DA;obtain⟨rfl,hd,gQ,ai,mN⟩:=jk hl;simp only[nf,asN]at hc;obtain⟨bN,gG⟩:=hc;obtain⟨i,b,rest,cN,fk,ew,jS⟩:=hs.bs;have pW:σ.t.WF:=ew▸lj _ jS;have jl:∀p∈d.aI,(p.hi<=p.lo\/(p.j<j+1/\(bc pl p.j=.alloc\/bc pl p.j=.call)))/\p.hi<=d.n/\n0<=p.lo:=λp hp=>⟨(hs.aI p hp).1.imp id (λh=>⟨by omega,h.2⟩),(hs.aI p hp).2⟩
   have wk:∀ga,jP P (rh ah f args σ v σ) ga e o σ=aa (v,σ):=by
    intro ga;unfold jP;rw[BQ hv ga σ];simp[rh]
   have jG:=tO hv
   have key:∃U,l9 P U/\∃d1,bR P U pl ro ops o j d=aa d1/\ng pl n0 (j+1) d1 (e.put o.dst v) σ:=by
    refine⟨rh ah f args σ v σ,tM λga _=>ek ga,?_⟩;cases hk:bc pl j with
    |pure=>
     have cH:pl.kinds.getD j .effect=.pure:=hk;unfold lD at bN;rw[cH]at bN;have nK:dv o=.pure:=by simpa using bN
     rw[nK]at jG;rcases jG with jG|jG<;>cases jG
    |alloc=>
     have cH:pl.kinds.getD j .effect=.alloc:=hk;unfold lD at bN;rw[cH]at bN;simp only[asN,beq_iff_eq]at bN;rw[bN.1]at jG;rcases jG with jG|jG<;>cases jG
    |load=>
     have cH:pl.kinds.getD j .effect=.load:=hk;unfold lD at bN;rw[cH]at bN;simp only[asN,beq_iff_eq]at bN;rw[bN.1]at jG;rcases jG with jG|jG<;>cases jG
    |call=>
     have cH:pl.kinds.getD j .effect=.call:=hk;unfold lD at bN;rw[cH]at bN;simp only[asN]at bN;have Dr:=u5 hs ew bN.1.2;refine⟨⟨d.e.put o.dst v,d.n,d.bs,⟨j,d.n,d.n,seen d.aI (pl.cd.getD j 0) b⟩::d.aI⟩,?_,⟨by rw[hs.e],hs.n,hs.le,⟨i,b,rest,cN,fk.imp id (λh=>⟨by omega,h.2⟩),?_,jS⟩,λp hp=>?_⟩⟩
     ·unfold bR;rw[cN];simp only;rw[hs.e,hw,if_pos rfl];rw[cH];simp only;have cw:(⟨d.n,seen d.aI (pl.cd.getD j 0) b⟩:St)=σ:=by rw[Dr,hs.n]
      rw[cw,wk,Dr];simp only[hs.n,cN]
     ·simp only[att];rw[lh _ _ (by simp),ew]
     ·rcases aty.1 hp with rfl|hp
      ·exact⟨.inl (asR _),asR _,by show n0<=d.n;rw[hs.n];exact hs.le⟩
      ·exact jl p hp
    |effect=>
     have cH:pl.kinds.getD j .effect=.effect:=hk;have hA:BU pl j=ab:=by unfold lD at bN;rw[cH,atw]at bN;exact bN.elim id λh=>(noX (ops:=ops) (e:=e) h (.inl ⟨_,_,_,_,hv⟩)).elim
     exact zB hs hk hw gQ hA (wk ro) pW (asR _)
   obtain⟨U,hU,d1,h1,h2⟩:=key;obtain⟨SF,lk,d',h3,h4⟩:=ih (j+1) d1 (G0 T o j) hd h2 gG (hT.skip (ops:=ops) j (.inr jG)) (DA.skip (.inr jG));obtain⟨pV,h5,h6⟩:=l_ hU lk h1 h3 ai;exact⟨pV,h5,d',h6,h4⟩
 | @V_ o j l e σ e' ao f args v ob hq hw hv ek h ih=>
   intro k d T hl hs hc hT DA;obtain⟨rfl,hd,gQ,ai,mN⟩:=jk hl;simp only[nf,asN]at hc;obtain⟨bN,gG⟩:=hc;obtain⟨i,b,rest,cN,fk,ew,jS⟩:=hs.bs;have pW:σ.t.WF:=ew▸lj _ jS;have jl:∀p∈d.aI,(p.hi<=p.lo\/(p.j<j+1/\(bc pl p.j=.alloc\/bc pl p.j=.call)))/\p.hi<=d.n/\n0<=p.lo:=λp hp=>⟨(hs.aI p hp).1.imp id (λh=>⟨by omega,h.2⟩),(hs.aI p hp).2⟩
   have wk:∀ga,jP P (rh ah f args σ v (σ.add ob)) ga e o σ=aa (v,σ.add ob):=by
    intro ga;unfold jP;rw[BQ hv ga σ];simp[rh]
   have jG:=tO hv
   have key:∃U,l9 P U/\∃d1,bR P U pl ro ops o j d=aa d1/\ng pl n0 (j+1) d1 (e.put o.dst v) (σ.add ob):=by
    refine⟨rh ah f args σ v (σ.add ob),tM λga _=>ek ga,?_⟩;cases hk:bc pl j with
    |pure=>
     have cH:pl.kinds.getD j .effect=.pure:=hk;unfold lD at bN;rw[cH]at bN;have nK:dv o=.pure:=by simpa using bN
     rw[nK]at jG;rcases jG with jG|jG<;>cases jG
    |alloc=>
     have cH:pl.kinds.getD j .effect=.alloc:=hk;unfold lD at bN;rw[cH]at bN;simp only[asN,beq_iff_eq]at bN;rw[bN.1]at jG;rcases jG with jG|jG<;>cases jG
    |load=>
     have cH:pl.kinds.getD j .effect=.load:=hk;unfold lD at bN;rw[cH]at bN;simp only[asN,beq_iff_eq]at bN;rw[bN.1]at jG;rcases jG with jG|jG<;>cases jG
    |call=>
     have cH:pl.kinds.getD j .effect=.call:=hk;unfold lD at bN;rw[cH]at bN;simp only[asN]at bN;have Dr:=u5 hs ew bN.1.2;refine⟨⟨d.e.put o.dst v,(σ.add ob).n,d.bs,⟨j,d.n,(σ.add ob).n,(σ.add ob).t⟩::d.aI⟩,?_,⟨by rw[hs.e],rfl,atd hs.le (by simp),⟨i,b,rest,cN,fk.imp id (λh=>⟨by omega,h.2⟩),?_,jS⟩,λp hp=>?_⟩⟩
     ·unfold bR;rw[cN];simp only;rw[hs.e,hw,if_pos rfl];rw[cH];simp only;have cw:(⟨d.n,seen d.aI (pl.cd.getD j 0) b⟩:St)=σ:=by rw[Dr,hs.n]
      rw[cw,wk]
     ·simp only[att];refine Go.Ev.T.WF.ext (lj _ (xc jS _)) (pW.set _ _) λid=>?_
      have:=zu (n:=σ.n) (ob:=ob) d.aI (dB b ⟨j,d.n,(σ.add ob).n,(σ.add ob).t⟩) b (λp hp=>by rw[<-hs.n];exact(hs.aI p hp).2.1) (λid=>by
       rw[kN,Go.Ev.T.gj];simp only[hs.n,St.lC];by_cases hid:σ.n=id
       ·subst hid;rw[if_pos (by omega),if_pos rfl];have:(σ.add ob).t.get σ.n=aa ob:=by simpa[St.at]using St.ie σ ob σ.n
        simp[this]
       ·rw[if_neg (by omega),if_neg hid]) id
      rw[this,ew];rfl
     ·rcases aty.1 hp with rfl|hp
      ·exact⟨.inr ⟨by simp,.inr hk⟩,asR _,by show n0<=d.n;rw[hs.n];exact hs.le⟩
      ·obtain⟨h1,h2,h3⟩:=jl p hp;exact⟨h1,by rw[hs.n]at h2;simp;omega,h3⟩
    |effect=>
     have cH:pl.kinds.getD j .effect=.effect:=hk;have hA:BU pl j=ab:=by unfold lD at bN;rw[cH,atw]at bN;exact bN.elim id λh=>(noX (ops:=ops) (e:=e) h (.inl ⟨_,_,_,_,hv⟩)).elim
     exact zB hs hk hw gQ hA (wk ro) (pW.set _ _) (by simp)
   obtain⟨U,hU,d1,h1,h2⟩:=key;obtain⟨SF,lk,d',h3,h4⟩:=ih (j+1) d1 (G0 T o j) hd h2 gG (hT.skip (ops:=ops) j (.inr jG)) (DA.skip (.inr jG));obtain⟨pV,h5,h6⟩:=l_ hU lk h1 h3 ai;exact⟨pV,h5,d',h6,h4⟩
 | @call o j l e σ e' ao f args v aq hk hw hv ek jF h ih=>
   intro k d T hl hs hc hT DA;obtain⟨rfl,hd,gQ,ai,mN⟩:=jk hl;simp only[nf,asN]at hc;obtain⟨bN,gG⟩:=hc;obtain⟨i,b,rest,cN,fk,ew,jS⟩:=hs.bs;have pW:σ.t.WF:=ew▸lj _ jS;have cH:pl.kinds.getD j .effect=.effect:=hk;have hA:BU pl j=ab:=by unfold lD at bN;rw[cH,atw]at bN;exact bN.elim id λh=>(noX (ops:=ops) (e:=e) h (.inl ⟨_,_,_,_,hv⟩)).elim
   obtain⟨d1,h1,h2⟩:=zB (U:=rh (aa ro) f args σ v aq) (v:=v) (aq:=aq) hs hk hw gQ hA (by unfold jP;rw[hv];simp[rh]) (jF pW) ek.1;obtain⟨SF,lk,d',h3,h4⟩:=ih (j+1) d1 (G0 T o j) hd h2 gG (hT.skip (ops:=ops) j (.inr (tO hv))) (DA.skip (.inr (tO hv)));obtain⟨pV,h5,h6⟩:=l_ (tM (R:=aa ro) λga hR=>by rcases hR with hR|hR<;>cases hR;exact ek) lk h1 h3 ai;exact⟨pV,h5,d',h6,h4⟩
variable{rd:Option Nat}{fn:FuncId}{df:List Df}
theorem fP.aj7{id:Nat}{fr:Bool}{T:ko}(fi:P.follows .mixedOrders=ab)(mZ:(dG ops).ok=ab)(bz:nf P (dG ops) ops.toList.zipIdx T=ab)(hT:mz σ.n e T){θ:Nat->Option Nat}(YI:∀k k' id,θ k=aa id->θ k'=aa id->k=k')(DA:tR P ops θ e σ T)(jF:σ.t.WF)
 (h:gm P ro ops (dG ops) fr ops.toList.zipIdx e σ e' ao):fP P ro rd fn (.region id ops ab) e df σ ⟨.normal,e',df,ao⟩:=by
 obtain⟨SF,lk,d',h1,h2,h3,i,b,rest,h4,h5⟩:=Wf (n0:=σ.n) YI h 0 ⟨e,σ.n,[(0,σ.t)],[]⟩ T (by simp) ⟨rfl,rfl,asR _,⟨0,σ.t,[],rfl,.inl rfl,rfl,jF⟩,λp hp=>by cases hp⟩ bz hT DA
 have eB:qt P SF ro ops e df σ=aa ⟨.normal,e',df,ao⟩:=by
  unfold qt;simp only;rw[if_pos mZ,h1];obtain⟨de,dn,dbs,aov⟩:=d';simp only at h2 h3 h4 h5;subst h2 h4;simp only[h3,h5]
 refine .mk (BM (λi=>(lk i).2.2.1) (λi=>(lk i).2.2.2) eB) (by simp) λN hN F ι a w Q hF hi he hd hQ=>?_;exact HB fi (λi=>(lk i).1) (λi=>(lk i).2.1) (λi=>(lk i).2.2.1) (λi=>(lk i).2.2.2) N ro rd ops e df σ _ eB hN F ι a w Q id hF hi he hd hQ
end Go.Ev
