/- Lemmas over the model, without conditions of their own: what is known of frames and of the store. -/
import Derived.Test.YtpfogalbnijcoaaGreatEvH
open List renaming getElem?_eq_some_iff->ar3,mem_of_getElem?->ash,getElem?_eq_getElem->ar2,getElem?_append_left->asd,getElem?_append_right->asz,getElem?_map->asi,getElem?_set_ne->au_,range'->aus,drop_drop->auN,length_cons->asV,range'_succ->avH,mk_mem_zipIdx_iff_getElem?->atb,mem_iff_getElem?->au7,mem_eraseIdx_iff_getElem?->avz,mem_append->asn,mem_singleton->asU,range->atD,any_eq_true->avI,mem_filter->atc,mem_cons_of_mem->atm,mem_cons->asS,all_eq_true->asl,mem_range->auO,foldl_cons->asG,mem_cons_self->aul,getElem_of_mem->atU,getElem_zipIdx->avg
open Nat renaming le_trans->asq,le_refl->ar8,beq->asc,beq_eq->asK,blt->as7,testBit->asp,eq_of_beq_eq_true->asb
open Bool renaming and_eq_true->ar4,or_eq_true->asL,not_eq_true'->asR
open Option renaming map_eq_some_iff->ar9
open Go.Fence renaming wide->asB
open Go.Oper renaming semAt_eq->atO,uponIn_value->avo,uponIn_enter->avx
open Array renaming replicate->atp,mem_filter->avt,getElem?_eq_getElem->asw,getElem?_toList->at0
open Go.Sem renaming run->atV,run_bind->ar_,run_map->axH
open Go.Question renaming forced->at3
open Go.Instr renaming next->auh
open Classical renaming byContradiction->asO
open Go.Result renaming andThen_ok->ar7
open Option.some renaming injEq->ar6
open List.cons renaming injEq->as4
open Option renaming some->aa,none->ah
open Bool renaming true->ab,false->af
set_option linter.all false
namespace Go.Ev
variable{P:Program}{σ ao:St}
abbrev Rs:=Nat->Option Nat
inductive bn(fr:Bool)(R:Rs)(σ:St):IV->IV->Prop
 |raw (v:Value):bn fr R σ (.raw v) (.raw v)
 |nil (s:Nat) (hs:0<s):bn fr R σ (.raw (.slice ah 0 0)) (.tree s [])
 |emp (s:Nat) (hs:0<s):bn fr R σ .emp (.tree s [])
 |di (t:TypeId) (x y:IV) (h:bn fr R σ x y):bn fr R σ (.di t x) (.di t y)
 |agg (cs ds:List IV) (hl:cs.length=ds.length) (h:∀(i:Nat) c d,cs[i]?=aa c->ds[i]?=aa d->bn fr R σ c d):bn fr R σ (.agg cs) (.agg ds)
 |az (cs ds:List IV) (hl:cs.length=ds.length) (h:∀(i:Nat) c d,cs[i]?=aa c->ds[i]?=aa d->bn fr R σ c d):bn fr R σ (.az cs) (.az ds)
 |pure (x:IV) (hf:fr=ab) (hp:Pure x):bn fr R σ x x
 |sl (id off len:Nat) (cap:Option Nat) (ep s m:Nat) (cs:List IV) (ay mn:Nat) (es:List IV) (hR:R id=aa m) (aE:σ.at id=aa (.cells cs ay mn)) (h1:mn<=ep) (h2:ep<=ay) (hs:0<s) (hl:es.length=len)
   (hb:off+len*s<=m) (hm:m<=cs.length)
   (bH:∀e∈es,(cellsOf e).length=s) (h:∀(i:Nat) e (j:Nat) c d,es[i]?=aa e->(cellsOf e)[j]?=aa d->cs[off+i*s+j]?=aa c->bn fr R σ c d):bn fr R σ (.sl id off len cap ep s) (.tree s es)
theorem bn.can{fr:Bool}{R:Rs}{x z:IV}(h:bn fr R σ x z):Can fr σ x z:=by
 induction h with
 |raw v=>exact .raw v
 |nil s hs=>exact .nil s hs
 |emp s hs=>exact .emp s hs
 |di t x y _ ih=>exact .di t x y ih
 |agg cs ds hl _ ih=>exact .agg cs ds hl ih
 |az cs ds hl _ ih=>exact .az cs ds hl ih
 |pure x hf hp=>exact .pure x hf hp
 |sl id off len cap ep s m cs ay mn es hR aE h1 h2 hs hl hb hm bH _ ih=>exact .sl id off len cap ep s cs ay mn es aE h1 h2 hl (by omega) bH ih
theorem bn.cH{fr:Bool}{R:Rs}{x z:IV}(h:bn fr R σ x z):bn ab R σ x z:=by
 induction h with
 |raw v=>exact .raw v
 |nil s hs=>exact .nil s hs
 |emp s hs=>exact .emp s hs
 |di t x y _ ih=>exact .di t x y ih
 |agg cs ds hl _ ih=>exact .agg cs ds hl ih
 |az cs ds hl _ ih=>exact .az cs ds hl ih
 |pure x hf hp=>exact .pure x rfl hp
 |sl id off len cap ep s m cs ay mn es hR aE h1 h2 hs hl hb hm bH _ ih=>exact .sl id off len cap ep s m cs ay mn es hR aE h1 h2 hs hl hb hm bH ih
theorem bn.wide{fr c7:Bool}{R:Rs}{x z:IV}(h:bn fr R σ x z)(hle:fr=ab->c7=ab):bn c7 R σ x z:=by
 cases c7
 ·cases fr
  ·exact h
  ·exact absurd (hle rfl) (by simp)
 ·exact h.cH
structure iH(R:Rs)(σ:St)(R':Rs)(ao:St):Prop where
 le:∀id m,R id=aa m->∃m',R' id=aa m'/\m<=m'
 keep:∀id m cs ay mn,R id=aa m->σ.at id=aa (.cells cs ay mn)->∃cx iC,ao.at id=aa (.cells cx iC mn)/\ay<=iC/\∀j,j<m->cx[j]?=cs[j]?
 fits:∀id m cs ay mn,R' id=aa m->ao.at id=aa (.cells cs ay mn)->m<=cs.length
theorem afU{es:List IV}{i s len:Nat}{e d:IV}{j:Nat}(he:es[i]?=aa e)(hd:(cellsOf e)[j]?=aa d)(bH:∀e∈es,(cellsOf e).length=s)(hl:es.length=len):i*s+j<len*s:=by
 have hi:=(ar3.1 he).1;have hj:j<s:=by have:=(ar3.1 hd).1;rw[bH e (ash he)]at this;exact this
 have:(i+1)*s<=es.length*s:=Nat.mul_le_mul_right s hi;rw[Nat.add_mul,hl]at this;omega
theorem bn.mono{fr:Bool}{R R':Rs}(hg:iH R σ R' ao){x z:IV}(h:bn fr R σ x z):bn fr R' ao x z:=by
 induction h with
 |raw v=>exact .raw v
 |nil s hs=>exact .nil s hs
 |emp s hs=>exact .emp s hs
 |di t x y _ ih=>exact .di t x y ih
 |agg cs ds hl _ ih=>exact .agg cs ds hl ih
 |az cs ds hl _ ih=>exact .az cs ds hl ih
 |pure x hf hp=>exact .pure x hf hp
 |sl id off len cap ep s m cs ay mn es hRi aE h1 h2 hs hl hb hm bH _ ih=>
  obtain⟨cx,iC,OK,hle,Is⟩:=hg.keep id m cs ay mn hRi aE;obtain⟨m',OL,hmm⟩:=hg.le id m hRi;refine .sl id off len cap ep s m' cx iC mn es OL OK h1 (asq h2 hle) hs hl (asq hb hmm) (hg.fits id m' cx iC mn OL OK) bH λi e j c d he hd hc=>?_;have:=afU he hd bH hl;rw[Is _ (by omega)]at hc;exact ih i e j c d he hd hc
theorem iH.refl{R:Rs}(hf:∀id m cs ay mn,R id=aa m->σ.at id=aa (.cells cs ay mn)->m<=cs.length):iH R σ R σ:=
 ⟨λ_ m h=>⟨m,h,ar8 _⟩,λ_ _ cs ay _ _ h=>⟨cs,ay,h,ar8 _,λ_ _=>rfl⟩,hf⟩
def All2{α β:Type}(r:α->β->Prop):List α->List β->Prop
 |[],[]=>True
 |a::as,b::bs=>r a b/\All2 r as bs
 |_,_=>False
namespace All2
variable{α β:Type}{r r':α->β->Prop}
theorem len:∀{as:List α} {bs:List β},All2 r as bs->as.length=bs.length
 |[],[],_=>rfl
 |_::_,_::_,h=>by simp[len h.2]
 |[],_::_,h=>h.elim
 |_::_,[],h=>h.elim
theorem get:∀{as:List α} {bs:List β},All2 r as bs->∀{i:Nat} {a:α} {b:β},as[i]?=aa a->bs[i]?=aa b->r a b
 |[],[],_,i,a,b,h1,_=>by simp at h1
 |_::as,_::bs,h,i,a,b,h1,h2=>by
  cases i with
  |zero=>simp at h1 h2;subst h1 h2;exact h.1
  |succ i=>simp at h1 h2;exact get h.2 h1 h2
 |[],_::_,h,_,_,_,_,_=>h.elim
 |_::_,[],h,_,_,_,_,_=>h.elim
theorem Ak{as:List α}{bs:List β}(h:All2 r as bs){i:Nat}{b:β}(hb:bs[i]?=aa b):∃a,as[i]?=aa a/\r a b:=by
 have hi:i<as.length:=by have:=(ar3.1 hb).1;rw[h.len];exact this
 exact⟨_,ar2 hi,h.get (ar2 hi) hb⟩
theorem mk:∀{as:List α} {bs:List β},as.length=bs.length->(∀(i:Nat) a b,as[i]?=aa a->bs[i]?=aa b->r a b)->All2 r as bs
 |[],[],_,_=>trivial
 |a::as,b::bs,hl,h=>⟨h 0 a b rfl rfl,mk (by simpa using hl) λi a b h1 h2=>h (i+1) a b (by simpa using h1) (by simpa using h2)⟩
 |[],_::_,hl,_=>by simp at hl
 |_::_,[],hl,_=>by simp at hl
theorem mono(hr:∀a b,r a b->r' a b):∀{as:List α} {bs:List β},All2 r as bs->All2 r' as bs
 |[],[],_=>trivial
 |_::_,_::_,h=>⟨hr _ _ h.1,mono hr h.2⟩
 |[],_::_,h=>h.elim
 |_::_,[],h=>h.elim
theorem xy:∀{as:List α} {bs:List β},(∀a b,b∈bs->r a b->r' a b)->All2 r as bs->All2 r' as bs
 |[],[],_,_=>trivial
 |_::_,_::_,hr,h=>⟨hr _ _ (by simp) h.1,xy (λa b hb=>hr a b (by simp[hb])) h.2⟩
 |[],_::_,_,h=>h.elim
 |_::_,[],_,h=>h.elim
theorem app{as as':List α}{bs bs':List β}(h:All2 r as bs)(k:All2 r as' bs'):All2 r (as++as') (bs++bs'):=by
 refine mk (by simp[h.len,k.len]) λi a b h1 h2=>?_;by_cases hi:i<as.length
 ·rw[asd hi]at h1;rw[asd (h.len▸hi)]at h2;exact h.get h1 h2
 ·rw[asz (by omega)]at h1;rw[asz (by have:=h.len;omega),<-h.len]at h2;exact k.get h1 h2
theorem take(n:Nat){as:List α}{bs:List β}(h:All2 r as bs):All2 r (as.take n) (bs.take n):=by
 refine mk (by simp[h.len]) λi a b h1 h2=>?_;rw[List.getElem?_take]at h1 h2;split at h1
 ·rename_i hi;rw[if_pos hi]at h2;exact h.get h1 h2
 ·cases h1
theorem drop(n:Nat){as:List α}{bs:List β}(h:All2 r as bs):All2 r (as.drop n) (bs.drop n):=
 mk (by simp[h.len]) λi a b h1 h2=>h.get (i:=n+i) (by simpa using h1) (by simpa using h2)
theorem map{γ:Type}{f:β->γ}{q:α->γ->Prop}(hf:∀a b,r a b->q a (f b)):∀{as:List α} {bs:List β},All2 r as bs->All2 q as (bs.map f)
 |[],[],_=>trivial
 |_::_,_::_,h=>⟨hf _ _ h.1,map hf h.2⟩
 |[],_::_,h=>h.elim
 |_::_,[],h=>h.elim
end All2
inductive Cl(α:Type) where
 |un
 |v (z:α)
 |w (fr:Bool) (z:α)
 |pt (k off ext:Nat)
 |tp (cs:List α)
 |tw (fr:Bool) (cs:List α)
 |sr (k:Nat)
 |sv (k:Nat) (lo:α)
 |pr (k:Nat) (i:α) (off ext:Nat)
 |mp (k:Nat)
 |nl (b:Bool) (s:Nat)
 |fn (f:FuncId) (bs:List (Nat×Nat))
 deriving Inhabited
inductive PV(α:Type) where
 |one (x:Cl α)
 |ag (cs:List (Cl α))
 |tu (vs:List (Bool×List (Cl α)))
 deriving Inhabited
inductive LO(α:Type) where
 |var (cs:List (Cl α))
 |row (s:Nat) (st cut fr:Bool) (es:α)
 |mp (kt:TypeId) (es:α)
 |dead
abbrev Ph:=Nat->Option Nat
def Kc(φ:Ph)(σ:St)(k s:Nat)(cut:Bool)(lo len:Nat)(x:IV):Prop:=
 (φ k=ah/\len=0/\(x=.raw (.slice ah 0 0)\/x=.emp))\/
 ∃id cs ay mn cap,φ k=aa id/\σ.at id=aa (.cells cs ay mn)/\x=.sl id (lo*s) (len- lo) cap ay s/\lo<=len/\(cap=ah->cut=af->len*s=cs.length)/\
  ∀c,cap=aa c->mn=ay/\lo*s+c*s<=cs.length/\len- lo<=c
abbrev iD:IV->IV->Prop:=bn ab (λ_=>ah) ⟨0,.lf⟩
def nat?:IV->Option Nat
 |.raw (.int _ n)=>if 0<=n then aa n.toNat else ah
 |_=>ah
def gB(kt:Nat):Bool:=asc kt 0||Nat.ble 1000000 kt
def Left(ds:List IV)(seen:List Nat)(rem:List IV):Prop:=
 ∃ps:List (IV×Nat),rem=ps.map (·.1)/\(ps.map (·.2)).Nodup/\(∀p∈ps,ds[p.2]?=aa p.1/\p.2∉seen)/\∀i,i<ds.length->i∉seen->∃p∈ps,p.2=i
section ev
variable{α:Type}(ev:α->Option IV)
def cD(R:Rs)(φ:Ph)(L:List (LO α))(σ:St)(x:IV):Cl α->Prop
 |.un=>True
 |.v z=>∃y,ev z=aa y/\iD x y/\aj y=ab
 |.w fr z=>∃y,ev z=aa y/\bn fr R σ x y/\aj y=ab
 |.pt k off ext=>∃id cs,φ k=aa id/\L[k]?=aa (.var cs)/\x=.ptr id off 0 ext
 |.tp cs=>∃ds,x=.lp ds/\All2 (λd c=>∃y,ev c=aa y/\iD d y/\aj y=ab) ds cs
 |.tw fr cs=>(∀c∈cs,∃y,ev c=aa y/\aj y=ab)/\((fr=ab/\∃ds,x=.lp ds/\All2 (λd c=>∃y,ev c=aa y/\iD d y) ds cs)\/
   ∃id off ep m cE ay mn,R id=aa m/\σ.at id=aa (.cells cE ay mn)/\mn<=ep/\ep<=ay/\x=.ptr id off ep cs.length/\off+cs.length<=m/\m<=cE.length/\
    ∀(j:Nat) c d,cs[j]?=aa d->cE[off+j]?=aa c->∃y,ev d=aa y/\bn fr R σ c y)
 |.sr k=>∃s st cut fr z es,L[k]?=aa (.row s st cut fr z)/\ev z=aa (.tree s es)/\Kc φ σ k s cut 0 es.length x
 |.sv k lo=>∃s st cut fr z es y n,L[k]?=aa (.row s st cut fr z)/\ev z=aa (.tree s es)/\ev lo=aa y/\nat? y=aa n/\n<=es.length/\(Kc φ σ k s cut n es.length x\/(n=es.length/\x=.emp))
 |.pr k i off ext=>∃s st cut fr z es y n id cs ay mn,L[k]?=aa (.row s st cut fr z)/\ev z=aa (.tree s es)/\ev i=aa y/\nat? y=aa n/\n<es.length/\off+ext<=s/\φ k=aa id/\σ.at id=aa (.cells cs ay mn)/\x=.ptr id (n*s+off) ay ext
 |.mp k=>∃id kt es,φ k=aa id/\L[k]?=aa (.mp kt es)/\x=if gB kt=ab then .ptr id 0 0 1 else .map id
 |.nl b s=>0<s/\x=if b then .raw (.slice ah 0 0)else .emp
 |.fn f bs=>(bs=[]/\x=.raw (.func (.func f) #[] #[]))\/∃ys,x=.fn (.func f) [] ys/\All2 (λy (p:Nat×Nat)=>∃id cs,φ p.1=aa id/\L[p.1]?=aa (.var cs)/\y=.ptr id 0 0 p.2) ys bs
def tq(R:Rs)(φ:Ph)(L:List (LO α))(σ:St)(x:IV)(p:Bool×List (Cl α)):Prop:=
 if p.1 then∃xs,x=.agg xs/\All2 (cD ev R φ L σ) xs p.2 else∃c,p.2=[c]/\cD ev R φ L σ x c
def VR(R:Rs)(φ:Ph)(L:List (LO α))(σ:St)(x:IV):PV α->Prop
 |.one c=>cD ev R φ L σ x c
 |.ag cs=>∃xs,x=.agg xs/\All2 (cD ev R φ L σ) xs cs
 |.tu vs=>∃xs,x=.az xs/\All2 (tq ev R φ L σ) xs vs
def flat(es:List IV):List IV:=es.flatMap cellsOf
def zo(R:Rs)(σ:St)(es:List (Value×IV×Nat))(ds:List IV):Prop:=
 All2 (λ(e:Value×IV×Nat) d=>∃z,d=.az [lift e.1,z]/\bn ab R σ e.2.1 z) es ds
def Canon(es:List (Value×IV×Nat))(clock:Nat):Prop:=clock=es.length/\∀(i:Nat) (e:Value×IV×Nat),es[i]?=aa e->e.2.2=i
theorem Canon.app{es:List (Value×IV×Nat)}{clock:Nat}(h:Canon es clock)(k:Value)(x:IV):Canon (es++[(k,x,clock)]) (clock+1):=by
 refine⟨by simp[h.1],λi e he=>?_⟩;by_cases hi:i<es.length
 ·rw[asd hi]at he;exact h.2 i e he
 ·rw[asz (by omega)]at he
  have h0:i- es.length=0:=by
   have:=(ar3.1 he).1;simp at this;omega
  rw[h0]at he;simp at he;subst he;have:=h.1;show clock=i;omega
theorem Canon.set{es:List (Value×IV×Nat)}{clock q:Nat}{e:Value×IV×Nat}(h:Canon es clock)(hq:es[q]?=aa e)(k:Value)(x:IV):Canon (es.set q (k,x,e.2.2)) clock:=by
 refine⟨by simp[h.1],λi e' he=>?_⟩;rw[List.getElem?_set]at he;split at he
 ·rename_i hh;subst hh;split at he
  ·cases he;exact h.2 q e hq
  ·cases he
 ·exact h.2 i e' he
def OIt(R:Rs)(φ:Ph)(L:List (LO α))(σ:St)(k:Nat)(kt:Nat)(z:α):Prop:=
 (kt=0/\∃id ba p,ev z=aa (.az [.raw (.string ba),.raw (.int .i64 (p:Nat))])/\φ k=aa id/\R id=ah/\σ.at id=aa (.pY ba p))\/
 (1000000<=kt/\∃id m ds seen rem rest,ev z=aa (.az (.az ds::.az rem::rest))/\φ k=aa id/\R id=ah/\(∃lJ z',L[kt % 1000000]?=aa (.mp lJ z'))/\φ (kt % 1000000)=aa m/\
  σ.at id=aa (.jz (aa m) ds.length seen ds.length)/\(∀s∈seen,s<ds.length)/\Left ds seen rem/\(rest=[]\/∃i last,rest=[last]/\seen.getLast?=aa i/\ds[i]?=aa last))
def OR(R:Rs)(φ:Ph)(L:List (LO α))(σ:St)(k:Nat):LO α->Prop
 |.var cs=>∃id cE,φ k=aa id/\R id=ah/\σ.at id=aa (.cells cE 0 0)/\All2 (cD ev R φ L σ) cE cs
 |.row s st cut fr z=>0<s/\∃es,ev z=aa (.tree s es)/\(∀e∈es,(cellsOf e).length=s)/\
   ((φ k=ah/\es=[])\/∃id cs ay mn,φ k=aa id/\σ.at id=aa (.cells cs ay mn)/\mn<=ay/\es.length*s<=cs.length/\R id=(if st then aa (es.length*s)else ah)/\
     cs.all aj=ab/\∀(j:Nat) x d,cs[j]?=aa x->(flat es)[j]?=aa d->bn fr R σ x d)
 |.mp kt z=>if gB kt=ab then OIt ev R φ L σ k kt z
  else∃id es clock ds,ev z=aa (.az ds)/\φ k=aa id/\R id=ah/\σ.at id=aa (.map es clock)/\zo R σ es ds/\Canon es clock
 |.dead=>True
theorem gL{R:Rs}{φ:Ph}{L:List (LO α)}{σ:St}{k:Nat}{kt:TypeId}{z:α}:OR ev R φ L σ k (.mp kt z)=if gB kt=ab then OIt ev R φ L σ k kt z
 else∃id es clock ds,ev z=aa (.az ds)/\φ k=aa id/\R id=ah/\σ.at id=aa (.map es clock)/\zo R σ es ds/\Canon es clock:=rfl
abbrev Gm(α:Type):=List (Nat×Nat×PV α)
def cy(d t:Nat):List (Nat×Nat×PV α)->Option (PV α)
 |[]=>ah
 |(d',t',pv)::g=>if(asc d d'&&asc t t')=ab then aa pv else cy d t g
structure J(R:Rs)(φ:Ph)(Γ:Gm α)(L:List (LO α))(E:Nat->Env)(σ:St):Prop where
 slot:∀d t pv,cy d t Γ=aa pv->VR ev R φ L σ ((E d).at t) pv
 obj:∀k ob,L[k]?=aa ob->OR ev R φ L σ k ob
 inj:∀k k' id,φ k=aa id->φ k'=aa id->k=k'
 lt:∀k id,φ k=aa id->k<L.length/\id<σ.n
 qw:∀id m,R id=aa m->id<σ.n
 fits:∀id m cs ay mn,R id=aa m->σ.at id=aa (.cells cs ay mn)->m<=cs.length
 wf:σ.t.WF
 top:∀id,σ.n<=id->σ.at id=ah
structure ky(ev ia:α->Option IV)(R:Rs)(φ:Ph)(L:List (LO α))(σ:St)(R':Rs)(aL:Ph)(L':List (LO α))(ao:St)(bad:Nat->Prop):Prop where
 up:∀e z,ev e=aa z->ia e=aa z
 grow:iH R σ R' ao
 var:∀k cs,L[k]?=aa (.var cs)->(∃cx,L'[k]?=aa (.var cx))/\aL k=φ k
 map:∀k kt es,L[k]?=aa (.mp kt es)->(∃aF,L'[k]?=aa (.mp kt aF))/\aL k=φ k
 row:∀k s st cut fr z,L[k]?=aa (.row s st cut fr z)->¬bad k->(∃lG c7 z',L'[k]?=aa (.row s lG cut c7 z')/\∀es,ev z=aa (.tree s es)->∃aF,ia z'=aa (.tree s aF)/\aF.length=es.length)/\aL k=φ k/\
  ∀id cs ay mn,φ k=aa id->σ.at id=aa (.cells cs ay mn)->∃cx pw,ao.at id=aa (.cells cx ay pw)/\cx.length=cs.length/\(mn=ay->pw=ay)
end ev
variable{α:Type}{ev ia:α->Option IV}
def Cl.ok(bad:Nat->Prop):Cl α->Prop
 |.sr k|.sv k _|.pr k _ _ _=>¬bad k
 |_=>True
variable{R R':Rs}{φ aL:Ph}{L L':List (LO α)}{bad:Nat->Prop}
theorem ky.mk'(h0:∀e z,ev e=aa z->ia e=aa z)(h1:iH R σ R' ao)(h2:∀k cs,L[k]?=aa (.var cs)->(∃cx,L'[k]?=aa (.var cx))/\aL k=φ k)
 (h3:∀k kt es,L[k]?=aa (.mp kt es)->(∃aF,L'[k]?=aa (.mp kt aF))/\aL k=φ k)
 (h4:∀k s st cut fr z,L[k]?=aa (.row s st cut fr z)->¬bad k->(∃lG,L'[k]?=aa (.row s lG cut fr z))/\aL k=φ k/\∀id,φ k=aa id->ao.at id=σ.at id):ky ev ia R φ L σ R' aL L' ao bad:=
 ⟨h0,h1,h2,h3,λk s st cut fr z hk hb=>by
  obtain⟨⟨lG,a⟩,b,c⟩:=h4 k s st cut fr z hk hb;exact⟨⟨lG,fr,z,a,λes he=>⟨es,h0 _ _ he,rfl⟩⟩,b,λid cs ay mn hid aE=>⟨cs,mn,by rw[c id hid];exact aE,rfl,λh=>h⟩⟩⟩
theorem Kc.step{k s lo len:Nat}{cut:Bool}{x:IV}(h1:aL k=φ k)(h2:∀id cs ay mn,φ k=aa id->σ.at id=aa (.cells cs ay mn)->∃cx pw,ao.at id=aa (.cells cx ay pw)/\cx.length=cs.length/\(mn=ay->pw=ay))
 (h:Kc φ σ k s cut lo len x):Kc aL ao k s cut lo len x:=by
 rcases h with⟨a,b,c⟩|⟨id,cs,ay,mn,cap,a,b,c,d,e,f⟩
 ·exact .inl ⟨by rw[h1];exact a,b,c⟩
 ·obtain⟨cx,pw,g1,g2,g3⟩:=h2 id cs ay mn a b;exact .inr ⟨id,cx,ay,pw,cap,by rw[h1];exact a,g1,c,d,λx y=>by rw[g2];exact e x y,λc hc=>by rw[g2];exact⟨g3 (f c hc).1,(f c hc).2⟩⟩
theorem cD.step(hs:ky ev ia R φ L σ R' aL L' ao bad){x:IV}{c:Cl α}(bp:c.ok bad)(h:cD ev R φ L σ x c):cD ia R' aL L' ao x c:=by
 cases c with
 |un=>trivial
 |v z=>obtain⟨y,h1,h2⟩:=h;exact⟨y,hs.up _ _ h1,h2⟩
 |w fr z=>obtain⟨y,h1,h2,h3⟩:=h;exact⟨y,hs.up _ _ h1,h2.mono hs.grow,h3⟩
 |pt k off ext=>
  obtain⟨id,cs,h1,h2,h3⟩:=h;obtain⟨⟨cx,h4⟩,h5⟩:=hs.var k cs h2;exact⟨id,cx,by rw[h5];exact h1,h4,h3⟩
 |tp cs=>
  obtain⟨ds,h1,h2⟩:=h;exact⟨ds,h1,h2.mono λd c ⟨y,h3,h4⟩=>⟨y,hs.up _ _ h3,h4⟩⟩
 |tw fr cs=>
  obtain⟨h0,h|⟨id,off,ep,m,cE,ay,mn,h1,h2,h3,h4,h5,h6,h7,h8⟩⟩:=h
  ·obtain⟨hf,ds,h1,h2⟩:=h;exact⟨λc hc=>(h0 c hc).imp λy hy=>⟨hs.up _ _ hy.1,hy.2⟩,.inl ⟨hf,ds,h1,h2.mono λd c ⟨y,h3,h4⟩=>⟨y,hs.up _ _ h3,h4⟩⟩⟩
  ·obtain⟨cx,iC,OK,hle,Is⟩:=hs.grow.keep id m cE ay mn h1 h2;obtain⟨m',OL,hmm⟩:=hs.grow.le id m h1;refine⟨λc hc=>(h0 c hc).imp λy hy=>⟨hs.up _ _ hy.1,hy.2⟩,.inr ⟨id,off,ep,m',cx,iC,mn,OL,OK,h3,asq h4 hle,h5,by omega,hs.grow.fits id m' cx iC mn OL OK,λj c d hd hc=>?_⟩⟩;have hj:=(ar3.1 hd).1;rw[Is _ (by omega)]at hc;obtain⟨y,AT,It⟩:=h8 j c d hd hc;exact⟨y,hs.up _ _ AT,It.mono hs.grow⟩
 |sr k=>
  obtain⟨s,st,cut,fr,z,es,h1,he,h2⟩:=h;obtain⟨⟨lG,c7,z',h3,h6⟩,h4,h5⟩:=hs.row k _ _ _ _ _ h1 bp;obtain⟨aF,h7,h8⟩:=h6 es he;exact⟨s,lG,cut,c7,z',aF,h3,h7,h8▸h2.step h4 h5⟩
 |sv k lo=>
  obtain⟨s,st,cut,fr,z,es,y,n,h1,he,hy,hn,hl,h2⟩:=h;obtain⟨⟨lG,c7,z',h3,h6⟩,h4,h5⟩:=hs.row k _ _ _ _ _ h1 bp;obtain⟨aF,h7,h8⟩:=h6 es he;exact⟨s,lG,cut,c7,z',aF,y,n,h3,h7,hs.up _ _ hy,hn,by omega,h2.elim (λh2=>.inl (h8▸h2.step h4 h5)) (λh2=>.inr ⟨by omega,h2.2⟩)⟩
 |pr k i off ext=>
  obtain⟨s,st,cut,fr,z,es,y,n,id,cs,ay,mn,h1,he,hy,hn,hl,hx,h6,h7,h8⟩:=h;obtain⟨⟨lG,c7,z',h3,h9⟩,h4,h5⟩:=hs.row k _ _ _ _ _ h1 bp;obtain⟨aF,Gy,Iu⟩:=h9 es he;obtain⟨cx,pw,g1,g2,g3⟩:=h5 id cs ay mn h6 h7;exact⟨s,lG,cut,c7,z',aF,y,n,id,cx,ay,pw,h3,Gy,hs.up _ _ hy,hn,by omega,hx,by rw[h4];exact h6,g1,h8⟩
 |mp k=>
  obtain⟨id,kt,es,h1,h2,h3⟩:=h;obtain⟨⟨aF,h4⟩,h5⟩:=hs.map k kt es h2;exact⟨id,kt,aF,by rw[h5];exact h1,h4,h3⟩
 |nl b s=>exact h
 |fn f bs=>
  rcases h with h|⟨ys,h1,h2⟩
  ·exact .inl h
  ·refine .inr ⟨ys,h1,h2.mono λy p ⟨id,cs,h3,h4,h5⟩=>?_⟩;obtain⟨⟨cx,h6⟩,h7⟩:=hs.var p.1 cs h4;exact⟨id,cx,by rw[h7];exact h3,h6,h5⟩
def PV.ok(bad:Nat->Prop):PV α->Prop
 |.one c=>c.ok bad
 |.ag cs=>∀c∈cs,c.ok bad
 |.tu vs=>∀p∈vs,∀c∈p.2,c.ok bad
theorem VR.step(hs:ky ev ia R φ L σ R' aL L' ao bad){x:IV}{c:PV α}(bp:c.ok bad)(h:VR ev R φ L σ x c):VR ia R' aL L' ao x c:=by
 cases c with
 |one c=>exact cD.step hs bp h
 |ag cs=>
  obtain⟨xs,h1,h2⟩:=h;exact⟨xs,h1,h2.xy λa b hb bR=>cD.step hs (bp b hb) bR⟩
 |tu vs=>
  obtain⟨xs,h1,h2⟩:=h;refine⟨xs,h1,h2.xy λa p hp bR=>?_⟩;unfold tq at bR⊢;split at bR
  ·rename_i hb;rw[if_pos hb];obtain⟨ys,h3,h4⟩:=bR;exact⟨ys,h3,h4.xy λa b hb bR=>cD.step hs (bp p hp b hb) bR⟩
  ·rename_i hb;rw[if_neg hb];obtain⟨c,h3,h4⟩:=bR;exact⟨c,h3,cD.step hs (bp p hp c (by rw[h3];simp)) h4⟩
def LO.ok(bad:Nat->Prop):LO α->Prop
 |.var cs=>∀c∈cs,c.ok bad
 |_=>True
theorem OR.step(hs:ky ev ia R φ L σ R' aL L' ao bad){k:Nat}{o:LO α}(kO:aL k=φ k)(aE:∀id,φ k=aa id->ao.at id=σ.at id/\R' id=R id)(bp:o.ok bad)(h:OR ev R φ L σ k o):OR ia R' aL L' ao k o:=by
 cases o with
 |var cs=>
  obtain⟨id,cE,h1,h2,h3,h4⟩:=h;obtain⟨h6,h7⟩:=aE id h1;exact⟨id,cE,by rw[kO];exact h1,by rw[h7];exact h2,by rw[h6];exact h3,h4.xy λa b hb bR=>cD.step hs (bp b hb) bR⟩
 |row s st cut fr z=>
  obtain⟨h1,es,h2,h3,h4⟩:=h;refine⟨h1,es,hs.up _ _ h2,h3,?_⟩;rcases h4 with⟨h4,h5⟩|⟨id,cs,ay,mn,h4,h5,h6,h7,h8,h9,Gy⟩
  ·exact .inl ⟨by rw[kO];exact h4,h5⟩
  ·obtain⟨ha,hb⟩:=aE id h4;exact .inr ⟨id,cs,ay,mn,by rw[kO];exact h4,by rw[ha];exact h5,h6,h7,by rw[hb];exact h8,h9,λj x d hx hd=>(Gy j x d hx hd).mono hs.grow⟩
 |mp kt z=>
  rw[gL]at h⊢;by_cases hk:gB kt=ab
  ·rw[if_pos hk]at h⊢;rcases h with⟨h0,id,ba,p,h1,h2,h3,h4⟩|⟨h0,id,m,ds,seen,rem,rest,h1,h2,h3,⟨lJ,z',h8⟩,h9,h4,h5⟩
   ·obtain⟨h6,h7⟩:=aE id h2;exact .inl ⟨h0,id,ba,p,hs.up _ _ h1,by rw[kO];exact h2,by rw[h7];exact h3,by rw[h6];exact h4⟩
   ·obtain⟨h6,h7⟩:=aE id h2;obtain⟨⟨aF,g1⟩,g2⟩:=hs.map _ _ _ h8;exact .inr ⟨h0,id,m,ds,seen,rem,rest,hs.up _ _ h1,by rw[kO];exact h2,by rw[h7];exact h3,⟨lJ,aF,g1⟩,by rw[g2];exact h9,by rw[h6];exact h4,h5⟩
  ·rw[if_neg hk]at h⊢;obtain⟨id,es,clock,ds,h1,h2,h3,h4,h5⟩:=h;obtain⟨h6,h7⟩:=aE id h2;exact⟨id,es,clock,ds,hs.up _ _ h1,by rw[kO];exact h2,by rw[h7];exact h3,by rw[h6];exact h4,h5.1.mono λa d ⟨z,h8,h9⟩=>⟨z,h8,h9.mono hs.grow⟩,h5.2⟩
 |dead=>trivial
variable{Γ Gz:Gm α}{E:Nat->Env}
def qJ(E:Nat->Env)(d:Nat)(e:Env):Nat->Env:=λj=>if j=d then e else E j
@[simp] theorem cg(E:Nat->Env)(d:Nat)(e:Env):qJ E d e d=e:=by simp[qJ]
def BI(d t:Nat):List (Nat×Nat×PV α)->List (Nat×Nat×PV α)
 |[]=>[]
 |(d',t',pv)::g=>if(asc d d'&&asc t t')=ab then BI d t g else(d',t',pv)::BI d t g
theorem Hf{d t d' t':Nat}{pv:PV α}:∀(g:List (Nat×Nat×PV α)),cy d' t' (BI d t g)=aa pv->¬(d'=d/\t'=t)/\cy d' t' g=aa pv:=by
 intro g;induction g with
 |nil=>intro h;cases h
 |cons p g ih=>
  obtain⟨a,b,q⟩:=p;intro h;unfold BI at h;split at h
  ·rename_i bR;simp only[ar4,asK]at bR;obtain⟨h1,h2⟩:=ih h;refine⟨h1,?_⟩;unfold cy;rw[if_neg]
   ·exact h2
   ·simp only[ar4,asK];rintro⟨rfl,rfl⟩;exact h1 ⟨bR.1.symm,bR.2.symm⟩
  ·rename_i bR;simp only[ar4,asK]at bR;unfold cy at h⊢;split at h
   ·rename_i hc;rw[if_pos hc];simp only[ar4,asK]at hc;obtain⟨rfl,rfl⟩:=hc;exact⟨λhh=>bR ⟨hh.1.symm,hh.2.symm⟩,h⟩
   ·rename_i hc;rw[if_neg hc];exact ih h
def OM(d t:Nat)(pv:PV α)(g:List (Nat×Nat×PV α)):List (Nat×Nat×PV α):=(d,t,pv)::BI d t g
theorem m_{d t a b:Nat}{q pv:PV α}{g:List (Nat×Nat×PV α)}(h:cy d t ((a,b,q)::g)=aa pv):(d=a/\t=b/\pv=q)\/(¬(d=a/\t=b)/\cy d t g=aa pv):=by
 unfold cy at h;split at h
 ·rename_i hc;simp only[ar4,asK]at hc;cases h;exact .inl ⟨hc.1,hc.2,rfl⟩
 ·rename_i hc;simp only[ar4,asK]at hc;exact .inr ⟨hc,h⟩
theorem C9(e:Env)(dst:Option Nat)(x:IV)(t:Nat)(h:dst≠aa t):(e.put dst x).at t=e.at t:=by
 cases dst with
 |none=>rfl
 |some d=>rw[Env.cV,if_neg (λhc=>h (by rw[hc.2]))]
theorem J.VD(h:J ev R φ Γ L E σ)(d:Nat)(dst:Option Nat)(x:IV)(fY:∀t,dst=aa t->Gz=BI d t Γ)(hn:dst=ah->Gz=Γ):J ev R φ Gz L (qJ E d ((E d).put dst x)) σ:=by
 refine{h with slot:=λd' t' pv hg=>?_}
 have hold:¬(d'=d/\dst=aa t')/\cy d' t' Γ=aa pv:=by
  cases hd:dst with
  |none=>rw[hn hd]at hg;exact⟨λhh=>(by cases hh.2),hg⟩
  |some t=>
   rw[fY t hd]at hg;obtain⟨h1,h2⟩:=Hf Γ hg;exact⟨λhh=>h1 ⟨hh.1,(by injection hh.2 with hh;exact hh.symm)⟩,h2⟩
 have:=h.slot d' t' pv hold.2;unfold qJ;split
 ·rename_i hd;subst hd;rw[C9 _ _ _ _ (λhh=>hold.1 ⟨rfl,hh⟩)];exact this
 ·exact this
theorem J.put(h:J ev R φ Γ L E σ)(d:Nat){t:Nat}(ht:t<(E d).n){x:IV}{pv:PV α}(hx:VR ev R φ L σ x pv):J ev R φ (OM d t pv Γ) L (qJ E d ((E d).put (aa t) x)) σ:=by
 have hb:=h.VD (Gz:=BI d t Γ) d (aa t) x (λt' h=>by cases h;rfl) (λh=>by cases h);refine{hb with slot:=λd' t' C_ hg=>?_};rcases m_ hg with⟨rfl,rfl,rfl⟩|⟨_,h2⟩
 ·rw[cg,Env.cV,if_pos ⟨ht,rfl⟩];exact hx
 ·exact hb.slot d' t' C_ h2
theorem J.less(h:J ev R φ Γ L E σ)(hs:∀d t pv,cy d t Gz=aa pv->cy d t Γ=aa pv):J ev R φ Gz L E σ:={h with slot:=λd t pv ht=>h.slot d t pv (hs d t pv ht)}
end Go.Ev
namespace Go.Ev
variable{P:Program}{σ ao:St}{R R':Rs}{φ aL:Ph}{α:Type}{ev ia:α->Option IV}{L L':List (LO α)}{bad:Nat->Prop}{Γ Gz:Gm α}{E:Nat->Env}
theorem J.q6(h:J ev R φ Γ L E σ):R σ.n=ah:=by
 cases hr:R σ.n with
 |none=>rfl
 |some m=>exact absurd (h.qw _ _ hr) (Nat.lt_irrefl _)
theorem c_{α:Type}{l:List α}{i:Nat}{a:α}(h:l[i]?=aa a):i<l.length:=(ar3.1 h).1
def bV(φ:Ph)(k id:Nat):Ph:=λj=>if j=k then aa id else φ j
theorem LL(h:J ev R φ Γ L E σ)(ob:Ob):iH R σ R (σ.add ob):=by
 refine⟨λ_ m h=>⟨m,h,ar8 _⟩,λid m cs ay mn hR aE=>⟨cs,ay,?_,ar8 _,λ_ _=>rfl⟩,λid m cs ay mn hR aE=>?_⟩
 ·have:=h.qw _ _ hR;rw[St.gW,if_neg (by omega)];exact aE
 ·have:=h.qw _ _ hR;rw[St.gW,if_neg (by omega)]at aE;exact h.fits _ _ _ _ _ hR aE
theorem Fu(h:J ev R φ Γ L E σ)(ob:Ob)(lo:LO α):ky ev ev R φ L σ R (bV φ L.length σ.n) (L++[lo]) (σ.add ob) (λ_=>False):=by
 have hL:∀k o,L[k]?=aa o->(L++[lo])[k]?=aa o/\bV φ L.length σ.n k=φ k:=λk o hk=>by
  have:=c_ hk;exact⟨by rw[asd this];exact hk,by simp[bV,show k≠L.length by omega]⟩
 refine .mk' (λ_ _ h=>h) (LL h ob) (λk cs hk=>⟨⟨cs,(hL k _ hk).1⟩,(hL k _ hk).2⟩) (λk kt es hk=>⟨⟨es,(hL k _ hk).1⟩,(hL k _ hk).2⟩) (λk s st cut fr z hk _=>⟨⟨st,(hL k _ hk).1⟩,(hL k _ hk).2,λid hid=>?_⟩);have:=(h.lt _ _ hid).2;rw[St.gW,if_neg (by omega)]
theorem Cl.a_(c:Cl α):c.ok (λ_=>False):=by cases c<;>simp[Cl.ok]
theorem PV.a_(c:PV α):c.ok (λ_=>False):=by
 cases c with
 |one c=>exact c.a_
 |ag cs=>exactλc _=>c.a_
 |tu vs=>exactλ_ _ c _=>c.a_
theorem LO.a_(o:LO α):o.ok (λ_=>False):=by
 cases o with
 |var cs=>exactλc _=>c.a_
 |_=>trivial
theorem J.yf(h:J ev R φ Γ L E σ)(ob:Ob)(lo:LO α)(ho:OR ev R (bV φ L.length σ.n) (L++[lo]) (σ.add ob) L.length lo):J ev R (bV φ L.length σ.n) Γ (L++[lo]) E (σ.add ob):=by
 have hs:=Fu h ob lo;refine⟨λd t pv hg=>(h.slot d t pv hg).step hs pv.a_,λk o hk=>?_,λk k' id h1 h2=>?_,λk id hk=>?_,λid m hR=>?_,hs.grow.fits,h.wf.set _ _,λid hid=>?_⟩
 ·by_cases oL:k<L.length
  ·rw[asd oL]at hk;refine(h.obj k o hk).step hs (by simp[bV,show k≠L.length by omega]) (λid hid=>⟨?_,rfl⟩) o.a_;have:=(h.lt _ _ hid).2;rw[St.gW,if_neg (by omega)]
  ·have:k=L.length:=by have:=c_ hk;simp at this;omega
   subst this;simp at hk;subst hk;exact ho
 ·unfold bV at h1 h2;split at h1<;>split at h2
  ·omega
  ·cases h1;have:=(h.lt _ _ h2).2;omega
  ·cases h2;have:=(h.lt _ _ h1).2;omega
  ·exact h.inj k k' id h1 h2
 ·unfold bV at hk;split at hk
  ·cases hk;simp[St.add];omega
  ·have:=h.lt _ _ hk;simp[St.add];omega
 ·have:=h.qw _ _ hR;simp[St.add];omega
 ·have iY:σ.n+1<=id:=hid;rw[St.gW,if_neg (by omega)];exact h.top id (by omega)
theorem J.up(h:J ev R φ Γ L E σ)(eh:∀e z,ev e=aa z->ia e=aa z):J ia R φ Γ L E σ:=by
 have hs:ky ev ia R φ L σ R φ L σ (λ_=>False):=(.mk' eh (iH.refl h.fits) (λk cs hk=>⟨⟨cs,hk⟩,rfl⟩) (λk kt es hk=>⟨⟨es,hk⟩,rfl⟩) (λk s st cut fr z hk _=>⟨⟨st,hk⟩,rfl,λ_ _=>rfl⟩));exact{h with slot:=λd t pv hg=>(h.slot d t pv hg).step hs pv.a_,obj:=λk o hk=>(h.obj k o hk).step hs rfl (λ_ _=>⟨rfl,rfl⟩) o.a_}
theorem VR.up{x:IV}{pv:PV α}(h:J ev R φ Γ L E σ)(hx:VR ev R φ L σ x pv)(eh:∀e z,ev e=aa z->ia e=aa z):VR ia R φ L σ x pv:=
 hx.step (bad:=λ_=>False) (.mk' eh (iH.refl h.fits) (λk cs hk=>⟨⟨cs,hk⟩,rfl⟩) (λk kt es hk=>⟨⟨es,hk⟩,rfl⟩) (λk s st cut fr z hk _=>⟨⟨st,hk⟩,rfl,λ_ _=>rfl⟩)) pv.a_
def Cl.drop(k:Nat):Cl α->Cl α
 |.sr k'=>if asc k' k=ab then .un else .sr k'
 |.sv k' lo=>if asc k' k=ab then .un else .sv k' lo
 |.pr k' i off ext=>if asc k' k=ab then .un else .pr k' i off ext
 |c=>c
def PV.drop(k:Nat):PV α->PV α
 |.one c=>.one (c.drop k)
 |.ag cs=>.ag (cs.map (Cl.drop k))
 |.tu vs=>.tu (vs.map λp=>(p.1,p.2.map (Cl.drop k)))
def LO.drop(k:Nat):LO α->LO α
 |.var cs=>.var (cs.map (Cl.drop k))
 |o=>o
def Iv(k:Nat):List (Nat×Nat×PV α)->List (Nat×Nat×PV α)
 |[]=>[]
 |(d,t,pv)::g=>(d,t,pv.drop k)::Iv k g
theorem Cl.mH(k:Nat)(c:Cl α):(c.drop k).ok (·=k):=by
 cases c<;>simp only[Cl.drop]<;>first|trivial|(split<;>first|trivial|(rename_i hh;simpa[Cl.ok,asK]using hh))
theorem PV.mH(k:Nat)(c:PV α):(c.drop k).ok (·=k):=by
 cases c with
 |one c=>exact c.mH k
 |ag cs=>intro c hc;simp at hc;obtain⟨a,_,rfl⟩:=hc;exact a.mH k
 |tu vs=>intro p hp c hc;obtain⟨q,_,rfl⟩:=List.mem_map.1 hp;simp at hc;obtain⟨a,_,rfl⟩:=hc;exact a.mH k
theorem LO.mH(k:Nat)(o:LO α):(o.drop k).ok (·=k):=by
 cases o with
 |var cs=>intro c hc;simp at hc;obtain⟨a,_,rfl⟩:=hc;exact a.mH k
 |_=>trivial
theorem cD.drop{x:IV}{c:Cl α}(k:Nat)(h:cD ev R φ L σ x c):cD ev R φ L σ x (c.drop k):=by
 cases c<;>simp only[Cl.drop]<;>first|exact h|(split<;>first|trivial|exact h)
theorem VR.drop{x:IV}{c:PV α}(k:Nat)(h:VR ev R φ L σ x c):VR ev R φ L σ x (c.drop k):=by
 cases c with
 |one c=>exact cD.drop k h
 |ag cs=>
  obtain⟨xs,h1,h2⟩:=h;exact⟨xs,h1,h2.map λa b bR=>bR.drop k⟩
 |tu vs=>
  obtain⟨xs,h1,h2⟩:=h;refine⟨xs,h1,h2.map λa p bR=>?_⟩;unfold tq at bR⊢;split at bR
  ·rename_i hb;rw[if_pos hb];obtain⟨ys,h3,h4⟩:=bR;exact⟨ys,h3,h4.map λa b bR=>bR.drop k⟩
  ·rename_i hb;rw[if_neg hb];obtain⟨c,h3,h4⟩:=bR;exact⟨c.drop k,by simp[h3],h4.drop k⟩
theorem Hg(h:J ev R φ Γ L E σ)(k:Nat):ky ev ev R φ L σ R φ (L.map (LO.drop k)) σ (λ_=>False):=by
 refine .mk' (λ_ _ h=>h) (iH.refl h.fits) (λj cs hj=>⟨⟨cs.map (Cl.drop k),?_⟩,rfl⟩) (λj kt es hj=>⟨⟨es,?_⟩,rfl⟩) (λj s st cut fr z hj _=>⟨⟨st,?_⟩,rfl,λ_ _=>rfl⟩)<;>simp[asi,hj,LO.drop]
theorem D5{d t k:Nat}{pv:PV α}:∀(g:Gm α),cy d t (Iv k g)=aa pv->∃q,cy d t g=aa q/\pv=q.drop k:=by
 intro g;induction g with
 |nil=>intro h;cases h
 |cons p g ih=>
  obtain⟨a,b,q⟩:=p;intro h;rcases m_ h with⟨rfl,rfl,rfl⟩|⟨h1,h2⟩
  ·exact⟨q,by simp[cy],rfl⟩
  ·obtain⟨q',h3,h4⟩:=ih h2;refine⟨q',?_,h4⟩;unfold cy;rw[if_neg]
   ·exact h3
   ·simpa[asK]using h1
theorem J.VE(h:J ev R φ Γ L E σ)(k:Nat):J ev R φ (Iv k Γ) (L.map (LO.drop k)) E σ:=by
 have hs:=Hg h k;refine{h with slot:=λd t pv hg=>?_,obj:=λj o hj=>?_,lt:=λj id hj=>by simpa using h.lt j id hj}
 ·obtain⟨q,h1,rfl⟩:=D5 Γ hg;exact((h.slot d t q h1).drop k).step hs (PV.a_ _)
 ·rw[asi]at hj;obtain⟨o',h1,rfl⟩:=ar9.1 hj;have ho:=(h.obj j o' h1).step hs rfl (λ_ _=>⟨rfl,rfl⟩) (LO.a_ _);cases o' with
  |var cs=>
   obtain⟨id,cE,a,b,c,d⟩:=ho;exact⟨id,cE,a,b,c,d.map λ_ _ bR=>bR.drop k⟩
  |row=>exact ho
  |mp=>exact ho
  |dead=>exact ho
theorem J.tv(h:J ev R φ Γ L E σ){k id:Nat}{lo jY:LO α}{eK:Ob}(hid:φ k=aa id)(hk:L[k]?=aa lo)(hR:∀j,j≠id->R' j=R j)
 (hle:∀m,R id=aa m->∃m',R' id=aa m'/\m<=m')
 (Is:∀m cs ay mn,R id=aa m->σ.at id=aa (.cells cs ay mn)->∃cx iC,eK=.cells cx iC mn/\ay<=iC/\∀j,j<m->cx[j]?=cs[j]?)
 (wO:∀m cs ay mn,R' id=aa m->eK=.cells cs ay mn->m<=cs.length)
 (hv:∀cs,lo=.var cs->∃cx,jY=.var cx)(hm:∀kt es,lo=.mp kt es->∃aF,jY=.mp kt aF)(hr:∀s st cut fr z,lo=.row s st cut fr z->bad k)
 (LM:∀d t pv,cy d t Γ=aa pv->pv.ok bad)(hL:∀j o,L[j]?=aa o->j≠k->o.ok bad)
 (ho:ky ev ev R φ L σ R' φ (L.set k jY) (σ.put id eK) bad->OR ev R' φ (L.set k jY) (σ.put id eK) k jY):
 ky ev ev R φ L σ R' φ (L.set k jY) (σ.put id eK) bad/\J ev R' φ Γ (L.set k jY) E (σ.put id eK):=by
 have oL:=c_ hk;have aZ:∀j,j≠k->(L.set k jY)[j]?=L[j]? :=λj hj=>au_ (λhc=>hj hc.symm);have bf:(L.set k jY)[k]?=aa jY:=by simp[oL]
 have Kd:∀j bA,j≠k->φ j=aa bA->bA≠id:=λj bA hj fO hc=>hj (h.inj j k id (by rw[<-hc];exact fO) hid)
 have p7:iH R σ R' (σ.put id eK):=by
  refine⟨λbA m hm=>?_,λbA m cs ay mn hm aE=>?_,λbA m cs ay mn hm aE=>?_⟩
  ·by_cases hc:bA=id
   ·subst hc;exact hle m hm
   ·exact⟨m,by rw[hR bA hc];exact hm,ar8 _⟩
  ·by_cases hc:bA=id
   ·subst hc;obtain⟨cx,iC,h1,h2,h3⟩:=Is m cs ay mn hm aE;exact⟨cx,iC,by rw[St.cV,if_pos rfl,h1],h2,h3⟩
   ·exact⟨cs,ay,by rw[St.cV,if_neg (λhh=>hc hh.symm)];exact aE,ar8 _,λ_ _=>rfl⟩
  ·by_cases hc:bA=id
   ·subst hc;rw[St.cV,if_pos rfl]at aE;exact wO m cs ay mn hm (by injection aE)
   ·rw[St.cV,if_neg (λhh=>hc hh.symm)]at aE;exact h.fits bA m cs ay mn (by rw[<-hR bA hc];exact hm) aE
 have hs:ky ev ev R φ L σ R' φ (L.set k jY) (σ.put id eK) bad:=by
  refine .mk' (λ_ _ h=>h) p7 (λj cs hj=>?_) (λj kt es hj=>?_) (λj s st cut fr z hj hb=>?_)
  ·by_cases bI:j=k
   ·subst bI;rw[hk]at hj;injection hj with hj
    obtain⟨cx,h1⟩:=hv cs hj;exact⟨⟨cx,by rw[bf,h1]⟩,rfl⟩
   ·exact⟨⟨cs,by rw[aZ j bI];exact hj⟩,rfl⟩
  ·by_cases bI:j=k
   ·subst bI;rw[hk]at hj;injection hj with hj
    obtain⟨cx,h1⟩:=hm kt es hj;exact⟨⟨cx,by rw[bf,h1]⟩,rfl⟩
   ·exact⟨⟨es,by rw[aZ j bI];exact hj⟩,rfl⟩
  ·by_cases bI:j=k
   ·subst bI;rw[hk]at hj;injection hj with hj
    exact absurd (hr _ _ _ _ _ hj) hb
   ·exact⟨⟨st,by rw[aZ j bI];exact hj⟩,rfl,λbA iY=>by rw[St.cV,if_neg (λhc=>Kd j bA bI iY hc.symm)]⟩
 refine⟨hs,⟨λd t pv hg=>(h.slot d t pv hg).step hs (LM d t pv hg),λj o hj=>?_,h.inj,λj bA hj=>by simpa[St.put]using h.lt j bA hj,λbA m hm=>?_,p7.fits,h.wf.set _ _,λbA iY=>?_⟩⟩
 ·by_cases bI:j=k
  ·subst bI;rw[bf]at hj;cases hj;exact ho hs
  ·rw[aZ j bI]at hj;exact(h.obj j o hj).step hs rfl (λbA iY=>⟨by rw[St.cV,if_neg (λhc=>Kd j bA bI iY hc.symm)],hR _ (Kd j bA bI iY)⟩) (hL j o hj bI)
 ·by_cases hc:bA=id
  ·subst hc;exact(h.lt _ _ hid).2
  ·rw[hR bA hc]at hm;exact h.qw _ _ hm
 ·have:=(h.lt _ _ hid).2;have Nw:σ.n<=bA:=iY;rw[St.cV,if_neg (by omega)];exact h.top bA Nw
theorem J.afV(h:J ev R φ Γ L E σ){k:Nat}{lo jY:LO α}{eK:Ob}(hk:L[k]?=aa lo)(hR:∀j,j≠σ.n->R' j=R j)
 (wO:∀m cs ay mn,R' σ.n=aa m->eK=.cells cs ay mn->m<=cs.length)
 (hr:∃s st cut fr z,lo=.row s st cut fr z)(hb:bad k)
 (LM:∀d t pv,cy d t Γ=aa pv->pv.ok bad)(hL:∀j o,L[j]?=aa o->j≠k->o.ok bad)
 (ho:ky ev ev R φ L σ R' (bV φ k σ.n) (L.set k jY) (σ.add eK) bad->OR ev R' (bV φ k σ.n) (L.set k jY) (σ.add eK) k jY):
 ky ev ev R φ L σ R' (bV φ k σ.n) (L.set k jY) (σ.add eK) bad/\J ev R' (bV φ k σ.n) Γ (L.set k jY) E (σ.add eK):=by
 have oL:=c_ hk;have aZ:∀j,j≠k->(L.set k jY)[j]?=L[j]? :=λj hj=>au_ (λhc=>hj hc.symm);have bf:(L.set k jY)[k]?=aa jY:=by simp[oL]
 have kO:∀j,j≠k->bV φ k σ.n j=φ j:=λj hj=>by simp[bV,hj]
 have p7:iH R σ R' (σ.add eK):=by
  refine⟨λbA m hm=>?_,λbA m cs ay mn hm aE=>?_,λbA m cs ay mn hm aE=>?_⟩
  ·have:=h.qw _ _ hm;exact⟨m,by rw[hR bA (by omega)];exact hm,ar8 _⟩
  ·have:=h.qw _ _ hm;exact⟨cs,ay,by rw[St.gW,if_neg (by omega)];exact aE,ar8 _,λ_ _=>rfl⟩
  ·by_cases hc:bA=σ.n
   ·subst hc;rw[St.gW,if_pos rfl]at aE;exact wO m cs ay mn hm (by injection aE)
   ·rw[St.gW,if_neg (λhh=>hc hh.symm)]at aE;exact h.fits bA m cs ay mn (by rw[<-hR bA hc];exact hm) aE
 have hs:ky ev ev R φ L σ R' (bV φ k σ.n) (L.set k jY) (σ.add eK) bad:=by
  obtain⟨s,st,cut,fr,z,rfl⟩:=hr;refine .mk' (λ_ _ h=>h) p7 (λj cs hj=>?_) (λj kt es hj=>?_) (λj s st cut fr z hj si=>?_)
  ·by_cases bI:j=k
   ·subst bI;rw[hk]at hj;cases hj
   ·exact⟨⟨cs,by rw[aZ j bI];exact hj⟩,kO j bI⟩
  ·by_cases bI:j=k
   ·subst bI;rw[hk]at hj;cases hj
   ·exact⟨⟨es,by rw[aZ j bI];exact hj⟩,kO j bI⟩
  ·by_cases bI:j=k
   ·subst bI;exact absurd hb si
   ·exact⟨⟨st,by rw[aZ j bI];exact hj⟩,kO j bI,λbA iY=>by have:=(h.lt _ _ iY).2;rw[St.gW,if_neg (by omega)]⟩
 refine⟨hs,⟨λd t pv hg=>(h.slot d t pv hg).step hs (LM d t pv hg),λj o hj=>?_,λj j' bA h1 h2=>?_,λj bA hj=>?_,λbA m hm=>?_,p7.fits,h.wf.set _ _,λbA iY=>?_⟩⟩
 ·by_cases bI:j=k
  ·subst bI;rw[bf]at hj;cases hj;exact ho hs
  ·rw[aZ j bI]at hj;refine(h.obj j o hj).step hs (kO j bI) (λbA iY=>?_) (hL j o hj bI);have:=(h.lt _ _ iY).2;exact⟨by rw[St.gW,if_neg (by omega)],hR _ (by omega)⟩
 ·unfold bV at h1 h2;split at h1<;>split at h2
  ·omega
  ·cases h1;have:=(h.lt _ _ h2).2;omega
  ·cases h2;have:=(h.lt _ _ h1).2;omega
  ·exact h.inj j j' bA h1 h2
 ·unfold bV at hj;split at hj
  ·cases hj;rename_i hh;subst hh;simp[St.add];omega
  ·have:=h.lt _ _ hj;simp[St.add];omega
 ·by_cases hc:bA=σ.n
  ·simp[St.add];omega
  ·rw[hR bA hc]at hm;have:=h.qw _ _ hm;simp[St.add];omega
 ·have Nw:σ.n+1<=bA:=iY;rw[St.gW,if_neg (by omega)];exact h.top bA (by omega)
end Go.Ev
namespace Go.Ev
variable{P:Program}{N:Nat}{ι:Io}{w:World}{σ ao:St}{e:Env}{rd:Option Nat}{fn:FuncId}{df:List Df}
abbrev jS:=Ex->Env->St->Prop
def dF(P:Program)(N:Nat)(rd:Option Nat)(c:Code)(e:Env)(df:List Df)(σ:St)(CW:jS):Prop:=
 ∀F ι a w Q,kr F rd ι->Inv N ι σ w->c9 ι e a.tmps->jX ι df a.defers->(∀ex e' ao,CW ex e' ao->ny N 0 ι w σ ⟨ex,e',df,ao⟩ Q)->c.wpIn F 0 P Q a w
def ou(P:Program)(N:Nat)(rd:Option Nat)(j:Nat)(c:Code)(e:Env)(df:List Df)(σ:St)(CW:jS):Prop:=
 ∀F ι a w Q,kr F rd ι->Inv N ι σ w->c9 ι e a.tmps->jX ι df a.defers->(∀ex e' ao,CW ex e' ao->ny N 0 ι w σ ⟨ex,e',df,ao⟩ Q)->Code.roundsIn F 0 P c Q j a w
def dp(P:Program)(N:Nat)(rd:Option Nat)(ops:Array Oper)(l:List Oper)(e:Env)(df:List Df)(σ:St)(CW:jS):Prop:=
 ∀F ι a w Q k,ops.toList.drop k=l->kr F rd ι->Inv N ι σ w->c9 ι e a.tmps->jX ι df a.defers->(∀ex e' ao,CW ex e' ao->ny N 0 ι w σ ⟨ex,e',df,ao⟩ Q)->
  wpOpsIn F 0 P ops Q (aus k l.length) a w
def dL(P:Program)(N:Nat)(f:FuncId)(args:List IV)(σ:St)(RW:IV->St->Prop):Prop:=
 ∀ι us w,Inv N ι σ w->aC ι args us->CallsIn asB 0 P f us.toArray w (λed w'=>∃v ao,RW v ao/\wL N 0 ι w σ v ao ed w')
variable{CW CW':jS}
theorem yg{ex:Ex}{a:Act}{Q:Exit->Act->World->Prop}(hi:Inv N ι σ w)(he:c9 ι e a.tmps)(hd:jX ι df a.defers)(hQ:ny N 0 ι w σ ⟨ex,e,df,σ⟩ Q)(hp:Vq ι [] ex):Q (G5 [] ex) a w:=
 hQ a w ι [] hi (Le.refl _ _ _ _) he hd hp
theorem dF.skip(h:CW .normal e σ):dF P N rd .skip e df σ CW:=
 λ_ ι a w _ _ hi he hd hQ=>wpIn_skip (yg hi he hd (hQ _ _ _ h) trivial)
theorem dF.label{l:Nat}(h:CW .normal e σ):dF P N rd (.label l) e df σ CW:=
 λ_ ι a w _ _ hi he hd hQ=>wpIn_label (yg hi he hd (hQ _ _ _ h) trivial)
theorem dF.exit{id:Nat}(h:CW (.exit id) e σ):dF P N rd (.exit id) e df σ CW:=
 λ_ ι a w _ _ hi he hd hQ=>wpIn_exit (yg hi he hd (hQ _ _ _ h) trivial)
theorem dF.ret(h:CW .ret e σ):dF P N rd .ret e df σ CW:=
 λ_ ι a w _ _ hi he hd hQ=>wpIn_ret (yg hi he hd (hQ _ _ _ h) trivial)
def vR(N:Nat)(next:Env->St->Prop)(CW:jS):jS:=λex e1 aq=>aq.n<=N/\(ex=.normal->next e1 aq)/\(ex≠.normal->CW ex e1 aq)
theorem dF.seq{x y:Code}(h:dF P N rd x e df σ (vR N (λe1 aq=>dF P N rd y e1 df aq CW) CW)):dF P N rd (.seq x y) e df σ CW:=by
 intro F ι a w Q hF hi he hd hQ;refine wpIn_seq (h F ι a w _ hF hi he hd λex e1 aq hc=>?_);obtain⟨hn,h1,h2⟩:=hc;intro a1 w1 cm eS i1 l1 cY d1 p1;cases ex with
 |normal=>
  refine h1 rfl F cm a1 w1 Q (hF.mono l1.ext) i1 cY d1 λex e' ao hc=>(hQ ex e' ao hc).from hi l1 hn
 |exit id=>exact hQ _ _ _ (h2 (by simp)) a1 w1 cm eS i1 l1 cY d1 p1
 |goto l=>exact hQ _ _ _ (h2 (by simp)) a1 w1 cm eS i1 l1 cY d1 p1
 |ret=>exact hQ _ _ _ (h2 (by simp)) a1 w1 cm eS i1 l1 cY d1 p1
 |bY v=>exact hQ _ _ _ (h2 (by simp)) a1 w1 cm eS i1 l1 cY d1 p1
theorem dF.cond{c:Operand}{x y:Code}{t:Bool}(hc:ax e c=.raw (.bool t))(h:dF P N rd (if t then x else y) e df σ CW):dF P N rd (.cond c x y) e df σ CW:=
 λF ι a w Q hF hi he hd hQ=>wpIn_cond (G6 hc (he.eval c)) (h F ι a w Q hF hi he hd hQ)
theorem dF.block{id:Nat}{x:Code}(h:dF P N rd x e df σ (λex e1 aq=>CW (match ex with|.exit i=>if i=id then .normal else .exit i|ex=>ex) e1 aq)):dF P N rd (.block id x) e df σ CW:=by
 intro F ι a w Q hF hi he hd hQ;refine wpIn_block (h F ι a w _ hF hi he hd λex e1 aq hc=>?_);intro a1 w1 cm eS i1 l1 cY d1 p1;cases ex with
 |exit i=>
  simp only[G5,Exit.inBlock];simp only at hc;split
  ·rename_i hh;rw[if_pos hh]at hc;exact hQ _ _ _ hc a1 w1 cm eS i1 l1 cY d1 trivial
  ·rename_i hh;rw[if_neg hh]at hc;exact hQ _ _ _ hc a1 w1 cm eS i1 l1 cY d1 trivial
 |normal=>exact hQ _ _ _ hc a1 w1 cm eS i1 l1 cY d1 p1
 |goto l=>exact hQ _ _ _ hc a1 w1 cm eS i1 l1 cY d1 p1
 |ret=>exact hQ _ _ _ hc a1 w1 cm eS i1 l1 cY d1 p1
 |bY v=>exact hQ _ _ _ hc a1 w1 cm eS i1 l1 cY d1 p1
theorem dF.scope{x:Code}(h:dF P N rd x e df σ (λex e1 aq=>(∀l,ex≠.goto l)/\CW ex e1 aq)):dF P N rd (.scope x) e df σ CW:=by
 intro F ι a w Q hF hi he hd hQ;refine Ig (h F ι a w _ hF hi he hd λex e1 aq hc=>?_);obtain⟨hx,hc⟩:=hc;intro a1 w1 cm eS i1 l1 cY d1 p1;have:=hQ _ _ _ hc a1 w1 cm eS i1 l1 cY d1 p1;cases hh:ex<;>rw[hh]at this<;>first|exact absurd hh (hx _)|exact this
theorem ou.succ{x:Code}{j:Nat}(h:dF P N rd x e df σ (vR N (λe1 aq=>ou P N rd j x e1 df aq CW) CW)):ou P N rd (j+1) x e df σ CW:=by
 intro F ι a w Q hF hi he hd hQ;rw[roundsIn_succ];refine h F ι a w _ hF hi he hd λex e1 aq hc=>?_;obtain⟨hn,h1,h2⟩:=hc;intro a1 w1 cm eS i1 l1 cY d1 p1;cases ex with
 |normal=>
  refine h1 rfl F cm a1 w1 Q (hF.mono l1.ext) i1 cY d1 λex e' ao hc=>(hQ ex e' ao hc).from hi l1 hn
 |exit id=>exact hQ _ _ _ (h2 (by simp)) a1 w1 cm eS i1 l1 cY d1 p1
 |goto l=>exact hQ _ _ _ (h2 (by simp)) a1 w1 cm eS i1 l1 cY d1 p1
 |ret=>exact hQ _ _ _ (h2 (by simp)) a1 w1 cm eS i1 l1 cY d1 p1
 |bY v=>exact hQ _ _ _ (h2 (by simp)) a1 w1 cm eS i1 l1 cY d1 p1
theorem dF.loop{x:Code}{j:Nat}(h:ou P N rd j x e df σ CW):dF P N rd (.loop x) e df σ CW:=
 λF ι a w Q hF hi he hd hQ=>wpIn_loop_rounds j (h F ι a w Q hF hi he hd hQ)
theorem dF.region{id:Nat}{ops:Array Oper}(h:dp P N rd ops ops.toList e df σ CW):dF P N rd (.region id ops af) e df σ CW:=by
 intro F ι a w Q hF hi he hd hQ;refine wpIn_region ?_;have:=h F ι a w Q 0 (by simp) hF hi he hd hQ;rw[List.range_eq_range'];simpa using this
theorem dF.Iw{c:Code}{cr:CR}(h:fC P 0 rd fn c e df σ cr)(hdf:cr.df=df)(hn:cr.σ.n<=N)(hc:CW cr.ex cr.e cr.σ):dF P N rd c e df σ CW:=by
 intro F ι a w Q hF hi he hd hQ;refine h.wp hn hF hi he hd ?_;have:=hQ _ _ _ hc;rw[<-hdf]at this;exact this
variable{ops:Array Oper}{o:Oper}{l:List Oper}
theorem dp.nil(h:CW .normal e σ):dp P N rd ops [] e df σ CW:=
 λ_ ι a w _ _ _ _ hi he hd hQ=>yg hi he hd (hQ _ _ _ h) trivial
theorem dp.cons(hw:aO o ops e=ab)
 (h:∀F ι a w Q k,ops.toList.drop (k+1)=l->kr F rd ι->Inv N ι σ w->c9 ι e a.tmps->jX ι df a.defers->(∀ex e' ao,CW ex e' ao->ny N 0 ι w σ ⟨ex,e',df,ao⟩ Q)->
  o.wpIn F 0 P a w (wpOpsIn F 0 P ops Q (aus (k+1) l.length)) Q):dp P N rd ops (o::l) e df σ CW:=by
 intro F ι a w Q k hl hF hi he hd hQ
 have gg:ops.toList.drop (k+1)=l:=by
  rw[<-auN (i:=1) (j:=k),hl];rfl
 have bp:ops[k]?=aa o:=by
  have:(ops.toList.drop k)[0]?=aa o:=by rw[hl];rfl
  simpa using this
 simp only[asV,avH];rw[wpOpsIn_cons];unfold wpOpIn;rw[bp];simp only;rw[sq he,if_pos hw];exact h F ι a w Q k gg hF hi he hd hQ
theorem dp.skip(hw:aO o ops e=af)(h:dp P N rd ops l (e.put o.dst .undef) df σ CW):dp P N rd ops (o::l) e df σ CW:=by
 intro F ι a w Q k hl hF hi he hd hQ
 have gg:ops.toList.drop (k+1)=l:=by
  rw[<-auN (i:=1) (j:=k),hl];rfl
 have bp:ops[k]?=aa o:=by
  have:(ops.toList.drop k)[0]?=aa o:=by rw[hl];rfl
  simpa using this
 simp only[asV,avH];rw[wpOpsIn_cons];unfold wpOpIn;rw[bp];simp only;rw[sq he,hw,if_neg (by simp)];exact⟨λf _=>hF.fn f,h F ι _ w Q (k+1) gg hF hi (he.put rQ _) (by cases o.dst<;>exact hd) hQ⟩
theorem dp.val{v:IV}{aq:St}(hw:aO o ops e=ab)(hv:av P 0 (ax e) o σ=aa (.val v aq))(hn:aq.n<=N)(h:dp P N rd ops l (e.put o.dst v) df aq CW):dp P N rd ops (o::l) e df σ CW:=by
 refine .cons hw λF ι a w Q k hl hF hi he hd hQ=>?_;refine⟨λf _=>hF.fn f,?_⟩;rw[atO _ _ _ (h_ hv (by simp))];obtain⟨u,w',aG,hr,h2,h3,h4⟩:=oI hi he.eval hv hn
 have key:wpOpsIn F 0 P ops Q (aus (k+1) l.length) (a.put o.dst u) w':=
  h F aG _ w' Q (k+1) hl (hF.mono h4.ext) h3 ((he.mono h4.ext).put h2 _) (hd.mono h4.ext|>λx=>by cases o.dst<;>exact x) (λex e' ao hc=>(hQ ex e' ao hc).from hi h4 hn)
 rcases hr with hr|⟨hr,rfl⟩
 ·rw[hr,avo];exact key
 ·rw[hr,Oper.uponIn_skip];exact key
theorem dp.call{f:FuncId}{args:List IV}{RW:IV->St->Prop}(hw:aO o ops e=ab)(hv:av P 0 (ax e) o σ=aa (.enter f args))(hc:dL P N f args σ RW)
 (h:∀v aq,RW v aq->aq.n<=N/\dp P N rd ops l (e.put o.dst v) df aq CW):dp P N rd ops (o::l) e df σ CW:=by
 refine .cons hw λF ι a w Q k hl hF hi he hd hQ=>?_;refine⟨λf _=>hF.fn f,?_⟩;rw[atO _ _ _ (h_ hv (by simp))];obtain⟨us,hr,h3⟩:=oI hi he.eval hv;rw[hr,avx];refine⟨hF.depth,(hF.calls (hc ι us w hi h3)).mono λed w' hR=>?_⟩;obtain⟨v,aq,q7,hR⟩:=hR;obtain⟨hn,h⟩:=h v aq q7;cases ed with
 |returned u=>
  obtain⟨aG,h2,h3,h4⟩:=hR;exact h F aG _ w' Q (k+1) hl (hF.mono h4.ext) h3 ((he.mono h4.ext).put h2 _) (hd.mono h4.ext|>λx=>by cases o.dst<;>exact x) (λex e' ao hc=>(hQ ex e' ao hc).from hi h4 hn)
 |outgrown=>exact hR.elim
 |panicked chain=>exact hR.elim
theorem dL.Iw{f:FuncId}{args:List IV}{v:IV}(h:gJ P 0 f args σ v ao)(hn:ao.n<=N):dL P N f args σ (λv1 aq=>v1=v/\aq=ao):=
 λι us w hi hr=>(h.2 N hn ι us w hi hr).mono λed w' hR=>⟨v,ao,⟨rfl,rfl⟩,hR⟩
theorem dL.body{f:FuncId}{fn:Func}{c:Code}{args:List IV}{RW:IV->St->Prop}(bT:P.funcs[f]?=aa fn)(hb:fn.body=aa c)(hlen:args.length<=fn.ntmps)
 (h:dF P N ah c (cJ args fn.ntmps) [] σ (λex e1 aq=>(ex=.normal\/ex=.ret)/\aq.n<=N/\∃v,bJ P fn e1 aq=aa v/\RW v aq)):dL P N f args σ RW:=by
 intro ι us w hi hr;refine callsIn_of_wp_marks bT hb trivial ?_;refine h asB ι {tmps:=us.toArray++atp (fn.ntmps- us.toArray.size) Go.undef,defers:=[]} w _ (.inl ⟨rfl,rfl⟩) hi (ya hr hlen) trivial λex e1 aq hc=>?_;obtain⟨hex,hn,v,hv,q7⟩:=hc;intro a1 w1 cm eS i1 l1 cY d1 p1
 have:∀u,oK cm ah u->LeavesInM asB 0 P fn a1.tmps (λed w'=>∃v ao,RW v ao/\wL N 0 ι w σ v ao ed w') a1.defers u w1:=λu hu=>
  rR (S:=Self.none) (ro:=0) (sw (P:=P)).1 (sw (P:=P)).2 rfl d1 hu i1 hn λw2 oD u2 i2 l2 q0=>by
   rw[show u2=_ from q0];obtain⟨u,k1,k2⟩:=s9 hv i2 (cY.mono l2.ext);exact⟨u,k1,v,aq,q7,oD,k2,i2,Le.then hi hn l1 l2⟩
 rcases hex with rfl|rfl
 ·exact this _ rfl
 ·exact this _ rfl
def wP(P:Program)(N:Nat)(f:FuncId)(args:List IV)(σ:St)(RW PW:IV->St->Prop):Prop:=
 ∀ι us w,Inv N ι σ w->aC ι args us->CallsIn asB 0 P f us.toArray w (λed w'=>(∃v ao,RW v ao/\wL N 0 ι w σ v ao ed w')\/(∃v ao,PW v ao/\Ns N 0 ι w σ v ao ed w'))
theorem dL.toX{f:FuncId}{args:List IV}{RW PW:IV->St->Prop}(h:dL P N f args σ RW):wP P N f args σ RW PW:=
 λι us w hi hr=>(h ι us w hi hr).mono λ_ _ hR=>.inl hR
theorem dp.panic{v:IV}(hw:aO o ops e=ab)(hv:av P 0 (ax e) o σ=aa (.bY v))(h:CW (.bY v) e σ):dp P N rd ops (o::l) e df σ CW:=by
 refine .cons hw λF ι a w Q k hl hF hi he hd hQ=>?_;refine⟨λf _=>hF.fn f,?_⟩;rw[atO _ _ _ (h_ hv (by simp))];obtain⟨u,hr,h3⟩:=oI hi he.eval hv;rw[hr,Oper.uponIn_panic];exact hQ _ _ _ h a w ι [{v:=u,recovered:=af}] hi (Le.refl _ _ _ _) he hd ⟨u,rfl,h3⟩
theorem dp.VF{f:FuncId}{args:List IV}{RW PW:IV->St->Prop}(hw:aO o ops e=ab)(hv:av P 0 (ax e) o σ=aa (.enter f args))(hc:wP P N f args σ RW PW)
 (h:∀v aq,RW v aq->aq.n<=N/\dp P N rd ops l (e.put o.dst v) df aq CW)(hp:∀v aq,PW v aq->CW (.bY v) e aq):dp P N rd ops (o::l) e df σ CW:=by
 refine .cons hw λF ι a w Q k hl hF hi he hd hQ=>?_;refine⟨λf _=>hF.fn f,?_⟩;rw[atO _ _ _ (h_ hv (by simp))];obtain⟨us,hr,h3⟩:=oI hi he.eval hv;rw[hr,avx];refine⟨hF.depth,(hF.calls (hc ι us w hi h3)).mono λed w' hR=>?_⟩;rcases hR with⟨v,aq,q7,hR⟩|⟨v,aq,hpw,hR⟩
 ·obtain⟨hn,h⟩:=h v aq q7;cases ed with
  |returned u=>
   obtain⟨aG,h2,h3,h4⟩:=hR;exact h F aG _ w' Q (k+1) hl (hF.mono h4.ext) h3 ((he.mono h4.ext).put h2 _) (hd.mono h4.ext|>λx=>by cases o.dst<;>exact x) (λex e' ao hc=>(hQ ex e' ao hc).from hi h4 hn)
  |outgrown=>exact hR.elim
  |panicked chain=>exact hR.elim
 ·cases ed with
  |returned u=>exact hR.elim
  |outgrown=>exact hR.elim
  |panicked chain=>
   obtain⟨aG,h4,h5,h6⟩:=hR;exact hQ _ _ _ (hp v aq hpw) a w' aG chain h5 h6 (he.mono h6.ext) (hd.mono h6.ext) h4
def xz(σ:St)(id:Nat)(x:IV):St:=((σ.add (.cells [.int 0] 0 0)).put σ.n (.cells [x] 0 0)).put id (.cells [x] 0 0)
def D6(P:Program)(g:FuncId)(t:TypeId):Prop:=
 ∀(N:Nat) (cl:IV) (f:FuncId) (as:List IV) (σ:St) (RW PW Te:IV->St->Prop),gu P cl []=aa (.enter f as)->σ.n+1<=N->wP P N f as (σ.add (.cells [.int 0] 0 0)) RW PW->
  (∀v dm,RW v dm->dm.at σ.n=aa (.cells [.int 0] 0 0)/\dm.n<=N/\Te (.int 0) (dm.put σ.n (.cells [.int 0] 0 0)))->
  (∀v dm,PW v dm->∃u,v=.di t (.agg [.raw u])/\aj (.raw u)=ab/\dm.at σ.n=aa (.cells [.int 0] 0 0)/\dm.n+1<=N/\σ.n<dm.n/\Te (.raw u) (xz dm σ.n (.raw u)))->dL P N g [cl] σ Te
theorem wP.body{f:FuncId}{fn:Func}{c:Code}{args:List IV}{RW PW:IV->St->Prop}(bT:P.funcs[f]?=aa fn)(hb:fn.body=aa c)(hlen:args.length<=fn.ntmps)
 (h:dF P N ah c (cJ args fn.ntmps) [] σ (λex e1 aq=>aq.n<=N/\(((ex=.normal\/ex=.ret)/\∃v,bJ P fn e1 aq=aa v/\RW v aq)\/∃v,ex=.bY v/\PW v aq))):wP P N f args σ RW PW:=by
 intro ι us w hi hr;refine callsIn_of_wp_marks bT hb trivial ?_;refine h asB ι {tmps:=us.toArray++atp (fn.ntmps- us.toArray.size) Go.undef,defers:=[]} w _ (.inl ⟨rfl,rfl⟩) hi (ya hr hlen) trivial λex e1 aq hc=>?_;obtain⟨hn,hc⟩:=hc;intro a1 w1 cm eS i1 l1 cY d1 p1;rcases hc with⟨hex,v,hv,q7⟩|⟨v,rfl,hpw⟩
 ·have:∀u,oK cm ah u->LeavesInM asB 0 P fn a1.tmps (λed w'=>(∃v ao,RW v ao/\wL N 0 ι w σ v ao ed w')\/(∃v ao,PW v ao/\Ns N 0 ι w σ v ao ed w')) a1.defers u w1:=λu hu=>
   rR (S:=Self.none) (ro:=0) (sw (P:=P)).1 (sw (P:=P)).2 rfl d1 hu i1 hn λw2 oD u2 i2 l2 q0=>by
    rw[show u2=_ from q0];obtain⟨u,k1,k2⟩:=s9 hv i2 (cY.mono l2.ext);exact⟨u,k1,.inl ⟨v,aq,q7,oD,k2,i2,Le.then hi hn l1 l2⟩⟩
  rcases hex with rfl|rfl
  ·exact this _ rfl
  ·exact this _ rfl
 ·have:∀u,oK cm (aa v) u->LeavesInM asB 0 P fn a1.tmps (λed w'=>(∃v ao,RW v ao/\wL N 0 ι w σ v ao ed w')\/(∃v ao,PW v ao/\Ns N 0 ι w σ v ao ed w')) a1.defers u w1:=λu hu=>
   rR (S:=Self.none) (ro:=0) (sw (P:=P)).1 (sw (P:=P)).2 rfl d1 hu i1 hn λw2 oD u2 i2 l2 q0=>by
    obtain⟨x,rfl,hx⟩:=q0;exact .inr ⟨v,aq,hpw,oD,⟨x,rfl,hx⟩,i2,Le.then hi hn l1 l2⟩
  obtain⟨u,rfl,hu⟩:=p1;exact this _ ⟨u,rfl,hu⟩
theorem eZ.Da{new:Bool}{f:FuncId}{xs:List IV}{z:IV}{RW:IV->St->Prop}{N:Nat}(h:dL P N f xs ⟨0,.lf⟩ RW)(hc:∀v ao,RW v ao->Can (!new) ao v z):eZ P af new f xs z:=by
 intro M w us hM hr;refine(h (ew M) us w (Fo hM) hr).mono λe w' hR=>?_;obtain⟨v,ao,q7,hR⟩:=hR;cases e with
 |returned u=>
  obtain⟨aG,h1,h2,h3⟩:=hR;exact⟨rfl,Tb hM (hc v ao q7) h1 h2 h3⟩
 |panicked ch=>exact hR.elim
 |outgrown=>exact hR.elim
end Go.Ev
namespace Go.Ev
variable{P:Program}{N:Nat}{ι:Io}{w:World}{σ ao:St}{e:Env}{rd:Option Nat}{fn:FuncId}{df:List Df}{CW:jS}{ops:Array Oper}{o:Oper}{l:List Oper}
theorem afW(t m:Nat)(h:m<1000000):((t+1)*1000000+m) % 1000000=m:=by omega
theorem acJ(t m:Nat):1000000<=(t+1)*1000000+m:=by omega
theorem acK{kt:Nat}(h:1000000<=kt)(h0:kt=0):False:=by omega
theorem D7{kt:Nat}(h:1000000<=kt):gB kt=ab:=by
 unfold gB;rw[asL];exact .inr (by simpa using h)
theorem Left.init(ds:List IV):Left ds [] ds:=by
 refine⟨ds.zipIdx,by simp,by simp[List.zipIdx_map_snd,List.nodup_range'],λp hp=>⟨?_,by simp⟩,λi hi _=>?_⟩
 ·obtain⟨a,b⟩:=p;exact atb.1 hp
 ·exact⟨(ds[i],i),atb.2 (ar2 hi),rfl⟩
theorem wi{α β:Type}(f:α->β):∀(l:List α) (i:Nat),(l.map f).eraseIdx i=(l.eraseIdx i).map f
 |[],_=>rfl
 |_::_,0=>rfl
 |_::l,i+1=>by simp[wi f l i]
theorem Left.empty{ds:List IV}{seen:List Nat}{rem:List IV}(h:Left ds seen rem)(hs:∀i,i<ds.length->i∈seen):rem=[]:=by
 obtain⟨ps,rfl,_,h3,_⟩:=h;cases ps with
 |nil=>rfl
 |cons p ps=>
  obtain⟨h1,h2⟩:=h3 p (by simp);exact absurd (hs _ (ar3.1 h1).1) h2
theorem ON{p:Nat->Nat->Prop}:∀(n:Nat),(∀i,i<n->∃b,∀N,b<=N->p i N)->∃b,∀i,i<n->∀N,b<=N->p i N
 |0,_=>⟨0,λi hi=>absurd hi (Nat.not_lt_zero _)⟩
 |n+1,h=>by
  obtain⟨b,hb⟩:=ON n λi hi=>h i (by omega);obtain⟨c,hc⟩:=h n (by omega);refine⟨max b c,λi hi N hN=>?_⟩;by_cases he:i=n
  ·subst he;exact hc N (by omega)
  ·exact hb i (by omega) N (by omega)
theorem Left.has{ds:List IV}{seen:List Nat}{rem:List IV}(h:Left ds seen rem){i:Nat}(hi:i<ds.length)(hn:i∉seen):∃(j:Nat) (y:IV),rem[j]?=aa y/\ds[i]?=aa y/\Left ds (seen++[i]) (rem.eraseIdx j):=by
 obtain⟨ps,rfl,h2,h3,h4⟩:=h;obtain⟨p,hp,rfl⟩:=h4 i hi hn;obtain⟨j,hj⟩:=au7.1 hp;refine⟨j,p.1,by simp[hj],(h3 p hp).1,ps.eraseIdx j,by rw[wi],?_,λq hq=>?_,λi hi hn=>?_⟩
 ·rw[<-wi];exact h2.sublist (List.eraseIdx_sublist _ _)
 ·obtain⟨k,hk,hkq⟩:=avz.1 hq;have vS:=ash hkq;refine⟨(h3 q vS).1,?_⟩;simp only[asn,asU,not_or];refine⟨(h3 q vS).2,λhe=>hk ?_⟩;have a1:(ps.map (·.2))[k]?=aa p.2:=by simp[hkq,he]
  have a2:(ps.map (·.2))[j]?=aa p.2:=by simp[hj]
  have mZ:=(ar3.1 a1).1;exact(List.getElem?_inj mZ h2).1 (a1.trans a2.symm)
 ·simp only[asn,asU,not_or]at hn;obtain⟨q,hq,rfl⟩:=h4 i hi hn.1;obtain⟨k,hk⟩:=au7.1 hq;refine⟨q,avz.2 ⟨k,λhe=>?_,hk⟩,rfl⟩;subst he;rw[hj]at hk;cases hk;exact hn.2 rfl
theorem Ke(n:Nat)(hn:0<n)(w:World):∃i w',i<n/\(choose (.mapNext n)).run P w=.ok i w'/\(w'=w\/w'={w with drawn:=w.drawn+1}):=by
 by_cases h:n<=1
 ·exact⟨0,w,hn,by simp[choose,atV,at3,h],.inl rfl⟩
 ·exact⟨w.tape w.drawn (.mapNext n) % n,_,Nat.mod_lt _ hn,by simp[choose,atV,at3,h,Question.cut],.inr rfl⟩
theorem Sx{r m:Nat}{res:Array MapEntry}{seen:Array Nat}{n clock:Nat}{t:TypeId}(hh:w.heap[r]?=aa (.mapIter (aa m) n seen n))(Gs:w.heap[m]?=aa (.map res clock))(hn:clock=n)(hb:∀e∈res,e.born<n):
 ∃w0,(w0=w\/w0={w with drawn:=w.drawn+1})/\(((∀e∈res,e.born∈seen)/\(auh (.pointer (aa ⟨r,0,ah⟩)) af t).run P w=.ok (.tuple #[.bool af]) w0)\/
  ∃e∈res,e.born∉seen/\(auh (.pointer (aa ⟨r,0,ah⟩)) af t).run P w=.ok (.tuple #[.bool ab,e.key,e.val]) {w0 with heap:=w0.heap.setIfInBounds r (.mapIter (aa m) n (seen.push e.born) n)}):=by
 subst hn
 have bP:¬((!seen.isEmpty&& !res.isEmpty&&res.all (λe=>decide (e.born≥clock)))=ab):=by
  intro hc;simp only[ar4,Array.all_eq_true_iff_forall_mem,decide_eq_true_eq]at hc;have aZ:res.size≠0:=by have:=hc.1.2;simpa using this
  have:=hc.2 (res[0]'(by omega)) (by simp)
  have:=hb (res[0]'(by omega)) (by simp)
  omega
 have hold:∀left:Array MapEntry,(∀e∈left,e∈res)->left.filter (λe=>decide (e.born<clock))=left:=λleft hl=>by
  rw[Array.filter_eq_self];intro a ha;simp[hb a (hl a ha)]
 have eV:∀left:Array MapEntry,(∀e∈left,e∈res)->left.filter (λe=>decide (e.born≥clock))= #[]:=λleft hl=>by
  rw[Array.filter_eq_empty_iff];intro a ha;have:=hb a (hl a ha);simp;omega
 have fc:∀e∈res.filter (λe=> !seen.contains e.born),e∈res:=λe he=>(avt.1 he).1;generalize Nx:res.filter (λe=> !seen.contains e.born)=left at fc;by_cases hl:left= #[]
 ·subst hl;refine⟨w,.inl rfl,.inl ⟨λe he=>?_,?_⟩⟩
  ·have h1:e∉res.filter (λe=> !seen.contains e.born):=by rw[Nx];simp
   refine asO λhn=>h1 (avt.2 ⟨he,?_⟩);simpa using hn
  ·simp only[auh,ar_,bU (P:=P) hh (by simp),ar7,bU (P:=P) Gs (by simp)];rw[if_neg bP];simp only[ar_,Nx,hold #[] fc,eV #[] fc];simp[choose,atV,at3]
 ·have aT:0<(left.map aa).size:=by
   have:left.size≠0:=by simpa using hl
   simp;omega
  obtain⟨c,w0,hc,fJ,GA⟩:=Ke (P:=P) (left.map aa).size aT w;have xQ:c<left.size:=by simpa using hc
  have vL:left[c]∈left:=by simp
  refine⟨w0,GA,.inr ⟨left[c],fc _ vL,?_,?_⟩⟩
  ·have:left[c]∈res.filter (λe=> !seen.contains e.born):=by rw[Nx];exact vL
   have:=(avt.1 this).2;simpa using this
  ·have Ia:w0.heap[r]?=aa (.mapIter (aa m) clock seen clock):=by
    rcases GA with rfl|rfl<;>exact hh
   have hem:left.isEmpty=af:=by simpa using hl
   simp only[auh,ar_,bU (P:=P) hh (by simp),ar7,bU (P:=P) Gs (by simp)];rw[if_neg bP];simp only[ar_,Nx,hold left fc,eV left fc,hem,Bool.false_eq_true,if_false,Array.empty_append,Array.append_empty,fJ,ar7];have:(left.map aa)[c]?=aa (aa left[c]):=by simp[xQ]
   rw[this];simp only[ar_,eH (P:=P) Ia (by simp),ar7,Sem.run_pure]
theorem dp.aji{it:Operand}{id m:Nat}{es:List (Value×IV×Nat)}{seen:List Nat}{clock:Nat}(hw:aO o ops e=ab)(ho:o.op=.next it af)(hit:ax e it=.ptr id 0 0 1)
 (aE:σ.at id=aa (.jz (aa m) es.length seen es.length))(Oe:σ.at m=aa (.map es clock))(hc:Canon es clock)(hN:σ.n<=N)
 (h0:(∀i,i<es.length->i∈seen)->dp P N rd ops l (e.put o.dst (.az [.bool af])) df σ CW)
 (h1:∀i en,es[i]?=aa en->i∉seen->dp P N rd ops l (e.put o.dst (.az [.bool ab,lift en.1,en.2.1])) df (σ.put id (.jz (aa m) es.length (seen++[i]) es.length)) CW):dp P N rd ops (o::l) e df σ CW:=by
 refine .cons hw λF ι a w Q k hl hF hi he hd hQ=>?_;refine⟨λf _=>hF.fn f,?_⟩;rw[atO _ _ _ (λc hc=>by rw[ho]at hc;cases hc)];have hr:=he.eval it;rw[hit]at hr;generalize hq:a.eval it=q at hr;cases hr with
 |ptr _ _ _ _ lo zd hle=>
  have ai:lo.b<w.heap.size:=hi.iO id _ ⟨_,_,zd,rfl⟩;obtain⟨l',mr,cq,hh,lm,Od,rfl⟩:=hi.obj id _ aE;rw[zd]at cq;cases cq;obtain⟨lm',res,DG,Gs,oJ⟩:=hi.obj m _ Oe;rw[Od]at DG;cases DG;have dV:=hc.1
  have VG:∀(i:Nat) (r:MapEntry),res[i]?=aa r->i<es.length/\r.born=i:=by
   intro i r hr;have cW:i<es.length:=by have:=(Array.getElem?_eq_some_iff.1 hr).1;rw[oJ.1];exact this
   exact⟨cW,((oJ.2 i es[i] r (ar2 cW) hr).2.2).trans (hc.2 i _ (ar2 cW))⟩
  have qu:∀r∈res,∃i,res[i]?=aa r:=λr hr=>by
   obtain⟨i,hi,rfl⟩:=Array.mem_iff_getElem.1 hr;exact⟨i,asw hi⟩
  obtain⟨w0,GA,er⟩:=Sx (P:=P) (t:=o.type) hh Gs dV (λr hr=>by
   obtain⟨i,hi⟩:=qu r hr;have:=VG i r hi;omega)
  have C4:Inv N ι σ w0:=by rcases GA with rfl|rfl;exact hi;exact hi.same rfl
  have afX:Le 0 ι w σ ι w0 σ:=by rcases GA with rfl|rfl;exact Le.refl _ _ _ _;exact Le.same rfl rfl rfl rfl
  rcases er with⟨bz,fJ⟩|⟨r,hrm,GB,fJ⟩
  ·have hx:(execOp a.eval o).run P w=.ok (.value (.tuple #[.bool af])) w0:=by
    simp only[execOp,ho,hq];simp only[ar_,axH,fJ];rfl
   rw[hx,avo];refine h0 (λi hi=>?_) F ι _ w0 Q (k+1) hl hF C4 (he.put (p5 (aC.cons (.raw _) aC.nil)) _) (by cases o.dst<;>exact hd) (λex e' ao hc=>(hQ ex e' ao hc).from hi afX hN);have cW:i<res.size:=by rw[<-oJ.1];exact hi
   have:=bz res[i] (by simp);rw[(VG i res[i] (asw cW)).2]at this;simpa using this
  ·obtain⟨i,hri⟩:=qu r hrm;obtain⟨uu,N3⟩:=VG i r hri
   have hx:(execOp a.eval o).run P w=.ok (.value (.tuple #[.bool ab,r.key,r.val])) {w0 with heap:=w0.heap.setIfInBounds lo.b (.mapIter (aa lm.b) es.length (seen.toArray.push r.born) es.length)}:=by
    simp only[execOp,ho,hq];simp only[ar_,axH,fJ];rfl
   rw[hx,avo];obtain⟨hk,hv,hb⟩:=oJ.2 i es[i] r (ar2 uu) hri;have jT:lo.b<w0.heap.size:=by rcases GA with rfl|rfl<;>exact ai
   obtain⟨r1,r2⟩:=C4.kF (ro:=0) (eK:=.jz (aa m) es.length (seen++[i]) es.length) (go:=.mapIter (aa lm.b) es.length (seen.toArray.push r.born) es.length) aE (Nat.zero_le _) zd ⟨lo,aa lm.b,zd,by simp[jT,N3],lm,Od,rfl⟩;have Hh:=Le.then hi hN afX r2;refine h1 i es[i] (ar2 uu) (by rw[N3]at GB;simpa using GB) F ι _ _ Q (k+1) hl hF r1 (he.put ?_ _) (by cases o.dst<;>exact hd) (λex e' ao hc=>(hQ ex e' ao hc).from hi Hh hN);rw[<-hk];exact p5 (aC.cons (.raw _) (aC.cons (Rv.lift _) (aC.cons hv aC.nil)))
end Go.Ev
namespace Go.Ev
attribute [local instance] afT
variable{P:Program}{ro:Nat}{σ:St}{ρ:Operand->IV}{o:Oper}{out:eC}
structure jZ where
 nt:Nat
 cH:List Nat
 emp:List Nat
 tg:List (Nat×Nat):=[]
 ld:List (Nat×Nat×Nat×Nat):=[]
def wj(l:List Nat)(t:Nat):Bool:=l.any (asc t)
def Ix(l:List Nat):Operand->Bool
 |.tmp t=>wj l t
 |_=>af
def jZ.del(T:jZ):Option Nat->jZ
 |some d=>⟨T.nt,T.cH.filter (λt=> !asc t d),T.emp.filter (λt=> !asc t d),T.tg.filter (λp=> !asc p.1 d),T.ld.filter (λp=> !asc p.2.1 d&& !asc p.2.2.1 d)⟩
 |none=>T
def OO(T:jZ)(o:Oper):jZ:=
 let D:=T.del o.dst
 match o.dst with
 |some d=>if !as7 d T.nt then D else match o.op with
  |.fieldAddr _ x _=>if Ix T.cH x then{D with cH:=d::D.cH}else D
  |.buildSlice _ 0 _=>if o.guard.isNone then{D with emp:=d::D.emp}else D
  |_=>D
 |_=>D
def Fv(l:List (Nat×Nat))(t:Nat):Option Nat:=
 match l with
 |[]=>ah
 |(a,h)::l=>if asc a t then aa h else Fv l t
def OP(T:jZ)(o:Oper):List (Nat×Nat):=
 match o.guard,o.dst,o.op with
 |none,aa d,.fieldAddr _ (.tmp x) _=>(match Fv T.tg x with
  |some h=>if as7 d T.nt then(d,h)::(T.del o.dst).tg else(T.del o.dst).tg
  |none=>(T.del o.dst).tg)
 |_,_,_=>(T.del o.dst).tg
def OQ(T:jZ)(o:Oper)(j:Nat):List (Nat×Nat×Nat×Nat):=
 match dj o with
 |.pure=>(T.del o.dst).ld
 |.load=>(match o.guard,o.dst,o.op with
  |none,aa d,.load _ (.tmp a)=>(match Fv T.tg a with
   |some h=>if as7 d T.nt&& !asc a d then(j,a,d,h)::(T.del o.dst).ld else(T.del o.dst).ld
   |none=>(T.del o.dst).ld)
  |_,_,_=>(T.del o.dst).ld)
 |_=>[]
def GC(T:jZ)(o:Oper)(j:Nat):jZ:={OO T o with tg:=OP T o,ld:=OQ T o j}
def Hi(pl:dR)(j:Nat):Bool:=
 (atD j).all λi=>asp (pl.b_.getD j 0) i||(match pl.kinds.getD i .effect with|.alloc|.effect|.call=>af|_=>ab)
def afY(pl:dR)(j:Nat):Bool:=
 (atD j).all λi=>asp (pl.b_.getD j 0) i||(match pl.kinds.getD i .effect with|.effect=>af|_=>ab)
def BJ(pl:dR)(j:Nat):Bool:=
 (atD j).all λi=>asp (pl.b_.getD j 0) i||(match pl.kinds.getD i .effect with|.pure=>ab|_=>af)
def Kf(o:Oper):Option Operand:=
 match o.op with
 |.call {callee:=.builtin .append,args,.. }=>args.toList.head?
 |_=>ah
def Kg(P:Program)(o:Oper):Bool:=
 match o.op with
 |.call {callee:=.builtin .len,argTypes,.. }=>match(argTypes[0]?).bind P.underlying with
  |some (.slice _)|some .string=>ab
  |_=>af
 |_=>af
def D8(pl:dR)(T:jZ)(o:Oper)(j:Nat):Bool:=
 match o.guard,o.op with
 |none,.store _ (.tmp a) _=>(match Fv T.tg a with
  |some g=>Hi pl j&&(atD j).all λi=>asp (pl.b_.getD j 0) i||(match pl.kinds.getD i .effect with
   |.load=>T.ld.any λp=>asc p.1 i&& !asc p.2.2.2 g
   |.effect=>af
   |_=>ab)
  |none=>af)
 |_,_=>af
def kZ(P:Program)(pl:dR)(T:jZ)(o:Oper)(j:Nat):Bool:=
 match pl.kinds.getD j .effect with
 |.pure=>dj o==.pure
 |.alloc=>dj o==.alloc&&ab
 |.load=>dj o==.load&&(Hi pl j||(afY pl j&&(Kg P o||match o.op with|.load _ a=>Ix T.cH a|_=>af)))
 |.call=>dj o==.call&&Hi pl j&&(AS o||(match Kf o with|some a=>Ix T.emp a|none=>af))
 |.effect=>BJ pl j||D8 pl T o j
def mI(P:Program)(pl:dR):List (Oper×Nat)->jZ->Bool
 |[],_=>ab
 |(o,j)::l,T=>kZ P pl T o j&&mI P pl l (GC T o j)
def aaU(n0:Nat)(x:IV):Prop:=(∃id off ep ext,x=.ptr id off ep ext/\id<n0)\/(∃cs,x=.lp cs)\/x=.undef
structure lW(n0:Nat)(e:Env)(T:jZ):Prop where
 n:e.n=T.nt
 cH:∀t,wj T.cH t=ab->aaU n0 (e.at t)
 emp:∀t,wj T.emp t=ab->e.at t=.emp
theorem Al{l:List Nat}{d t:Nat}(h:wj (l.filter λt=> !asc t d) t=ab):wj l t=ab/\t≠d:=by
 unfold wj at h⊢;rw[avI]at h⊢;obtain⟨x,hx,hxt⟩:=h;obtain⟨h1,h2⟩:=atc.1 hx;have:=asb hxt;subst this;exact⟨⟨t,h1,by simp⟩,λh=>by subst h;simp at h2⟩
theorem zp{l:List Nat}{d t:Nat}(h:wj (d::l) t=ab):t=d\/wj l t=ab:=by
 unfold wj at h⊢;simp only[List.any_cons,asL]at h;exact h.imp (λh=>asb h) id
theorem ft{e:Env}{d t:Nat}{v:IV}(h:t≠d):(e.put (aa d) v).at t=e.at t:=by
 unfold Env.put Env.at;simp only;split
 ·rw[T.fW,if_neg (Ne.symm h)]
 ·rfl
theorem dN{e:Env}{d:Nat}{v:IV}(h:d<e.n):(e.put (aa d) v).at d=v:=by
 unfold Env.put Env.at;simp only;rw[if_pos (by simpa using h),T.fW,if_pos rfl];rfl
theorem afZ(e:Env)(d:Option Nat)(v:IV):(e.put d v).n=e.n:=by
 unfold Env.put;split
 ·rfl
 ·split<;>rfl
theorem lW.del{n0:Nat}{e:Env}{T:jZ}(h:lW n0 e T)(d:Option Nat)(v:IV):lW n0 (e.put d v) (T.del d):=by
 cases d with
 |none=>exact h
 |some d=>
  refine⟨by rw[afZ];exact h.n,λt ht=>?_,λt ht=>?_⟩
  ·obtain⟨h1,h2⟩:=Al ht;rw[ft h2];exact h.cH t h1
  ·obtain⟨h1,h2⟩:=Al ht;rw[ft h2];exact h.emp t h1
theorem LN{n0:Nat}{e:Env}{T:jZ}(h:lW n0 e T){x:Operand}(hx:Ix T.cH x=ab):aaU n0 (ax e x):=by
 cases x with
 |tmp t=>exact h.cH t hx
 |_=>cases hx
theorem XW{n0:Nat}{e:Env}{T:jZ}(h:lW n0 e T){x:Operand}(hx:Ix T.emp x=ab):ax e x=.emp:=by
 cases x with
 |tmp t=>exact h.emp t hx
 |_=>cases hx
theorem lW.ajj{n0:Nat}{e:Env}{T:jZ}{v:IV}{aq:St}(h:lW n0 e T)(hv:av P ro (ax e) o σ=aa (.val v aq)):lW n0 (e.put o.dst v) (OO T o):=by
 have hd:=h.del o.dst v;unfold OO;simp only;split
 ·rename_i d fY;split
  ·exact hd
  ·rename_i ai;have fX:d<e.n:=by rw[h.n];simpa using ai
   split
   ·rename_i s x f ho;split
    ·rename_i hx;refine⟨hd.n,λt ht=>?_,hd.emp⟩;rcases zp ht with rfl|ht
     ·rw[fY,dN fX];have ho:=LN h hx;unfold av at hv;rw[‹o.op=_›]at hv;dsimp only at hv
      repeat' split at hv
      all_goals first|(cases hv;done)|skip
      ·rename_i he _;rcases ho with⟨bA,JX,ep',ext',h1,h2⟩|⟨cs,h1⟩|h1
       ·rw[he]at h1;cases h1;have:=aJ hv;cases this;exact .inl ⟨_,_,_,_,rfl,h2⟩
       ·rw[he]at h1;cases h1
       ·rw[he]at h1;cases h1
      ·have:=aJ hv;cases this;exact .inr (.inl ⟨_,rfl⟩)
     ·exact hd.cH t ht
    ·exact hd
   ·rename_i t0 parts ho;split
    ·refine⟨hd.n,hd.cH,λt ht=>?_⟩;rcases zp ht with rfl|ht
     ·rw[fY,dN fX];unfold av at hv;rw[ho]at hv;dsimp only at hv
      repeat' split at hv
      all_goals first|(cases hv;done)|skip
      all_goals first|(have:=aJ hv;cases this;rfl)|(exfalso;omega)|skip
     ·exact hd.emp t ht
    ·exact hd
   ·exact hd
 ·exact hd
theorem lW.ajk{n0:Nat}{e:Env}{T:jZ}{v:IV}{ops:Array Oper}(h:lW n0 e T)(hw:(aO o ops e=af/\v=.undef)\/dj o=.call\/dj o=.effect):lW n0 (e.put o.dst v) (OO T o):=by
 have hd:=h.del o.dst v;unfold OO;simp only;split
 ·rename_i d fY;split
  ·exact hd
  ·rename_i ai;have fX:d<e.n:=by rw[h.n];simpa using ai
   rcases hw with⟨hw,rfl⟩|hw
   ·split
    ·split
     ·refine⟨hd.n,λt ht=>?_,hd.emp⟩;rcases zp ht with rfl|ht
      ·rw[fY,dN fX];exact .inr (.inr rfl)
      ·exact hd.cH t ht
     ·exact hd
    ·split
     ·rename_i hg;unfold aO at hw;rw[Option.isNone_iff_eq_none.1 hg]at hw;cases hw
     ·exact hd
    ·exact hd
   ·unfold dj at hw;split
    ·rename_i ho;rw[ho]at hw;rcases hw with hw|hw<;>cases hw
    ·rename_i ho;rw[ho]at hw;rcases hw with hw|hw<;>cases hw
    ·exact hd
 ·exact hd
theorem VH{n0:Nat}{e:Env}{t:TypeId}{a:Operand}{v:IV}{aq:St}(ho:o.op=.load t a)(ha:aaU n0 (ax e a))(hv:av P ro (ax e) o σ=aa (.val v aq)){ao:St}(Im:∀id,id<n0->ao.at id=σ.at id)(fQ:Nat):
 av P fQ (ax e) o ao=aa (.val v ao):=by
 unfold av at hv⊢;rw[ho]at hv⊢;dsimp only at hv⊢;rcases ha with⟨id,off,ep,ext,h1,h2⟩|⟨cs,h1⟩|h1
 ·rw[h1]at hv⊢;dsimp only at hv⊢;rw[Im id h2]
  repeat' split at hv
  all_goals first|(cases hv;done)|skip
  have:=aJ hv;cases this
  simp_all[ret]
 ·rw[h1]at hv⊢;dsimp only at hv⊢
  repeat' split at hv
  all_goals first|(cases hv;done)|skip
  have:=aJ hv;cases this
  simp_all[ret]
 ·rw[h1]at hv;simp only[IV.undef]at hv
  repeat' split at hv
  all_goals first|(cases hv;done)|skip
theorem aaV{e:Env}{v:IV}{aq:St}(h:Kg P o=ab)(hv:av P ro (ax e) o σ=aa (.val v aq))(fQ:Nat)(ao:St):av P fQ (ax e) o ao=aa (.val v ao):=by
 unfold Kg at h;split at h<;>first|(cases h;done)|skip
 rename_i args ats ho
 have hl:∀x τ τ' u,oC P ats x τ=aa u->oC P ats x τ'=aa u:=by
  intro x τ τ' u hu;unfold oC at hu⊢;cases hq:(ats[0]?).bind P.underlying with
  |none=>rw[hq]at h;cases h
  |some td=>
   cases td<;>rw[hq]at h hu<;>first|(cases h;done)|skip
   all_goals
    cases x<;>first|exact hu|skip
    rename_i v;cases v<;>first|exact hu|(rename_i a b c;cases a<;>exact hu)
 simp only[av,ho,dB]at hv⊢;split at hv<;>first|(cases hv;done)|skip
 obtain⟨u,hu,hv⟩:=ar9.1 hv;cases hv;rw[hl _ _ ao _ hu];rfl
theorem af0{e:Env}{a:Operand}{v:IV}{aq:St}(hb:Kf o=aa a)(ha:ax e a=.emp)(hv:av P ro (ax e) o σ=aa (.val v aq)):(∀fQ,av P fQ (ax e) o σ=aa (.val v aq))/\(aq=σ\/∃ob,aq=σ.add ob):=by
 unfold Kf at hb;split at hb<;>first|(cases hb;done)|skip
 rename_i args ats fq;unfold av at hv⊢;rw[fq]at hv⊢;dsimp only at hv⊢;unfold dB at hv⊢;split at hv
 ·split at hv<;>first|(cases hv;done)|skip
  rename_i s x br
  have hs:s=.emp:=by
   cases hl:args.toList with
   |nil=>rw[hl]at hb;cases hb
   |cons y l=>
    rw[hl]at hb br;simp only[List.head?_cons,ar6]at hb;subst hb;simp only[List.map_cons,as4]at br;rw[<-br.1,ha]
  subst hs;unfold kE at hv⊢
  repeat' split at hv
  all_goals first|(cases hv;done)|skip
  simp only[*];unfold eD at hv⊢;simp only at hv⊢;split at hv
  ·have:=aJ hv;cases this;refine⟨λ_=>?_,.inl rfl⟩
   simp_all
  ·refine⟨λ_=>by simp_all,?_⟩;unfold fk at hv
   repeat' split at hv
   all_goals first|(cases hv;done)|skip
   have:=aJ hv;cases this;exact .inr ⟨_,rfl⟩
 all_goals (first|(exfalso;simp_all;done)|(simp_all;done))
theorem lW.step{n0:Nat}{e:Env}{T:jZ}{v:IV}{aq:St}(j:Nat)(h:lW n0 e T)(hv:av P ro (ax e) o σ=aa (.val v aq)):lW n0 (e.put o.dst v) (GC T o j):=
 have:=h.ajj hv
 ⟨this.n,this.cH,this.emp⟩
theorem lW.skip{n0:Nat}{e:Env}{T:jZ}{v:IV}{ops:Array Oper}(j:Nat)(h:lW n0 e T)(hw:(aO o ops e=af/\v=.undef)\/dj o=.call\/dj o=.effect):lW n0 (e.put o.dst v) (GC T o j):=
 have:=h.ajk hw
 ⟨this.n,this.cH,this.emp⟩
structure tx(P:Program)(ops:Array Oper)(θ:Nat->Option Nat)(e:Env)(σ:St)(T:jZ):Prop where
 tg:∀t h,(t,h)∈T.tg->∃id off ep ext,θ h=aa id/\e.at t=.ptr id off ep ext
 ld:∀i a d h,(i,a,d,h)∈T.ld->∃p ty id off ep ext,ops[i]?=aa p/\p.op=.load ty (.tmp a)/\p.dst=aa d/\θ h=aa id/\e.at a=.ptr id off ep ext/\av P 0 (ax e) p σ=aa (.val (e.at d) σ)
theorem zq:∀{l:List (Nat×Nat)} {t h:Nat},Fv l t=aa h->(t,h)∈l
 |[],_,_,h=>by cases h
 |(a,q)::l,t,h,hh=>by
  unfold Fv at hh;split at hh
  ·rename_i hb;have:=asb hb;cases hh;subst this;simp
  ·exact atm _ (zq hh)
theorem OS{p:Oper}{ty:TypeId}{a:Operand}(hp:p.op=.load ty a){ρ AP:Operand->IV}(h:ρ a=AP a)(ro:Nat)(σ:St):av P ro ρ p σ=av P ro AP p σ:=by
 simp only[av,hp,h]
theorem aaW{p:Oper}{ty:TypeId}{a:Operand}(hp:p.op=.load ty a){ρ:Operand->IV}{id off ep ext:Nat}{v:IV}{aq:St}(ha:ρ a=.ptr id off ep ext)(hv:av P ro ρ p σ=aa (.val v aq)){ao:St}(Im:ao.at id=σ.at id)(fQ:Nat):av P fQ ρ p ao=aa (.val v ao):=by
 unfold av at hv⊢;rw[hp]at hv⊢;dsimp only at hv⊢;rw[ha]at hv⊢;dsimp only at hv⊢;rw[Im]
 repeat' split at hv
 all_goals first|(cases hv;done)|skip
 have:=aJ hv;cases this
 simp_all[ret]
theorem af1{T:jZ}{dst:Option Nat}{t h:Nat}(hm:(t,h)∈(T.del dst).tg):(t,h)∈T.tg/\dst≠aa t:=by
 cases dst with
 |none=>exact⟨hm,by simp⟩
 |some d=>
  obtain⟨h1,h2⟩:=atc.1 hm;exact⟨h1,λhe=>by cases he;simp at h2⟩
theorem af2{T:jZ}{dst:Option Nat}{i a d h:Nat}(hm:(i,a,d,h)∈(T.del dst).ld):(i,a,d,h)∈T.ld/\dst≠aa a/\dst≠aa d:=by
 cases dst with
 |none=>exact⟨hm,by simp,by simp⟩
 |some q=>
  obtain⟨h1,h2⟩:=atc.1 hm;exact⟨h1,λhe=>by cases he;simp at h2,λhe=>by cases he;simp at h2⟩
theorem zr{e:Env}{dst:Option Nat}{v:IV}{t:Nat}(h:dst≠aa t):(e.put dst v).at t=e.at t:=by
 cases dst with
 |none=>rfl
 |some d=>exact ft λhe=>h (by rw[he])
theorem tx.OT{ops:Array Oper}{θ:Nat->Option Nat}{e:Env}{T:jZ}(h:tx P ops θ e σ T)(dst:Option Nat)(v:IV):∀t q,(t,q)∈(T.del dst).tg->∃id off ep ext,θ q=aa id/\(e.put dst v).at t=.ptr id off ep ext:=by
 intro t q hm;obtain⟨h1,h2⟩:=af1 hm;rw[zr h2];exact h.tg t q h1
theorem tx.Hj{ops:Array Oper}{θ:Nat->Option Nat}{e:Env}{T:jZ}(h:tx P ops θ e σ T)(dst:Option Nat)(v:IV):∀i a d q,(i,a,d,q)∈(T.del dst).ld->∃p ty id off ep ext,ops[i]?=aa p/\p.op=.load ty (.tmp a)/\p.dst=aa d/\θ q=aa id/\(e.put dst v).at a=.ptr id off ep ext/\av P 0 (ax (e.put dst v)) p σ=aa (.val ((e.put dst v).at d) σ):=by
 intro i a d q hm;obtain⟨h1,h2,h3⟩:=af2 hm;obtain⟨p,ty,id,off,ep,ext,g1,g2,g3,g4,g5,g6⟩:=h.ld i a d q h1;refine⟨p,ty,id,off,ep,ext,g1,g2,g3,g4,by rw[zr h2];exact g5,?_⟩;rw[zr h3,<-g6];exact OS g2 (by show(e.put dst v).at a=e.at a;exact zr h2) _ _
theorem tx.step{ops:Array Oper}{θ:Nat->Option Nat}{n0:Nat}{e:Env}{T:jZ}{v:IV}{aq:St}{j:Nat}(hj:ops[j]?=aa o)(h:tx P ops θ e σ T)(hT:lW n0 e T)(hv:av P ro (ax e) o σ=aa (.val v aq)):tx P ops θ (e.put o.dst v) aq (GC T o j):=by
 refine⟨λt q hm=>?_,λi a d q hm=>?_⟩
 ·have hm:(t,q)∈OP T o:=hm;unfold OP at hm;split at hm
  ·rename_i d s x f hg fY fq;split at hm
   ·rename_i hh OU;split at hm
    ·rename_i ai;rcases asS.1 hm with he|hm
     ·cases he;obtain⟨id,off,ep,ext,g1,g2⟩:=h.tg _ _ (zq OU);have hx:ax e (.tmp x)=.ptr id off ep ext:=g2;have fX:t<e.n:=by rw[hT.n];simpa using ai
      rw[fY,dN fX];unfold av at hv;rw[fq]at hv;dsimp only at hv
      repeat' split at hv
      all_goals first|(cases hv;done)|skip
      ·rename_i he _;rw[hx]at he;cases he;have:=aJ hv;cases this;exact⟨_,_,_,_,g1,rfl⟩
      ·rename_i he _;rw[hx]at he;cases he
     ·exact h.OT _ _ t q hm
    ·exact h.OT _ _ t q hm
   ·exact h.OT _ _ t q hm
  ·exact h.OT _ _ t q hm
 ·have hm:(i,a,d,q)∈OQ T o j:=hm;unfold OQ at hm;split at hm
  ·rename_i hk;obtain⟨rfl,_⟩:=D3 hk hv;exact h.Hj _ _ i a d q hm
  ·rename_i hk;obtain⟨rfl,nz⟩:=D4 hk hv;split at hm
   ·rename_i d' ty a' hg fY fq;split at hm
    ·rename_i hh OU;split at hm
     ·rename_i hc;rcases asS.1 hm with he|hm
      ·cases he;simp only[ar4,asR]at hc;have aZ:a≠d:=λhe=>by subst he;simp at hc
       have fX:d<e.n:=by rw[hT.n];simpa using hc.1
       obtain⟨id,off,ep,ext,g1,g2⟩:=h.tg _ _ (zq OU);have ha:(e.put o.dst v).at a=e.at a:=by rw[fY];exact ft aZ
       refine⟨o,ty,id,off,ep,ext,hj,fq,fY,g1,by rw[ha];exact g2,?_⟩;rw[OS fq (AP:=ax e) (show(e.put o.dst v).at a=e.at a from ha),nz 0,fY,dN fX]
      ·exact h.Hj _ _ i a d q hm
     ·exact h.Hj _ _ i a d q hm
    ·exact h.Hj _ _ i a d q hm
   ·exact h.Hj _ _ i a d q hm
  ·cases hm
theorem tx.skip{ops:Array Oper}{θ:Nat->Option Nat}{e:Env}{T:jZ}{v:IV}{aq:St}{j:Nat}(h:tx P ops θ e σ T)(hw:(aO o ops e=af/\aq=σ)\/dj o=.call\/dj o=.effect):tx P ops θ (e.put o.dst v) aq (GC T o j):=by
 have hgd:(aO o ops e=af/\aq=σ)->o.guard≠ah:=λhw hg=>by
  have:=hw.1;unfold aO at this;rw[hg]at this;cases this
 refine⟨λt q hm=>?_,λi a d q hm=>?_⟩
 ·have hm:(t,q)∈OP T o:=hm;unfold OP at hm;split at hm
  ·rename_i d s x f hg fY fq;rcases hw with hw|hw
   ·exact absurd hg (hgd hw)
   ·unfold dj at hw;rw[fq]at hw;rcases hw with hw|hw<;>cases hw
  ·exact h.OT _ _ t q hm
 ·have hm:(i,a,d,q)∈OQ T o j:=hm;unfold OQ at hm;split at hm
  ·rename_i hk;rcases hw with⟨_,rfl⟩|hw
   ·exact h.Hj _ _ i a d q hm
   ·rw[hk]at hw;rcases hw with hw|hw<;>cases hw
  ·rename_i hk;rcases hw with hw|hw
   ·obtain⟨_,rfl⟩:=id hw;split at hm
    ·rename_i hg _ _;exact absurd hg (hgd hw)
    ·exact h.Hj _ _ i a d q hm
   ·rw[hk]at hw;rcases hw with hw|hw<;>cases hw
  ·cases hm
theorem XX{ty:TypeId}{a x:Operand}(ho:o.op=.store ty a x){ρ:Operand->IV}{id off ep ext:Nat}(ha:ρ a=.ptr id off ep ext){v:IV}{aq:St}(hv:av P ro ρ o σ=aa (.val v aq)):aq.n=σ.n/\∀bA,bA≠id->aq.at bA=σ.at bA:=by
 unfold av at hv;rw[ho]at hv;dsimp only at hv;rw[ha]at hv;dsimp only at hv
 repeat' split at hv
 all_goals first|(cases hv;done)|skip
 all_goals
  have:=aJ hv;cases this;exact⟨rfl,λbA aZ=>by rw[St.cV,if_neg (Ne.symm aZ)]⟩
theorem XY{pl:dR}{T:jZ}{j:Nat}(h:D8 pl T o j=ab):Hi pl j=ab:=by
 unfold D8 at h;split at h<;>first|(cases h;done)|skip
 split at h<;>first|(cases h;done)|skip
 simp only[ar4]at h;exact h.1
theorem Fw{pl:dR}{j i:Nat}(h:Hi pl j=ab)(hi:i<j)(hk:bc pl i=.alloc\/bc pl i=.effect\/bc pl i=.call):asp (pl.b_.getD j 0) i=ab:=by
 have:=asl.1 h i (auO.2 hi);simp only[asL]at this;refine this.resolve_right λhh=>?_;unfold bc at hk;rcases hk with hk|hk|hk<;>rw[hk]at hh<;>cases hh
theorem aek{pl:dR}{j i:Nat}(h:afY pl j=ab)(hi:i<j)(hk:bc pl i=.effect):asp (pl.b_.getD j 0) i=ab:=by
 have:=asl.1 h i (auO.2 hi);simp only[asL]at this;refine this.resolve_right λhh=>?_;unfold bc at hk;rw[hk]at hh;cases hh
theorem Tf{pl:dR}{j i:Nat}(h:BJ pl j=ab)(hi:i<j)(hk:bc pl i≠.pure):asp (pl.b_.getD j 0) i=ab:=by
 have:=asl.1 h i (auO.2 hi);simp only[asL]at this;refine this.resolve_right λhh=>hk ?_;unfold bc;split at hh
 ·assumption
 ·cases hh
theorem D9:∀(l:List Piece) (b:T Ob),(∀p∈l,p.hi<=p.lo)->l.foldl dt b=b
 |[],_,_=>rfl
 |p::l,b,h=>by
  rw[asG,kL b p (h p (aul ..))];exact D9 l b λq hq=>h q (atm _ hq)
theorem D_{n0:Nat}:∀(l:List Piece) (b:T Ob),(∀p∈l,n0<=p.lo)->∀id,id<n0->(l.foldl dt b).get id=b.get id
 |[],_,_,_,_=>rfl
 |p::l,b,h,id,hid=>by
  rw[asG,D_ l _ (λq hq=>h q (atm _ hq)) id hid,ku,if_neg];have:=h p (aul ..);omega
structure mJ(pl:dR)(n0 j:Nat)(d:DS)(e:Env)(σ:St):Prop where
 e:d.e=e
 n:d.n=σ.n
 le:n0<=σ.n
 bs:∃i b rest,d.bs=(i,b)::rest/\(rest=[]\/(i<j/\bc pl i=.effect))/\d.aH.foldl dt b=σ.t/\b.WF
 aH:∀p∈d.aH,(p.hi<=p.lo\/(p.j<j/\(bc pl p.j=.alloc\/bc pl p.j=.call)))/\p.hi<=d.n/\n0<=p.lo
variable{ops:Array Oper}{pl:dR}{d:DS}{e e':Env}{ao:St}{j n0:Nat}
theorem uD{b:T Ob}(hs:mJ pl n0 j d e σ)(d_:d.aH.foldl dt b=σ.t)(ho:Hi pl j=ab):seen d.aH (pl.b_.getD j 0) b=σ.t:=by
 unfold seen;rw[tj _ _ λp hp=>?_,d_];rcases(hs.aH p hp).1 with h|⟨h1,h2⟩
 ·exact .inr h
 ·exact .inl (Fw ho h1 (h2.elim .inl λh=>.inr (.inr h)))
theorem XZ(h:BJ pl j=ab):Hi pl j=ab:=by
 refine asl.2 λi hi=>?_;have:=asl.1 h i hi;simp only[asL]at this⊢;refine this.imp id λh=>?_;split at h
 ·rename_i hk;rw[hk]
 ·cases h
theorem GD{bits:Nat}{e:Env}{n:Nat}{aH:List Piece}{b:T Ob}{l:List (Oper×Nat)}(h:∀p i,(p,i)∈l->bc pl i=.load->asp bits i=ab):recheck P pl ops bits e n aH b l=ab:=by
 unfold recheck;rw[asl];rintro⟨p,q⟩ ye;simp only;split
 ·rename_i AO;rw[h p q ye AO];rfl
 ·rfl
theorem zu{U:Self}{aq:St}{v:IV}(hs:mJ pl n0 j d e σ)(hk:bc pl j=.effect)(hw:aO o ops e=ab)(gK:∀p i,(p,i)∈ops.toList.zipIdx.take j->(p,i)∈ops.toList.zipIdx/\i<j)(hA:BJ pl j=ab)
 (hx:jA P U ro e o σ=aa (v,aq))(jr:aq.t.WF)(hn:σ.n<=aq.n):∃d1,bQ P U pl ro ops o j d=aa d1/\mJ pl n0 (j+1) d1 (e.put o.dst v) aq:=by
 obtain⟨i,b,rest,cI,fg,d_,jD⟩:=hs.bs;have mw:=uD hs d_ (XZ hA);have ct:(⟨d.n,seen d.aH (pl.b_.getD j 0) b⟩:St)=σ:=by rw[mw,hs.n]
 refine⟨⟨e.put o.dst v,aq.n,(j,aq.t)::d.bs,d.aH.filter λp=> !asp (pl.b_.getD j 0) p.j⟩,?_,⟨rfl,rfl,asq hs.le hn,⟨j,aq.t,d.bs,rfl,.inr ⟨by omega,hk⟩,?_,jr⟩,λp hp=>?_⟩⟩
 ·unfold bQ;rw[cI];simp only;rw[hs.e,hw,if_pos rfl];have cC:pl.kinds.getD j .effect=.effect:=hk;rw[cC];simp only;rw[ct,hx];simp only;rw[if_pos (GD λp q ye AO=>Tf hA (gK p q ye).2 (by rw[AO];simp))]
 ·refine zl _ _ λp hp hf=>?_;rcases(hs.aH p hp).1 with h|⟨h1,h2⟩
  ·exact h
  ·rw[Fw (XZ hA) h1 (h2.elim .inl λh=>.inr (.inr h))]at hf;cases hf
 ·have qV:=(atc.1 hp).1;obtain⟨h1,h2,h3⟩:=hs.aH p qV;exact⟨h1.imp id (λh=>⟨by omega,h.2⟩),by rw[hs.n]at h2;exact asq h2 hn,h3⟩
theorem X0{T:jZ}{θ:Nat->Option Nat}(X1:∀k k' id,θ k=aa id->θ k'=aa id->k=k')(hL:tx P ops θ e σ T){U:Self}{aq:St}{v:IV}(hs:mJ pl n0 j d e σ)(hk:bc pl j=.effect)(hw:aO o ops e=ab)(gK:∀p i,(p,i)∈ops.toList.zipIdx.take j->(p,i)∈ops.toList.zipIdx/\i<j)(hX:D8 pl T o j=ab)
 (hv:av P ro (ax e) o σ=aa (.val v aq))(jr:aq.t.WF)(hn:σ.n<=aq.n):∃d1,bQ P U pl ro ops o j d=aa d1/\mJ pl n0 (j+1) d1 (e.put o.dst v) aq:=by
 obtain⟨i,b,rest,cI,fg,d_,jD⟩:=hs.bs;have mw:=uD hs d_ (XY hX);have ct:(⟨d.n,seen d.aH (pl.b_.getD j 0) b⟩:St)=σ:=by rw[mw,hs.n]
 have hx:jA P U ro e o σ=aa (v,aq):=by unfold jA;rw[hv]
 have aaF:∀p∈(d.aH.filter λp=> !asp (pl.b_.getD j 0) p.j),p.hi<=p.lo:=λp hp=>by
  obtain⟨lE,hp2⟩:=atc.1 hp;rcases(hs.aH p lE).1 with h|⟨h1,h2⟩
  ·exact h
  ·rw[Fw (XY hX) h1 (h2.elim .inl λh=>.inr (.inr h))]at hp2;cases hp2
 refine⟨⟨e.put o.dst v,aq.n,(j,aq.t)::d.bs,d.aH.filter λp=> !asp (pl.b_.getD j 0) p.j⟩,?_,⟨rfl,rfl,asq hs.le hn,⟨j,aq.t,d.bs,rfl,.inr ⟨by omega,hk⟩,?_,jr⟩,λp hp=>?_⟩⟩
 ·unfold bQ;rw[cI];simp only;rw[hs.e,hw,if_pos rfl];have cC:pl.kinds.getD j .effect=.effect:=hk;rw[cC];simp only;rw[ct,hx];simp only;rw[if_pos];unfold recheck;rw[asl];rintro⟨p,q⟩ ye;simp only;split
  ·rename_i AO;obtain⟨anA,XL⟩:=gK p q ye;unfold D8 at hX;split at hX<;>first|(cases hX;done)|skip
   rename_i ty a x hg fq;split at hX<;>first|(cases hX;done)|skip
   rename_i g OU;simp only[ar4,asl]at hX;have hq:=hX.2 q (auO.2 XL);rw[asL]at hq;rcases hq with hq|hq
   ·rw[hq];rfl
   ·rw[AO]at hq;simp only[avI,ar4,asR]at hq;obtain⟨⟨i',a',d',h'⟩,hm,cW,aZ⟩:=hq;have:=asb cW;simp only at this;subst this;obtain⟨p',ty',id,off,ep,ext,g1,g2,g3,g4,g5,g6⟩:=hL.ld _ _ _ _ hm
    have hpp:p=p':=by
     have:=atb.1 anA;rw[at0]at this;rw[g1]at this;cases this;rfl
    subst hpp;obtain⟨id2,arP,ep2,arQ,f1,f2⟩:=hL.tg _ _ (zq OU);obtain⟨e1,e2⟩:=XX fq (show ax e (.tmp a)=_ from f2) hv
    have ajl:id≠id2:=λhe=>by
     subst he;have:=X1 _ _ _ g4 f1;subst this;simp at aZ
    have ajm:=aaW g2 (show ax e (.tmp a')=_ from g5) g6 (e2 id ajl) aq.n
    have hse:seen (d.aH.filter λp=> !asp (pl.b_.getD j 0) p.j) (pl.b_.getD i' 0) aq.t=aq.t:=by
     unfold seen;exact D9 _ _ λp hp=>aaF p (atc.1 hp).1
    rw[g3];simp only;unfold loadAt;rw[hse,ajm];simp[Sm.sm]
  ·rfl
 ·exact D9 _ _ aaF
 ·have qV:=(atc.1 hp).1;obtain⟨h1,h2,h3⟩:=hs.aH p qV;exact⟨h1.imp id (λh=>⟨by omega,h.2⟩),by rw[hs.n]at h2;exact asq h2 hn,h3⟩
theorem noX{T:jZ}(h:D8 pl T o j=ab)(hn:(∃ro ρ f args,av P ro ρ o σ=aa (.enter f args))\/aO o ops e=af):False:=by
 unfold D8 at h;split at h<;>first|(cases h;done)|skip
 rename_i ty a x hg fq;rcases hn with⟨ro,ρ,f,args,hn⟩|hn
 ·unfold av at hn;rw[fq]at hn;dsimp only at hn
  repeat' split at hn
  all_goals first|(cases hn;done)|skip
  all_goals (have:=aJ hn;cases this)
 ·unfold aO at hn;rw[hg]at hn;cases hn
theorem VI{fr:Bool}{l:List (Oper×Nat)}{θ:Nat->Option Nat}(X1:∀k k' id,θ k=aa id->θ k'=aa id->k=k')(h:fZ P ro ops pl fr l e σ e' ao):
 ∀(k:Nat) (d:DS) (T:jZ),ops.toList.zipIdx.drop k=l->mJ pl n0 k d e σ->mI P pl l T=ab->lW n0 e T->tx P ops θ e σ T->
  ∃SF:Nat->Self,(∀i,lH P (SF i))/\∃d',iW P SF pl ro ops l d=aa d'/\d'.e=e'/\d'.n=ao.n/\∃i b rest,d'.bs=(i,b)::rest/\d'.aH.foldl dt b=ao.t:=by
 have eg:∀{o:Oper} {j:Nat} {l:List (Oper×Nat)} {k:Nat},ops.toList.zipIdx.drop k=(o,j)::l->j=k/\ops.toList.zipIdx.drop (k+1)=l/\
  (∀p i,(p,i)∈ops.toList.zipIdx.take j->(p,i)∈ops.toList.zipIdx/\i<j)/\(∀o' i,(o',i)∈l->i≠j)/\ops[j]?=aa o:=by
  intro o j l k h;have h1:(ops.toList.zipIdx.drop k)[0]?=aa (o,j):=by rw[h];rfl
  rw[List.getElem?_drop,Nat.add_zero]at h1;rw[List.getElem?_zipIdx]at h1
  have hj:j=k:=by
   cases hk:ops.toList[k]? with
   |none=>rw[hk]at h1;cases h1
   |some o'=>rw[hk]at h1;simp at h1;omega
  have AM:ops.toList.zipIdx.drop (k+1)=l:=by rw[<-auN (i:=1) (j:=k),h];rfl
  have me:ops[j]?=aa o:=by
   rw[hj];cases hk:ops.toList[k]? with
   |none=>rw[hk]at h1;cases h1
   |some o'=>
    rw[hk]at h1;simp at h1;rw[at0]at hk;rw[hk,h1.1]
  refine⟨hj,AM,λp i hp=>⟨List.mem_of_mem_take hp,?_⟩,λo' i hi=>?_,me⟩
  ·obtain⟨m,hm,he⟩:=atU hp;rw[List.length_take]at hm;rw[List.getElem_take,avg]at he;cases he;omega
  ·rw[<-AM]at hi;obtain⟨m,hm,he⟩:=atU hi;rw[List.getElem_drop,avg]at he;cases he;omega
 induction h with
 |nil e σ=>
  intro k d T _ hs _ _ _;obtain⟨i,b,rest,h1,_,h3,_⟩:=hs.bs;exact⟨λ_=>Self.none,λ_=>ot,d,rfl,hs.e,hs.n,i,b,rest,h1,h3⟩
 | @skip o j l e σ e' ao hw h ih=>
   intro k d T hl hs hc hT Db;obtain⟨rfl,hd,gK,ai,me⟩:=eg hl;simp only[mI,ar4]at hc;obtain⟨bL,gy⟩:=hc;obtain⟨i,b,rest,cI,fg,d_,jD⟩:=hs.bs;have iZ:∀p∈d.aH,(p.hi<=p.lo\/(p.j<j+1/\(bc pl p.j=.alloc\/bc pl p.j=.call)))/\p.hi<=d.n/\n0<=p.lo:=λp hp=>⟨(hs.aH p hp).1.imp id (λh=>⟨by omega,h.2⟩),(hs.aH p hp).2⟩
   have key:∃U,lH P U/\∃d1,bQ P U pl ro ops o j d=aa d1/\mJ pl n0 (j+1) d1 (e.put o.dst .undef) σ:=by
    refine⟨Self.none,ot,?_⟩;by_cases hk:bc pl j=.effect
    ·refine⟨⟨d.e.put o.dst .undef,d.n,(j,b)::d.bs,d.aH⟩,?_,⟨by rw[hs.e],hs.n,hs.le,⟨j,b,d.bs,rfl,.inr ⟨by omega,hk⟩,d_,jD⟩,iZ⟩⟩;unfold bQ;rw[cI];simp only;rw[hs.e,hw,if_neg (by simp)];have cC:pl.kinds.getD j .effect=.effect:=hk;have hA:BJ pl j=ab:=by unfold kZ at bL;rw[cC,asL]at bL;exact bL.elim id λh=>(noX (P:=P) (σ:=σ) h (.inr hw)).elim
     rw[cC];simp only;rw[if_pos (GD λp q ye AO=>Tf hA (gK p q ye).2 (by rw[AO];simp))]
    ·refine⟨{d with e:=d.e.put o.dst .undef},?_,⟨by rw[hs.e],hs.n,hs.le,⟨i,b,rest,cI,fg.imp id (λh=>⟨by omega,h.2⟩),d_,jD⟩,iZ⟩⟩;unfold bQ;rw[cI];simp only;rw[hs.e,hw,if_neg (by simp)];have cC:pl.kinds.getD j .effect≠.effect:=hk;cases hq:pl.kinds.getD j .effect<;>first|exact absurd hq cC|simp only
   obtain⟨U,hU,d1,h1,h2⟩:=key;obtain⟨SF,kN,d',h3,h4⟩:=ih (j+1) d1 (GC T o j) hd h2 gy (hT.skip j (.inl ⟨hw,rfl⟩)) (Db.skip (.inl ⟨hw,rfl⟩));obtain⟨po,h5,h6⟩:=lI hU kN h1 h3 ai;exact⟨po,h5,d',h6,h4⟩
 | @val o j l e σ e' ao v aq hw hv h ih=>
   intro k d T hl hs hc hT Db;obtain⟨rfl,hd,gK,ai,me⟩:=eg hl;simp only[mI,ar4]at hc;obtain⟨bL,gy⟩:=hc;obtain⟨i,b,rest,cI,fg,d_,jD⟩:=hs.bs;have pq:σ.t.WF:=d_▸kM _ jD;have iZ:∀p∈d.aH,(p.hi<=p.lo\/(p.j<j+1/\(bc pl p.j=.alloc\/bc pl p.j=.call)))/\p.hi<=d.n/\n0<=p.lo:=λp hp=>⟨(hs.aH p hp).1.imp id (λh=>⟨by omega,h.2⟩),(hs.aH p hp).2⟩
   have one:∀(t:Go.Ev.T Ob),((aq=σ)\/∃ob,aq=σ.add ob/\t.get σ.n=aa ob)->(bc pl j=.alloc\/bc pl j=.call)->
    mJ pl n0 (j+1) ⟨d.e.put o.dst v,aq.n,d.bs,⟨j,d.n,aq.n,t⟩::d.aH⟩ (e.put o.dst v) aq:=by
    intro t s5 hk;refine⟨by rw[hs.e],rfl,asq hs.le (lV hv),⟨i,b,rest,cI,fg.imp id (λh=>⟨by omega,h.2⟩),?_,jD⟩,λp hp=>?_⟩
    ·simp only[asG];rcases s5 with rfl|⟨ob,rfl,ht⟩
     ·rw[kL _ _ (by simp[hs.n]),d_]
     ·refine Go.Ev.T.WF.ext (kM _ (wN jD _)) (pq.set _ _) λid=>?_
      have:=zm (n:=σ.n) (ob:=ob) d.aH (dt b ⟨j,d.n,(σ.add ob).n,t⟩) b (λp hp=>by rw[<-hs.n];exact(hs.aH p hp).2.1) (λid=>by
       rw[ku,Go.Ev.T.fW];simp only[hs.n,St.kY];by_cases hid:σ.n=id
       ·subst hid;simp[ht]
       ·rw[if_neg (by omega),if_neg hid]) id
      rw[this,d_];rfl
    ·rcases asS.1 hp with rfl|hp
     ·exact⟨.inr ⟨by simp,hk⟩,ar8 _,by show n0<=d.n;rw[hs.n];exact hs.le⟩
     ·obtain⟨h1,h2,h3⟩:=iZ p hp;exact⟨h1,by have:=lV hv;rw[hs.n]at h2;exact asq h2 this,h3⟩
   have key:∃U,lH P U/\∃d1,bQ P U pl ro ops o j d=aa d1/\mJ pl n0 (j+1) d1 (e.put o.dst v) aq:=by
    refine⟨Self.none,ot,?_⟩;cases hk:bc pl j with
    |pure=>
     have cC:pl.kinds.getD j .effect=.pure:=hk;unfold kZ at bL;rw[cC]at bL;have mZ:dj o=.pure:=by simpa using bL
     obtain⟨rfl,nz⟩:=D3 mZ hv;refine⟨{d with e:=d.e.put o.dst v},?_,⟨by rw[hs.e],hs.n,hs.le,⟨i,b,rest,cI,fg.imp id (λh=>⟨by omega,h.2⟩),d_,jD⟩,iZ⟩⟩;unfold bQ;rw[cI];simp only;rw[hs.e,hw,if_pos rfl];rw[cC];simp only;rw[nz 0 ⟨0,.lf⟩];simp[hs.e,cI]
    |alloc=>
     have cC:pl.kinds.getD j .effect=.alloc:=hk;unfold kZ at bL;rw[cC]at bL;simp only[ar4,beq_iff_eq]at bL;obtain⟨t,nz,s5⟩:=Iq bL.1 hv;refine⟨⟨d.e.put o.dst v,aq.n,d.bs,⟨j,d.n,aq.n,t⟩::d.aH⟩,?_,one t (s5.imp (λh=>h.1) λ⟨ob,h1,h2⟩=>⟨ob,h1,by rw[h2,Go.Ev.T.fW,if_pos rfl]⟩) (.inl hk)⟩;unfold bQ;rw[cI];simp only;rw[hs.e,hw,if_pos rfl];rw[cC];simp only;rw[hs.n,nz 0]
    |load=>
     have cC:pl.kinds.getD j .effect=.load:=hk;unfold kZ at bL;rw[cC]at bL;simp only[ar4,beq_iff_eq,asL]at bL;obtain⟨mZ,bL⟩:=bL;obtain⟨rfl,nz⟩:=D4 mZ hv
     have eh:av P d.n (ax e) o ⟨d.n,seen d.aH (pl.b_.getD j 0) b⟩=aa (.val v ⟨d.n,seen d.aH (pl.b_.getD j 0) b⟩):=by
      rcases bL with ho|⟨_,ho⟩
      ·have mw:=uD hs d_ ho;have ct:(⟨d.n,seen d.aH (pl.b_.getD j 0) b⟩:St)=aq:=by rw[mw,hs.n]
       rw[ct];exact nz d.n
      ·rcases ho with ho|ho
       ·exact aaV ho hv _ _
       split at ho<;>first|(cases ho;done)|skip
       rename_i t a fq;refine VH fq (LN hT ho) hv (λid hid=>?_) d.n;show(seen d.aH (pl.b_.getD j 0) b).get id=aq.t.get id;unfold seen;rw[<-d_,D_ _ _ (λp hp=>(hs.aH p (atc.1 hp).1).2.2) id hid,D_ _ _ (λp hp=>(hs.aH p hp).2.2) id hid]
     have ajn:(asp (pl.b_.getD j 0) i||lT P e o d.n v d.aH (pl.b_.getD j 0) rest)=ab:=by
      rcases fg with rfl|⟨h1,h2⟩
      ·simp[lT]
      ·have:asp (pl.b_.getD j 0) i=ab:=by
        rcases bL with ho|⟨ho,_⟩
        ·exact Fw ho h1 (.inr (.inl h2))
        ·exact aek ho h1 h2
       rw[this];rfl
     refine⟨{d with e:=d.e.put o.dst v},?_,⟨by rw[hs.e],hs.n,hs.le,⟨i,b,rest,cI,fg.imp id (λh=>⟨by omega,h.2⟩),d_,jD⟩,iZ⟩⟩;unfold bQ;rw[cI];simp only;rw[hs.e,hw,if_pos rfl];rw[cC];simp only;rw[eh];simp only;rw[if_pos ⟨trivial,ajn⟩]
    |call=>
     have cC:pl.kinds.getD j .effect=.call:=hk;unfold kZ at bL;rw[cC]at bL;simp only[ar4,asL]at bL;obtain⟨⟨_,ho⟩,bL⟩:=bL;rcases bL with bL|bL
     ·exact(C7 bL hv).elim
     ·split at bL<;>first|(cases bL;done)|skip
      rename_i a hb;obtain⟨nz,s5⟩:=af0 hb (XW hT bL) hv;have mw:=uD hs d_ ho;have ct:(⟨d.n,seen d.aH (pl.b_.getD j 0) b⟩:St)=σ:=by rw[mw,hs.n]
      refine⟨⟨d.e.put o.dst v,aq.n,d.bs,⟨j,d.n,aq.n,aq.t⟩::d.aH⟩,?_,one aq.t (s5.imp id λ⟨ob,h1⟩=>⟨ob,h1,by rw[h1];exact(by simp[St.add,Go.Ev.T.fW])⟩) (.inr hk)⟩;unfold bQ;rw[cI];simp only;rw[hs.e,hw,if_pos rfl];rw[cC];simp only;rw[ct];unfold jA;rw[nz d.n]
    |effect=>
     have cC:pl.kinds.getD j .effect=.effect:=hk;have hA:(BJ pl j||D8 pl T o j)=ab:=by unfold kZ at bL;rw[cC]at bL;exact bL
     rw[asL]at hA;rcases hA with hA|hA
     ·refine zu hs hk hw gK hA ?_ (VB hv pq) (lV hv);unfold jA;rw[hv]
     ·exact X0 X1 Db hs hk hw gK hA hv (VB hv pq) (lV hv)
   obtain⟨U,hU,d1,h1,h2⟩:=key;obtain⟨SF,kN,d',h3,h4⟩:=ih (j+1) d1 (GC T o j) hd h2 gy (hT.step j hv) (Db.step me hT hv);obtain⟨po,h5,h6⟩:=lI hU kN h1 h3 ai;exact⟨po,h5,d',h6,h4⟩
 | @Ir o j l e σ e' ao f args v hw hv dV h ih=>
   intro k d T hl hs hc hT Db;obtain⟨rfl,hd,gK,ai,me⟩:=eg hl;simp only[mI,ar4]at hc;obtain⟨bL,gy⟩:=hc;obtain⟨i,b,rest,cI,fg,d_,jD⟩:=hs.bs;have pq:σ.t.WF:=d_▸kM _ jD;have iZ:∀p∈d.aH,(p.hi<=p.lo\/(p.j<j+1/\(bc pl p.j=.alloc\/bc pl p.j=.call)))/\p.hi<=d.n/\n0<=p.lo:=λp hp=>⟨(hs.aH p hp).1.imp id (λh=>⟨by omega,h.2⟩),(hs.aH p hp).2⟩
   have vQ:∀fQ,jA P (qI ah f args σ v σ) fQ e o σ=aa (v,σ):=by
    intro fQ;unfold jA;rw[BG hv fQ σ];simp[qI]
   have js:=tl hv
   have key:∃U,lH P U/\∃d1,bQ P U pl ro ops o j d=aa d1/\mJ pl n0 (j+1) d1 (e.put o.dst v) σ:=by
    refine⟨qI ah f args σ v σ,ti λfQ _=>dV fQ,?_⟩;cases hk:bc pl j with
    |pure=>
     have cC:pl.kinds.getD j .effect=.pure:=hk;unfold kZ at bL;rw[cC]at bL;have mZ:dj o=.pure:=by simpa using bL
     rw[mZ]at js;rcases js with js|js<;>cases js
    |alloc=>
     have cC:pl.kinds.getD j .effect=.alloc:=hk;unfold kZ at bL;rw[cC]at bL;simp only[ar4,beq_iff_eq]at bL;rw[bL.1]at js;rcases js with js|js<;>cases js
    |load=>
     have cC:pl.kinds.getD j .effect=.load:=hk;unfold kZ at bL;rw[cC]at bL;simp only[ar4,beq_iff_eq]at bL;rw[bL.1]at js;rcases js with js|js<;>cases js
    |call=>
     have cC:pl.kinds.getD j .effect=.call:=hk;unfold kZ at bL;rw[cC]at bL;simp only[ar4]at bL;have C5:=uD hs d_ bL.1.2;refine⟨⟨d.e.put o.dst v,d.n,d.bs,⟨j,d.n,d.n,seen d.aH (pl.b_.getD j 0) b⟩::d.aH⟩,?_,⟨by rw[hs.e],hs.n,hs.le,⟨i,b,rest,cI,fg.imp id (λh=>⟨by omega,h.2⟩),?_,jD⟩,λp hp=>?_⟩⟩
     ·unfold bQ;rw[cI];simp only;rw[hs.e,hw,if_pos rfl];rw[cC];simp only;have ct:(⟨d.n,seen d.aH (pl.b_.getD j 0) b⟩:St)=σ:=by rw[C5,hs.n]
      rw[ct,vQ,C5];simp only[hs.n,cI]
     ·simp only[asG];rw[kL _ _ (by simp),d_]
     ·rcases asS.1 hp with rfl|hp
      ·exact⟨.inl (ar8 _),ar8 _,by show n0<=d.n;rw[hs.n];exact hs.le⟩
      ·exact iZ p hp
    |effect=>
     have cC:pl.kinds.getD j .effect=.effect:=hk;have hA:BJ pl j=ab:=by unfold kZ at bL;rw[cC,asL]at bL;exact bL.elim id λh=>(noX (ops:=ops) (e:=e) h (.inl ⟨_,_,_,_,hv⟩)).elim
     exact zu hs hk hw gK hA (vQ ro) pq (ar8 _)
   obtain⟨U,hU,d1,h1,h2⟩:=key;obtain⟨SF,kN,d',h3,h4⟩:=ih (j+1) d1 (GC T o j) hd h2 gy (hT.skip (ops:=ops) j (.inr js)) (Db.skip (.inr js));obtain⟨po,h5,h6⟩:=lI hU kN h1 h3 ai;exact⟨po,h5,d',h6,h4⟩
 | @VC o j l e σ e' ao f args v ob hq hw hv dV h ih=>
   intro k d T hl hs hc hT Db;obtain⟨rfl,hd,gK,ai,me⟩:=eg hl;simp only[mI,ar4]at hc;obtain⟨bL,gy⟩:=hc;obtain⟨i,b,rest,cI,fg,d_,jD⟩:=hs.bs;have pq:σ.t.WF:=d_▸kM _ jD;have iZ:∀p∈d.aH,(p.hi<=p.lo\/(p.j<j+1/\(bc pl p.j=.alloc\/bc pl p.j=.call)))/\p.hi<=d.n/\n0<=p.lo:=λp hp=>⟨(hs.aH p hp).1.imp id (λh=>⟨by omega,h.2⟩),(hs.aH p hp).2⟩
   have vQ:∀fQ,jA P (qI ah f args σ v (σ.add ob)) fQ e o σ=aa (v,σ.add ob):=by
    intro fQ;unfold jA;rw[BG hv fQ σ];simp[qI]
   have js:=tl hv
   have key:∃U,lH P U/\∃d1,bQ P U pl ro ops o j d=aa d1/\mJ pl n0 (j+1) d1 (e.put o.dst v) (σ.add ob):=by
    refine⟨qI ah f args σ v (σ.add ob),ti λfQ _=>dV fQ,?_⟩;cases hk:bc pl j with
    |pure=>
     have cC:pl.kinds.getD j .effect=.pure:=hk;unfold kZ at bL;rw[cC]at bL;have mZ:dj o=.pure:=by simpa using bL
     rw[mZ]at js;rcases js with js|js<;>cases js
    |alloc=>
     have cC:pl.kinds.getD j .effect=.alloc:=hk;unfold kZ at bL;rw[cC]at bL;simp only[ar4,beq_iff_eq]at bL;rw[bL.1]at js;rcases js with js|js<;>cases js
    |load=>
     have cC:pl.kinds.getD j .effect=.load:=hk;unfold kZ at bL;rw[cC]at bL;simp only[ar4,beq_iff_eq]at bL;rw[bL.1]at js;rcases js with js|js<;>cases js
    |call=>
     have cC:pl.kinds.getD j .effect=.call:=hk;unfold kZ at bL;rw[cC]at bL;simp only[ar4]at bL;have C5:=uD hs d_ bL.1.2;refine⟨⟨d.e.put o.dst v,(σ.add ob).n,d.bs,⟨j,d.n,(σ.add ob).n,(σ.add ob).t⟩::d.aH⟩,?_,⟨by rw[hs.e],rfl,asq hs.le (by simp),⟨i,b,rest,cI,fg.imp id (λh=>⟨by omega,h.2⟩),?_,jD⟩,λp hp=>?_⟩⟩
     ·unfold bQ;rw[cI];simp only;rw[hs.e,hw,if_pos rfl];rw[cC];simp only;have ct:(⟨d.n,seen d.aH (pl.b_.getD j 0) b⟩:St)=σ:=by rw[C5,hs.n]
      rw[ct,vQ]
     ·simp only[asG];refine Go.Ev.T.WF.ext (kM _ (wN jD _)) (pq.set _ _) λid=>?_
      have:=zm (n:=σ.n) (ob:=ob) d.aH (dt b ⟨j,d.n,(σ.add ob).n,(σ.add ob).t⟩) b (λp hp=>by rw[<-hs.n];exact(hs.aH p hp).2.1) (λid=>by
       rw[ku,Go.Ev.T.fW];simp only[hs.n,St.kY];by_cases hid:σ.n=id
       ·subst hid;rw[if_pos (by omega),if_pos rfl];have:(σ.add ob).t.get σ.n=aa ob:=by simpa[St.at]using St.gW σ ob σ.n
        simp[this]
       ·rw[if_neg (by omega),if_neg hid]) id
      rw[this,d_];rfl
     ·rcases asS.1 hp with rfl|hp
      ·exact⟨.inr ⟨by simp,.inr hk⟩,ar8 _,by show n0<=d.n;rw[hs.n];exact hs.le⟩
      ·obtain⟨h1,h2,h3⟩:=iZ p hp;exact⟨h1,by rw[hs.n]at h2;simp;omega,h3⟩
    |effect=>
     have cC:pl.kinds.getD j .effect=.effect:=hk;have hA:BJ pl j=ab:=by unfold kZ at bL;rw[cC,asL]at bL;exact bL.elim id λh=>(noX (ops:=ops) (e:=e) h (.inl ⟨_,_,_,_,hv⟩)).elim
     exact zu hs hk hw gK hA (vQ ro) (pq.set _ _) (by simp)
   obtain⟨U,hU,d1,h1,h2⟩:=key;obtain⟨SF,kN,d',h3,h4⟩:=ih (j+1) d1 (GC T o j) hd h2 gy (hT.skip (ops:=ops) j (.inr js)) (Db.skip (.inr js));obtain⟨po,h5,h6⟩:=lI hU kN h1 h3 ai;exact⟨po,h5,d',h6,h4⟩
 | @call o j l e σ e' ao f args v aq hk hw hv dV jr h ih=>
   intro k d T hl hs hc hT Db;obtain⟨rfl,hd,gK,ai,me⟩:=eg hl;simp only[mI,ar4]at hc;obtain⟨bL,gy⟩:=hc;obtain⟨i,b,rest,cI,fg,d_,jD⟩:=hs.bs;have pq:σ.t.WF:=d_▸kM _ jD;have cC:pl.kinds.getD j .effect=.effect:=hk;have hA:BJ pl j=ab:=by unfold kZ at bL;rw[cC,asL]at bL;exact bL.elim id λh=>(noX (ops:=ops) (e:=e) h (.inl ⟨_,_,_,_,hv⟩)).elim
   obtain⟨d1,h1,h2⟩:=zu (U:=qI (aa ro) f args σ v aq) (v:=v) (aq:=aq) hs hk hw gK hA (by unfold jA;rw[hv];simp[qI]) (jr pq) dV.1;obtain⟨SF,kN,d',h3,h4⟩:=ih (j+1) d1 (GC T o j) hd h2 gy (hT.skip (ops:=ops) j (.inr (tl hv))) (Db.skip (.inr (tl hv)));obtain⟨po,h5,h6⟩:=lI (ti (R:=aa ro) λfQ hR=>by rcases hR with hR|hR<;>cases hR;exact dV) kN h1 h3 ai;exact⟨po,h5,d',h6,h4⟩
variable{rd:Option Nat}{fn:FuncId}{df:List Df}
theorem fC.ajo{id:Nat}{fr:Bool}{T:jZ}(eW:P.follows .mixedOrders=ab)(nW:(dx ops).ok=ab)(bp:mI P (dx ops) ops.toList.zipIdx T=ab)(hT:lW σ.n e T){θ:Nat->Option Nat}(X1:∀k k' id,θ k=aa id->θ k'=aa id->k=k')(Db:tx P ops θ e σ T)(jr:σ.t.WF)
 (h:fZ P ro ops (dx ops) fr ops.toList.zipIdx e σ e' ao):fC P ro rd fn (.region id ops ab) e df σ ⟨.normal,e',df,ao⟩:=by
 obtain⟨SF,kN,d',h1,h2,h3,i,b,rest,h4,h5⟩:=VI (n0:=σ.n) X1 h 0 ⟨e,σ.n,[(0,σ.t)],[]⟩ T (by simp) ⟨rfl,rfl,ar8 _,⟨0,σ.t,[],rfl,.inl rfl,rfl,jr⟩,λp hp=>by cases hp⟩ bp hT Db
 have eh:p4 P SF ro ops e df σ=aa ⟨.normal,e',df,ao⟩:=by
  unfold p4;simp only;rw[if_pos nW,h1];obtain⟨de,dn,dbs,anz⟩:=d';simp only at h2 h3 h4 h5;subst h2 h4;simp only[h3,h5]
 refine .mk (BB (λi=>(kN i).2.2.1) (λi=>(kN i).2.2.2) eh) (by simp) λN hN F ι a w Q hF hi he hd hQ=>?_;exact Hb eW (λi=>(kN i).1) (λi=>(kN i).2.1) (λi=>(kN i).2.2.1) (λi=>(kN i).2.2.2) N ro rd ops e df σ _ eh hN F ι a w Q id hF hi he hd hQ
end Go.Ev
