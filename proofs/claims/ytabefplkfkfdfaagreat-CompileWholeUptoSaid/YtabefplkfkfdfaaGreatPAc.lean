/- Lemmas over the model, without conditions. -/
import Derived.Test.YtabefplkfkfdfaaGreatPAb
open List renaming getElem?_eq_some_iff->awa,mem_of_getElem?->awq,getElem?_eq_getElem->av_,getElem?_append_left->awp,getElem?_append_right->awD,all_eq_true->awt,getElem?_map->awu,getElem?_set_ne->ayo,nodup_cons->axi,range'->axN,drop_drop->ayj,length_cons->awJ,range'_succ->ayI,range->axt,any_eq_true->ayp,mem_filter->aw7,mem_cons_of_mem->awI,mem_cons->aws,mem_range->axL,foldl_cons->awW,mem_cons_self->ayx,mk_mem_zipIdx_iff_getElem?->axm,getElem_of_mem->azq,getElem_zipIdx->azr,mem_iff_getElem?->ay_,mem_eraseIdx_iff_getElem?->azM,mem_append->awm,mem_singleton->awo
open Nat renaming le_trans->awy,le_refl->awe,beq->awl,beq_eq->awV,lt_irrefl->aBu,lt_of_lt_of_le->axV,blt->aw6,testBit->awC,eq_of_beq_eq_true->awk,le_of_not_lt->azV,lt_of_not_le->ayr
open Bool renaming and_eq_true->awb,or_eq_true->awO,not_eq_true'->awX
open Option renaming map_eq_some_iff->awj
open Array renaming getElem?_eq_some_iff->aw4,replicate->axc,getElem?_toList->aya,getD_eq_getD_getElem?->aw9,getElem?_eq_getElem->awF,mem_filter->azF
open Go.Fence renaming wide->awP
open Go.Sem renaming run_bind->awn,run_pure->awz,run->axX,run_map->aBG
open Go.Result renaming andThen_ok->awg
open Go.Oper renaming semAt_eq->axW,uponIn_value->ayZ,uponIn_enter->azK,uponIn->aBB
open Option.some renaming injEq->awf
open List.cons renaming injEq->axC
open Go.Region renaming binds->axH,ready->axd,wanted->azh
open Go.Question renaming forced->ax7
open Go.Instr renaming next->ayt
open Classical renaming byContradiction->aw2
open Option renaming some->aa,none->ah
open Bool renaming true->ab,false->af
set_option linter.all false
namespace Go.Ev
variable{P:Program}{G au:St}
abbrev Rs:=Nat->Option Nat
inductive bx(fr:Bool)(R:Rs)(G:St):IV->IV->Prop
 |raw (v:Value):bx fr R G (.raw v) (.raw v)
 |nil (s:Nat) (hs:0<s):bx fr R G (.raw (.slice ah 0 0)) (.tree s [])
 |emp (s:Nat) (hs:0<s):bx fr R G .emp (.tree s [])
 |dK (t:TypeId) (x y:IV) (h:bx fr R G x y):bx fr R G (.dK t x) (.dK t y)
 |agg (cs ds:List IV) (hl:cs.length=ds.length) (h:∀(i:Nat) c d,cs[i]?=aa c->ds[i]?=aa d->bx fr R G c d):bx fr R G (.agg cs) (.agg ds)
 |aF (cs ds:List IV) (hl:cs.length=ds.length) (h:∀(i:Nat) c d,cs[i]?=aa c->ds[i]?=aa d->bx fr R G c d):bx fr R G (.aF cs) (.aF ds)
 |pure (x:IV) (hf:fr=ab) (hp:Pure x):bx fr R G x x
 |sl (id off len:Nat) (cap:Option Nat) (ep s m:Nat) (cs:List IV) (aD mn:Nat) (es:List IV) (hR:R id=aa m) (aM:G.at id=aa (.cells cs aD mn)) (h1:mn<=ep) (h2:ep<=aD) (hs:0<s) (hl:es.length=len)
   (hb:off+len*s<=m) (hm:m<=cs.length)
   (bD:∀e∈es,(cellsOf e).length=s) (h:∀(i:Nat) e (j:Nat) c d,es[i]?=aa e->(cellsOf e)[j]?=aa d->cs[off+i*s+j]?=aa c->bx fr R G c d):bx fr R G (.sl id off len cap ep s) (.tree s es)
def bx.can{fr:Bool}{R:Rs}{x z:IV}(h:bx fr R G x z):Can fr G x z:=by
 induction h with
 |raw v=>exact .raw v
 |nil s hs=>exact .nil s hs
 |emp s hs=>exact .emp s hs
 |dK t x y _ ih=>exact .dK t x y ih
 |agg cs ds hl _ ih=>exact .agg cs ds hl ih
 |aF cs ds hl _ ih=>exact .aF cs ds hl ih
 |pure x hf hp=>exact .pure x hf hp
 |sl id off len cap ep s m cs aD mn es hR aM h1 h2 hs hl hb hm bD _ ih=>exact .sl id off len cap ep s cs aD mn es aM h1 h2 hl aj bD ih
def bx.cG{fr:Bool}{R:Rs}{x z:IV}(h:bx fr R G x z):bx ab R G x z:=by
 induction h with
 |raw v=>exact .raw v
 |nil s hs=>exact .nil s hs
 |emp s hs=>exact .emp s hs
 |dK t x y _ ih=>exact .dK t x y ih
 |agg cs ds hl _ ih=>exact .agg cs ds hl ih
 |aF cs ds hl _ ih=>exact .aF cs ds hl ih
 |pure x hf hp=>exact .pure x rfl hp
 |sl id off len cap ep s m cs aD mn es hR aM h1 h2 hs hl hb hm bD _ ih=>exact .sl id off len cap ep s m cs aD mn es hR aM h1 h2 hs hl hb hm bD ih
def bx.wide{fr dk:Bool}{R:Rs}{x z:IV}(h:bx fr R G x z)(hle:fr=ab->dk=ab):bx dk R G x z:=by
 cases dk
 .cases fr
  .exact h
  .exact absurd (hle rfl) ay
 .exact h.cG
structure iZ(R:Rs)(G:St)(R':Rs)(au:St):Prop where
 le:∀id m,R id=aa m->∃m',R' id=aa m'/\m<=m'
 vj:∀id m cs aD mn,R id=aa m->G.at id=aa (.cells cs aD mn)->∃bG ko,au.at id=aa (.cells bG ko mn)/\aD<=ko/\∀j,j<m->bG[j]?=cs[j]?
 fits:∀id m cs aD mn,R' id=aa m->au.at id=aa (.cells cs aD mn)->m<=cs.length
def aj_{es:List IV}{i s len:Nat}{e d:IV}{j:Nat}(he:es[i]?=aa e)(hd:(cellsOf e)[j]?=aa d)(bD:∀e∈es,(cellsOf e).length=s)(hl:es.length=len):i*s+j<len*s:=by
 have hi:=(awa.1 he).1;have hj:j<s:=by have:=(awa.1 hd).1;rw[bD e (awq he)]at this;exact this
 have:(i+1)*s<=es.length*s:=Nat.mul_le_mul_right s hi;rw[Nat.add_mul,hl]at this;omega
def bx.mono{fr:Bool}{R R':Rs}(hg:iZ R G R' au){x z:IV}(h:bx fr R G x z):bx fr R' au x z:=by
 induction h with
 |raw v=>exact .raw v
 |nil s hs=>exact .nil s hs
 |emp s hs=>exact .emp s hs
 |dK t x y _ ih=>exact .dK t x y ih
 |agg cs ds hl _ ih=>exact .agg cs ds hl ih
 |aF cs ds hl _ ih=>exact .aF cs ds hl ih
 |pure x hf hp=>exact .pure x hf hp
 |sl id off len cap ep s m cs aD mn es hRi aM h1 h2 hs hl hb hm bD _ ih=>
  obtain⟨bG,ko,SZ,hle,BV⟩:=hg.vj id m cs aD mn hRi aM;obtain⟨m',hR',hmm⟩:=hg.le id m hRi;refine .sl id off len cap ep s m' bG ko mn es hR' SZ h1 (awy h2 hle) hs hl (awy hb hmm) (hg.fits id m' bG ko mn hR' SZ) bD λi e j c d he hd hc=>?_;have:=aj_ he hd bD hl;rw[BV _ aj]at hc;exact ih i e j c d he hd hc
def iZ.refl{R:Rs}(hf:∀id m cs aD mn,R id=aa m->G.at id=aa (.cells cs aD mn)->m<=cs.length):iZ R G R G:=
 ⟨λ_ m h=>⟨m,h,awe _⟩,λ_ _ cs aD _ _ h=>⟨cs,aD,h,awe _,λ_ _=>rfl⟩,hf⟩
def All2{α β:Type}(r:α->β->Prop):List α->List β->Prop
 |[],[]=>True
 |a::as,b::bs=>r a b/\All2 r as bs
 |_,_=>False
namespace All2
variable{α β:Type}{r r':α->β->Prop}
theorem len:∀{as:List α} {bs:List β},All2 r as bs->as.length=bs.length
 |[],[],_=>rfl
 |_::_,_::_,h=>by simp[len h.2]
 |[],_::_,h=>h.elim
 |_::_,[],h=>h.elim
theorem get:∀{as:List α} {bs:List β},All2 r as bs->∀{i:Nat} {a:α} {b:β},as[i]?=aa a->bs[i]?=aa b->r a b
 |[],[],_,i,a,b,h1,_=>by simp at h1
 |_::as,_::bs,h,i,a,b,h1,h2=>by
  cases i with
  |zero=>simp at h1 h2;subst h1 h2;exact h.1
  |succ i=>simp at h1 h2;exact get h.2 h1 h2
 |[],_::_,h,_,_,_,_,_=>h.elim
 |_::_,[],h,_,_,_,_,_=>h.elim
def Db{as:List α}{bs:List β}(h:All2 r as bs){i:Nat}{b:β}(hb:bs[i]?=aa b):∃a,as[i]?=aa a/\r a b:=by
 have hi:i<as.length:=by have:=(awa.1 hb).1;rw[h.len];exact this
 exact⟨_,av_ hi,h.get (av_ hi) hb⟩
theorem mk:∀{as:List α} {bs:List β},as.length=bs.length->(∀(i:Nat) a b,as[i]?=aa a->bs[i]?=aa b->r a b)->All2 r as bs
 |[],[],_,_=>trivial
 |a::as,b::bs,hl,h=>⟨h 0 a b rfl rfl,mk (by simpa using hl) λi a b h1 h2=>h (i+1) a b (by simpa using h1) (by simpa using h2)⟩
 |[],_::_,hl,_=>by simp at hl
 |_::_,[],hl,_=>by simp at hl
theorem mono(hr:∀a b,r a b->r' a b):∀{as:List α} {bs:List β},All2 r as bs->All2 r' as bs
 |[],[],_=>trivial
 |_::_,_::_,h=>⟨hr _ _ h.1,mono hr h.2⟩
 |[],_::_,h=>h.elim
 |_::_,[],h=>h.elim
theorem Ak:∀{as:List α} {bs:List β},(∀a b,b∈bs->r a b->r' a b)->All2 r as bs->All2 r' as bs
 |[],[],_,_=>trivial
 |_::_,_::_,hr,h=>⟨hr _ _ ay h.1,Ak (λa b hb=>hr a b (by simp[hb])) h.2⟩
 |[],_::_,_,h=>h.elim
 |_::_,[],_,h=>h.elim
def app{as as':List α}{bs bs':List β}(h:All2 r as bs)(k:All2 r as' bs'):All2 r (as++as') (bs++bs'):=by
 refine mk (by simp[h.len,k.len]) λi a b h1 h2=>?_;by_cases hi:i<as.length
 .rw[awp hi]at h1;rw[awp (h.len▸hi)]at h2;exact h.get h1 h2
 .rw[awD aj]at h1;rw[awD (by have:=h.len;omega),<-h.len]at h2;exact k.get h1 h2
theorem take(n:Nat){as:List α}{bs:List β}(h:All2 r as bs):All2 r (as.take n) (bs.take n):=by
 refine mk (by simp[h.len]) λi a b h1 h2=>?_;rw[List.getElem?_take]at h1 h2;split at h1
 .rename_i hi;rw[if_pos hi]at h2;exact h.get h1 h2
 .cases h1
theorem drop(n:Nat){as:List α}{bs:List β}(h:All2 r as bs):All2 r (as.drop n) (bs.drop n):=
 mk (by simp[h.len]) λi a b h1 h2=>h.get (i:=n+i) (by simpa using h1) (by simpa using h2)
theorem map{γ:Type}{f:β->γ}{q:α->γ->Prop}(hf:∀a b,r a b->q a (f b)):∀{as:List α} {bs:List β},All2 r as bs->All2 q as (bs.map f)
 |[],[],_=>trivial
 |_::_,_::_,h=>⟨hf _ _ h.1,map hf h.2⟩
 |[],_::_,h=>h.elim
 |_::_,[],h=>h.elim
end All2
inductive Cl(α:Type) where
 |un
 |v (z:α)
 |w (fr:Bool) (z:α)
 |pt (k off ext:Nat)
 |tp (cs:List α)
 |tw (fr:Bool) (cs:List α)
 |sr (k:Nat)
 |sv (k:Nat) (lo:α)
 |pr (k:Nat) (i:α) (off ext:Nat)
 |mp (k:Nat)
 |nl (b:Bool) (s:Nat)
 |fn (f:FuncId) (bs:List (Nat×Nat))
 |yl (k:Nat)
 deriving Inhabited
inductive PV(α:Type) where
 |one (x:Cl α)
 |ag (cs:List (Cl α))
 |tu (vs:List (Bool×List (Cl α)))
 deriving Inhabited
inductive LO(α:Type) where
 |var (cs:List (Cl α))
 |row (s:Nat) (st cut fr:Bool) (es:α)
 |mp (kt:TypeId) (es:α)
 |lp (c st:Nat) (snap:List (Nat×PV α))
 |dead
structure agu where
 ps:List Tmp
 gD:Code
 bd:Code
 n:Nat
abbrev Cs:=List agu
def Cl.q_{α:Type}:Cl α->Bool
 |.sr _|.sv _ _|.pr _ _ _ _=>af
 |_=>ab
def PV.q_{α:Type}:PV α->Bool
 |.one c=>c.q_
 |.ag cs=>cs.all Cl.q_
 |.tu vs=>vs.all λp=>p.2.all Cl.q_
def Y6(st:Nat)(s:LoopState)(p:Option Code):Prop:=
 match st with
 |0=>s=.ready/\p=ah
 |1=>s=.busy/\p=ah
 |2=>s≠.busy/\p=aa .ret
 |3=>s≠.busy/\p=ah
 |i+4=>s≠.busy/\p=aa (.exit i)
abbrev Ph:=Nat->Option Nat
def NK(X:Ph)(G:St)(k s:Nat)(cut:Bool)(lo len:Nat)(x:IV):Prop:=
 (X k=ah/\len=0/\(x=.raw (.slice ah 0 0)\/x=.emp))\/
 ∃id cs aD mn cap,X k=aa id/\G.at id=aa (.cells cs aD mn)/\x=.sl id (lo*s) (len- lo) cap aD s/\lo<=len/\(cap=ah->cut=af->len*s=cs.length)/\
  ∀c,cap=aa c->mn=aD/\lo*s+c*s<=cs.length/\len- lo<=c
abbrev jJ:IV->IV->Prop:=bx ab (λ_=>ah) ⟨0,.lf⟩
def nat?:IV->Option Nat
 |.raw (.int _ n)=>if 0<=n then aa n.toNat else ah
 |_=>ah
def mO(kt:Nat):Bool:=awl kt 0||Nat.ble 1000000 kt
def Left(ds:List IV)(seen:List Nat)(rem:List IV):Prop:=
 ∃ps:List (IV×Nat),rem=ps.map (·.1)/\(ps.map (·.2)).Nodup/\(∀p∈ps,ds[p.2]?=aa p.1/\p.2∉seen)/\∀i,i<ds.length->i∉seen->∃p∈ps,p.2=i
section ev
variable{α:Type}(Cx:Cs)(ev:α->Option IV)
def cR(R:Rs)(X:Ph)(L:List (LO α))(G:St)(x:IV):Cl α->Prop
 |.un=>True
 |.v z=>∃y,ev z=aa y/\jJ x y/\ao y=ab
 |.w fr z=>∃y,ev z=aa y/\bx fr R G x y/\ao y=ab
 |.pt k off ext=>∃id cs,X k=aa id/\L[k]?=aa (.var cs)/\x=.ptr id off 0 ext
 |.tp cs=>∃ds,x=.mS ds/\All2 (λd c=>∃y,ev c=aa y/\jJ d y/\ao y=ab) ds cs
 |.tw fr cs=>(∀c∈cs,∃y,ev c=aa y/\ao y=ab)/\((fr=ab/\∃ds,x=.mS ds/\All2 (λd c=>∃y,ev c=aa y/\jJ d y) ds cs)\/
   ∃id off ep m cS aD mn,R id=aa m/\G.at id=aa (.cells cS aD mn)/\mn<=ep/\ep<=aD/\x=.ptr id off ep cs.length/\off+cs.length<=m/\m<=cS.length/\
    ∀(j:Nat) c d,cs[j]?=aa d->cS[off+j]?=aa c->∃y,ev d=aa y/\bx fr R G c y)
 |.sr k=>∃s st cut fr z es,L[k]?=aa (.row s st cut fr z)/\ev z=aa (.tree s es)/\NK X G k s cut 0 es.length x
 |.sv k lo=>∃s st cut fr z es y n,L[k]?=aa (.row s st cut fr z)/\ev z=aa (.tree s es)/\ev lo=aa y/\nat? y=aa n/\n<=es.length/\(NK X G k s cut n es.length x\/(n=es.length/\x=.emp))
 |.pr k i off ext=>∃s st cut fr z es y n id cs aD mn,L[k]?=aa (.row s st cut fr z)/\ev z=aa (.tree s es)/\ev i=aa y/\nat? y=aa n/\n<es.length/\off+ext<=s/\X k=aa id/\G.at id=aa (.cells cs aD mn)/\x=.ptr id (n*s+off) aD ext
 |.mp k=>∃id kt es,X k=aa id/\L[k]?=aa (.mp kt es)/\x=if mO kt=ab then .ptr id 0 0 1 else .map id
 |.nl b s=>0<s/\x=if b then .raw (.slice ah 0 0)else .emp
 |.yl k=>∃id c st snap,X k=aa id/\L[k]?=aa (.lp c st snap)/\x=.sD id
 |.fn f bs=>(bs=[]/\x=.raw (.func (.func f) #[] #[]))\/∃ys,x=.fn (.func f) [] ys/\All2 (λy (p:Nat×Nat)=>∃id cs,X p.1=aa id/\L[p.1]?=aa (.var cs)/\y=.ptr id 0 0 p.2) ys bs
def vA(R:Rs)(X:Ph)(L:List (LO α))(G:St)(x:IV)(p:Bool×List (Cl α)):Prop:=
 if p.1 then∃xs,x=.agg xs/\All2 (cR ev R X L G) xs p.2 else∃c,p.2=[c]/\cR ev R X L G x c
def VR(R:Rs)(X:Ph)(L:List (LO α))(G:St)(x:IV):PV α->Prop
 |.one c=>cR ev R X L G x c
 |.ag cs=>∃xs,x=.agg xs/\All2 (cR ev R X L G) xs cs
 |.tu vs=>∃xs,x=.aF xs/\All2 (vA ev R X L G) xs vs
def flat(es:List IV):List IV:=es.flatMap cellsOf
def EU(R:Rs)(G:St)(es:List (Value×IV×Nat))(ds:List IV):Prop:=
 All2 (λ(e:Value×IV×Nat) d=>∃z,d=.aF [lift e.1,z]/\bx ab R G e.2.1 z) es ds
def Canon(es:List (Value×IV×Nat))(clock:Nat):Prop:=clock=es.length/\∀(i:Nat) (e:Value×IV×Nat),es[i]?=aa e->e.2.2=i
theorem Canon.app{es:List (Value×IV×Nat)}{clock:Nat}(h:Canon es clock)(k:Value)(x:IV):Canon (es++[(k,x,clock)]) (clock+1):=by
 refine⟨by simp[h.1],λi e he=>?_⟩;by_cases hi:i<es.length
 .rw[awp hi]at he;exact h.2 i e he
 .rw[awD aj]at he
  have h0:i- es.length=0:=by
   have:=(awa.1 he).1;simp at this;omega
  rw[h0]at he;simp at he;subst he;have:=h.1;show clock=i;omega
theorem Canon.set{es:List (Value×IV×Nat)}{clock q:Nat}{e:Value×IV×Nat}(h:Canon es clock)(hq:es[q]?=aa e)(k:Value)(x:IV):Canon (es.set q (k,x,e.2.2)) clock:=by
 refine⟨by simp[h.1],λi e' he=>?_⟩;rw[List.getElem?_set]at he;split at he
 .rename_i hh;subst hh;split at he
  .cases he;exact h.2 q e hq
  .cases he
 .exact h.2 i e' he
def OIt(R:Rs)(X:Ph)(L:List (LO α))(G:St)(k:Nat)(kt:Nat)(z:α):Prop:=
 (kt=0/\∃id ba p,ev z=aa (.aF [.raw (.string ba),.raw (.int .i64 (p:Nat))])/\X k=aa id/\R id=ah/\G.at id=aa (.rW ba p))\/
 (1000000<=kt/\∃id m ds seen rem rest,ev z=aa (.aF (.aF ds::.aF rem::rest))/\X k=aa id/\R id=ah/\(∃qy z',L[kt % 1000000]?=aa (.mp qy z'))/\X (kt % 1000000)=aa m/\
  G.at id=aa (.kG (aa m) ds.length seen ds.length)/\(∀s∈seen,s<ds.length)/\Left ds seen rem/\(rest=[]\/∃i last,rest=[last]/\seen.getLast?=aa i/\ds[i]?=aa last))
def OR(R:Rs)(X:Ph)(L:List (LO α))(G:St)(k:Nat):LO α->Prop
 |.var cs=>∃id cS,X k=aa id/\R id=ah/\G.at id=aa (.cells cS 0 0)/\All2 (cR ev R X L G) cS cs
 |.row s st cut fr z=>0<s/\∃es,ev z=aa (.tree s es)/\(∀e∈es,(cellsOf e).length=s)/\
   ((X k=ah/\es=[])\/∃id cs aD mn,X k=aa id/\G.at id=aa (.cells cs aD mn)/\mn<=aD/\es.length*s<=cs.length/\R id=(if st then aa (es.length*s)else ah)/\
     cs.all ao=ab/\∀(j:Nat) x d,cs[j]?=aa x->(flat es)[j]?=aa d->bx fr R G x d)
 |.mp kt z=>if mO kt=ab then OIt ev R X L G k kt z
  else∃id es clock ds,ev z=aa (.aF ds)/\X k=aa id/\R id=ah/\G.at id=aa (.map es clock)/\EU R G es ds/\Canon es clock
 |.lp c st snap=>∃id rc tm fT s p f,X k=aa id/\R id=ah/\(st<2->Cx[c]?=aa rc)/\G.at id=aa (.loop s p f tm rc.n rc.ps rc.gD rc.bd fT)/\Y6 st s p/\
   ∀q∈snap,q.2.q_=ab/\VR ev R X L G ((⟨rc.n,tm⟩:Env).at q.1) q.2
 |.dead=>True
theorem lA{Cx:Cs}{R:Rs}{X:Ph}{L:List (LO α)}{G:St}{k:Nat}{kt:TypeId}{z:α}:OR Cx ev R X L G k (.mp kt z)=if mO kt=ab then OIt ev R X L G k kt z
 else∃id es clock ds,ev z=aa (.aF ds)/\X k=aa id/\R id=ah/\G.at id=aa (.map es clock)/\EU R G es ds/\Canon es clock:=rfl
abbrev Gm(α:Type):=List (Nat×Nat×PV α)
def ct(d t:Nat):List (Nat×Nat×PV α)->Option (PV α)
 |[]=>ah
 |(d',t',pv)::g=>if(awl d d'&&awl t t')=ab then aa pv else ct d t g
structure J(R:Rs)(X:Ph)(Γ:Gm α)(L:List (LO α))(E:Nat->Env)(G:St):Prop where
 slot:∀d t pv,ct d t Γ=aa pv->VR ev R X L G ((E d).at t) pv
 obj:∀k ob,L[k]?=aa ob->OR Cx ev R X L G k ob
 inj:∀k k' id,X k=aa id->X k'=aa id->k=k'
 lt:∀k id,X k=aa id->k<L.length/\id<G.n
 qz:∀id m,R id=aa m->id<G.n
 fits:∀id m cs aD mn,R id=aa m->G.at id=aa (.cells cs aD mn)->m<=cs.length
 wf:G.t.WF
 top:∀id,G.n<=id->G.at id=ah
structure kL(ev jj:α->Option IV)(R:Rs)(X:Ph)(L:List (LO α))(G:St)(R':Rs)(aU:Ph)(L':List (LO α))(au:St)(bad:Nat->Prop):Prop where
 up:∀e z,ev e=aa z->jj e=aa z
 grow:iZ R G R' au
 var:∀k cs,L[k]?=aa (.var cs)->(∃bG,L'[k]?=aa (.var bG))/\aU k=X k
 map:∀k kt es,L[k]?=aa (.mp kt es)->(∃aT,L'[k]?=aa (.mp kt aT))/\aU k=X k
 row:∀k s st cut fr z,L[k]?=aa (.row s st cut fr z)->¬bad k->(∃dj dk z',L'[k]?=aa (.row s dj cut dk z')/\∀es,ev z=aa (.tree s es)->∃aT,jj z'=aa (.tree s aT)/\aT.length=es.length)/\aU k=X k/\
  ∀id cs aD mn,X k=aa id->G.at id=aa (.cells cs aD mn)->∃bG tD,au.at id=aa (.cells bG aD tD)/\bG.length=cs.length/\(mn=aD->tD=aD)
 lp:∀k c st snap,L[k]?=aa (.lp c st snap)->(∃c' dj zE,L'[k]?=aa (.lp c' dj zE))/\aU k=X k
end ev
variable{α:Type}{Cx:Cs}{ev jj:α->Option IV}
def Cl.ok(bad:Nat->Prop):Cl α->Prop
 |.sr k|.sv k _|.pr k _ _ _=>¬bad k
 |_=>True
def Cl.yo{bad:Nat->Prop}{c:Cl α}(h:c.q_=ab):c.ok bad:=by cases c<;>first|trivial|cases h
variable{R R':Rs}{X aU:Ph}{L L':List (LO α)}{bad:Nat->Prop}
def kL.mk'(h0:∀e z,ev e=aa z->jj e=aa z)(h1:iZ R G R' au)(h2:∀k cs,L[k]?=aa (.var cs)->(∃bG,L'[k]?=aa (.var bG))/\aU k=X k)
 (h3:∀k kt es,L[k]?=aa (.mp kt es)->(∃aT,L'[k]?=aa (.mp kt aT))/\aU k=X k)
 (h4:∀k s st cut fr z,L[k]?=aa (.row s st cut fr z)->¬bad k->(∃dj,L'[k]?=aa (.row s dj cut fr z))/\aU k=X k/\∀id,X k=aa id->au.at id=G.at id)
 (h5:∀k c st snap,L[k]?=aa (.lp c st snap)->(∃c' dj zE,L'[k]?=aa (.lp c' dj zE))/\aU k=X k):kL ev jj R X L G R' aU L' au bad:=
 ⟨h0,h1,h2,h3,λk s st cut fr z hk hb=>by
  obtain⟨⟨dj,a⟩,b,c⟩:=h4 k s st cut fr z hk hb;exact⟨⟨dj,fr,z,a,λes he=>⟨es,h0 _ _ he,rfl⟩⟩,b,λid cs aD mn hid aM=>⟨cs,mn,by rw[c id hid];exact aM,rfl,λh=>h⟩⟩,h5⟩
def NK.step{k s lo len:Nat}{cut:Bool}{x:IV}(h1:aU k=X k)(h2:∀id cs aD mn,X k=aa id->G.at id=aa (.cells cs aD mn)->∃bG tD,au.at id=aa (.cells bG aD tD)/\bG.length=cs.length/\(mn=aD->tD=aD))
 (h:NK X G k s cut lo len x):NK aU au k s cut lo len x:=by
 rcases h with⟨a,b,c⟩|⟨id,cs,aD,mn,cap,a,b,c,d,e,f⟩
 .exact .inl ⟨by rw[h1];exact a,b,c⟩
 .obtain⟨bG,tD,g1,g2,g3⟩:=h2 id cs aD mn a b;exact .inr ⟨id,bG,aD,tD,cap,by rw[h1];exact a,g1,c,d,λx y=>by rw[g2];exact e x y,λc hc=>by rw[g2];exact⟨g3 (f c hc).1,(f c hc).2⟩⟩
theorem cR.step(hs:kL ev jj R X L G R' aU L' au bad){x:IV}{c:Cl α}(a_:c.ok bad)(h:cR ev R X L G x c):cR jj R' aU L' au x c:=by
 cases c with
 |un=>trivial
 |v z=>obtain⟨y,h1,h2⟩:=h;exact⟨y,hs.up _ _ h1,h2⟩
 |w fr z=>obtain⟨y,h1,h2,h3⟩:=h;exact⟨y,hs.up _ _ h1,h2.mono hs.grow,h3⟩
 |pt k off ext=>
  obtain⟨id,cs,h1,h2,h3⟩:=h;obtain⟨⟨bG,h4⟩,h5⟩:=hs.var k cs h2;exact⟨id,bG,by rw[h5];exact h1,h4,h3⟩
 |tp cs=>
  obtain⟨ds,h1,h2⟩:=h;exact⟨ds,h1,h2.mono λd c ⟨y,h3,h4⟩=>⟨y,hs.up _ _ h3,h4⟩⟩
 |tw fr cs=>
  obtain⟨h0,h|⟨id,off,ep,m,cS,aD,mn,h1,h2,h3,h4,h5,h6,h7,h8⟩⟩:=h
  .obtain⟨hf,ds,h1,h2⟩:=h;exact⟨λc hc=>(h0 c hc).imp λy hy=>⟨hs.up _ _ hy.1,hy.2⟩,.inl ⟨hf,ds,h1,h2.mono λd c ⟨y,h3,h4⟩=>⟨y,hs.up _ _ h3,h4⟩⟩⟩
  .obtain⟨bG,ko,SZ,hle,BV⟩:=hs.grow.vj id m cS aD mn h1 h2;obtain⟨m',hR',hmm⟩:=hs.grow.le id m h1;refine⟨λc hc=>(h0 c hc).imp λy hy=>⟨hs.up _ _ hy.1,hy.2⟩,.inr ⟨id,off,ep,m',bG,ko,mn,hR',SZ,h3,awy h4 hle,h5,by omega,hs.grow.fits id m' bG ko mn hR' SZ,λj c d hd hc=>?_⟩⟩;have hj:=(awa.1 hd).1;rw[BV _ aj]at hc;obtain⟨y,yp,vB⟩:=h8 j c d hd hc;exact⟨y,hs.up _ _ yp,vB.mono hs.grow⟩
 |sr k=>
  obtain⟨s,st,cut,fr,z,es,h1,he,h2⟩:=h;obtain⟨⟨dj,dk,z',h3,h6⟩,h4,h5⟩:=hs.row k _ _ _ _ _ h1 a_;obtain⟨aT,h7,h8⟩:=h6 es he;exact⟨s,dj,cut,dk,z',aT,h3,h7,h8▸h2.step h4 h5⟩
 |sv k lo=>
  obtain⟨s,st,cut,fr,z,es,y,n,h1,he,hy,hn,hl,h2⟩:=h;obtain⟨⟨dj,dk,z',h3,h6⟩,h4,h5⟩:=hs.row k _ _ _ _ _ h1 a_;obtain⟨aT,h7,h8⟩:=h6 es he;exact⟨s,dj,cut,dk,z',aT,y,n,h3,h7,hs.up _ _ hy,hn,by omega,h2.elim (λh2=>.inl (h8▸h2.step h4 h5)) (λh2=>.inr ⟨by omega,h2.2⟩)⟩
 |pr k i off ext=>
  obtain⟨s,st,cut,fr,z,es,y,n,id,cs,aD,mn,h1,he,hy,hn,hl,hx,h6,h7,h8⟩:=h;obtain⟨⟨dj,dk,z',h3,h9⟩,h4,h5⟩:=hs.row k _ _ _ _ _ h1 a_;obtain⟨aT,S0,S1⟩:=h9 es he;obtain⟨bG,tD,g1,g2,g3⟩:=h5 id cs aD mn h6 h7;exact⟨s,dj,cut,dk,z',aT,y,n,id,bG,aD,tD,h3,S0,hs.up _ _ hy,hn,by omega,hx,by rw[h4];exact h6,g1,h8⟩
 |mp k=>
  obtain⟨id,kt,es,h1,h2,h3⟩:=h;obtain⟨⟨aT,h4⟩,h5⟩:=hs.map k kt es h2;exact⟨id,kt,aT,by rw[h5];exact h1,h4,h3⟩
 |nl b s=>exact h
 |yl k=>
  obtain⟨id,c,st,snap,h1,h2,h3⟩:=h;obtain⟨⟨c',dj,zE,h4⟩,h5⟩:=hs.lp k c st snap h2;exact⟨id,c',dj,zE,by rw[h5];exact h1,h4,h3⟩
 |fn f bs=>
  rcases h with h|⟨ys,h1,h2⟩
  .exact .inl h
  .refine .inr ⟨ys,h1,h2.mono λy p ⟨id,cs,h3,h4,h5⟩=>?_⟩;obtain⟨⟨bG,h6⟩,h7⟩:=hs.var p.1 cs h4;exact⟨id,bG,by rw[h7];exact h3,h6,h5⟩
def PV.ok(bad:Nat->Prop):PV α->Prop
 |.one c=>c.ok bad
 |.ag cs=>∀c∈cs,c.ok bad
 |.tu vs=>∀p∈vs,∀c∈p.2,c.ok bad
theorem VR.step(hs:kL ev jj R X L G R' aU L' au bad){x:IV}{c:PV α}(a_:c.ok bad)(h:VR ev R X L G x c):VR jj R' aU L' au x c:=by
 cases c with
 |one c=>exact cR.step hs a_ h
 |ag cs=>
  obtain⟨xs,h1,h2⟩:=h;exact⟨xs,h1,h2.Ak λa b hb b_=>cR.step hs (a_ b hb) b_⟩
 |tu vs=>
  obtain⟨xs,h1,h2⟩:=h;refine⟨xs,h1,h2.Ak λa p hp b_=>?_⟩;unfold vA at b_⊢;split at b_
  .rename_i hb;rw[if_pos hb];obtain⟨ys,h3,h4⟩:=b_;exact⟨ys,h3,h4.Ak λa b hb b_=>cR.step hs (a_ p hp b hb) b_⟩
  .rename_i hb;rw[if_neg hb];obtain⟨c,h3,h4⟩:=b_;exact⟨c,h3,cR.step hs (a_ p hp c (by rw[h3];simp)) h4⟩
theorem PV.yo{bad:Nat->Prop}{p:PV α}(h:p.q_=ab):p.ok bad:=by
 cases p with
 |one c=>exact Cl.yo h
 |ag cs=>exactλc hc=>Cl.yo (awt.1 h c hc)
 |tu vs=>exactλp hp c hc=>Cl.yo (awt.1 (awt.1 h p hp) c hc)
def LO.ok(bad:Nat->Prop):LO α->Prop
 |.var cs=>∀c∈cs,c.ok bad
 |_=>True
theorem OR.step(hs:kL ev jj R X L G R' aU L' au bad){k:Nat}{o:LO α}(jS:aU k=X k)(aM:∀id,X k=aa id->au.at id=G.at id/\R' id=R id)(a_:o.ok bad)(h:OR Cx ev R X L G k o):OR Cx jj R' aU L' au k o:=by
 cases o with
 |var cs=>
  obtain⟨id,cS,h1,h2,h3,h4⟩:=h;obtain⟨h6,h7⟩:=aM id h1;exact⟨id,cS,by rw[jS];exact h1,by rw[h7];exact h2,by rw[h6];exact h3,h4.Ak λa b hb b_=>cR.step hs (a_ b hb) b_⟩
 |row s st cut fr z=>
  obtain⟨h1,es,h2,h3,h4⟩:=h;refine⟨h1,es,hs.up _ _ h2,h3,?_⟩;rcases h4 with⟨h4,h5⟩|⟨id,cs,aD,mn,h4,h5,h6,h7,h8,h9,S0⟩
  .exact .inl ⟨by rw[jS];exact h4,h5⟩
  .obtain⟨ha,hb⟩:=aM id h4;exact .inr ⟨id,cs,aD,mn,by rw[jS];exact h4,by rw[ha];exact h5,h6,h7,by rw[hb];exact h8,h9,λj x d hx hd=>(S0 j x d hx hd).mono hs.grow⟩
 |mp kt z=>
  rw[lA]at h⊢;by_cases hk:mO kt=ab
  .rw[if_pos hk]at h⊢;rcases h with⟨h0,id,ba,p,h1,h2,h3,h4⟩|⟨h0,id,m,ds,seen,rem,rest,h1,h2,h3,⟨qy,z',h8⟩,h9,h4,h5⟩
   .obtain⟨h6,h7⟩:=aM id h2;exact .inl ⟨h0,id,ba,p,hs.up _ _ h1,by rw[jS];exact h2,by rw[h7];exact h3,by rw[h6];exact h4⟩
   .obtain⟨h6,h7⟩:=aM id h2;obtain⟨⟨aT,g1⟩,g2⟩:=hs.map _ _ _ h8;exact .inr ⟨h0,id,m,ds,seen,rem,rest,hs.up _ _ h1,by rw[jS];exact h2,by rw[h7];exact h3,⟨qy,aT,g1⟩,by rw[g2];exact h9,by rw[h6];exact h4,h5⟩
  .rw[if_neg hk]at h⊢;obtain⟨id,es,clock,ds,h1,h2,h3,h4,h5⟩:=h;obtain⟨h6,h7⟩:=aM id h2;exact⟨id,es,clock,ds,hs.up _ _ h1,by rw[jS];exact h2,by rw[h7];exact h3,by rw[h6];exact h4,h5.1.mono λa d ⟨z,h8,h9⟩=>⟨z,h8,h9.mono hs.grow⟩,h5.2⟩
 |lp c st snap=>
  obtain⟨id,rc,tm,fT,s,p,f,h1,h2,h3,h4,h5,h6⟩:=h;obtain⟨h7,h8⟩:=aM id h1;exact⟨id,rc,tm,fT,s,p,f,by rw[jS];exact h1,by rw[h8];exact h2,h3,by rw[h7];exact h4,h5,λq hq=>⟨(h6 q hq).1,(h6 q hq).2.step hs (PV.yo (h6 q hq).1)⟩⟩
 |dead=>trivial
variable{Γ JC:Gm α}{E:Nat->Env}
def kS(E:Nat->Env)(d:Nat)(e:Env):Nat->Env:=λj=>if j=d then e else E j
@[simp] theorem bI(E:Nat->Env)(d:Nat)(e:Env):kS E d e d=e:=by simp[kS]
def abr(E:Nat->Env)(d:Nat)(e e':Env):kS (kS E d e) d e'=kS E d e':=by
 funext j;unfold kS;split<;>rfl
def EV(d t:Nat):List (Nat×Nat×PV α)->List (Nat×Nat×PV α)
 |[]=>[]
 |(d',t',pv)::g=>if(awl d d'&&awl t t')=ab then EV d t g else(d',t',pv)::EV d t g
def Ki{d t d' t':Nat}{pv:PV α}:∀(g:List (Nat×Nat×PV α)),ct d' t' (EV d t g)=aa pv->¬(d'=d/\t'=t)/\ct d' t' g=aa pv:=by
 intro g;induction g with
 |nil=>intro h;cases h
 |cons p g ih=>
  obtain⟨a,b,q⟩:=p;intro h;unfold EV at h;split at h
  .rename_i b_;simp only[awb,awV]at b_;obtain⟨h1,h2⟩:=ih h;refine⟨h1,?_⟩;unfold ct;rw[if_neg]
   .exact h2
   .simp only[awb,awV];rintro⟨rfl,rfl⟩;exact h1 ⟨b_.1.symm,b_.2.symm⟩
  .rename_i b_;simp only[awb,awV]at b_;unfold ct at h⊢;split at h
   .rename_i hc;rw[if_pos hc];simp only[awb,awV]at hc;obtain⟨rfl,rfl⟩:=hc;exact⟨λhh=>b_ ⟨hh.1.symm,hh.2.symm⟩,h⟩
   .rename_i hc;rw[if_neg hc];exact ih h
def NL(d t:Nat)(pv:PV α)(g:List (Nat×Nat×PV α)):List (Nat×Nat×PV α):=(d,t,pv)::EV d t g
def lU{d t a b:Nat}{q pv:PV α}{g:List (Nat×Nat×PV α)}(h:ct d t ((a,b,q)::g)=aa pv):(d=a/\t=b/\pv=q)\/(¬(d=a/\t=b)/\ct d t g=aa pv):=by
 unfold ct at h;split at h
 .rename_i hc;simp only[awb,awV]at hc;cases h;exact .inl ⟨hc.1,hc.2,rfl⟩
 .rename_i hc;simp only[awb,awV]at hc;exact .inr ⟨hc,h⟩
def Gw(e:Env)(dst:Option Nat)(x:IV)(t:Nat)(h:dst≠aa t):(e.put dst x).at t=e.at t:=by
 cases dst with
 |none=>rfl
 |some d=>rw[Env.cW,if_neg (λhc=>h (by rw[hc.2]))]
def J.Y7(h:J Cx ev R X Γ L E G)(d:Nat)(dst:Option Nat)(x:IV)(ek:∀t,dst=aa t->JC=EV d t Γ)(hn:dst=ah->JC=Γ):J Cx ev R X JC L (kS E d ((E d).put dst x)) G:=by
 refine{h with slot:=λd' t' pv hg=>?_}
 have hold:¬(d'=d/\dst=aa t')/\ct d' t' Γ=aa pv:=by
  cases hd:dst with
  |none=>rw[hn hd]at hg;exact⟨λhh=>(by cases hh.2),hg⟩
  |some t=>
   rw[ek t hd]at hg;obtain⟨h1,h2⟩:=Ki Γ hg;exact⟨λhh=>h1 ⟨hh.1,(by injection hh.2 with hh;exact hh.symm)⟩,h2⟩
 have:=h.slot d' t' pv hold.2;unfold kS;split
 .rename_i hd;subst hd;rw[Gw _ _ _ _ (λhh=>hold.1 ⟨rfl,hh⟩)];exact this
 .exact this
theorem J.put(h:J Cx ev R X Γ L E G)(d:Nat){t:Nat}(ht:t<(E d).n){x:IV}{pv:PV α}(hx:VR ev R X L G x pv):J Cx ev R X (NL d t pv Γ) L (kS E d ((E d).put (aa t) x)) G:=by
 have hb:=h.Y7 (JC:=EV d t Γ) d (aa t) x (λt' h=>by cases h;rfl) (λh=>by cases h);refine{hb with slot:=λd' t' Gx hg=>?_};rcases lU hg with⟨rfl,rfl,rfl⟩|⟨_,h2⟩
 .rw[bI,Env.cW,if_pos ⟨ht,rfl⟩];exact hx
 .exact hb.slot d' t' Gx h2
def J.less(h:J Cx ev R X Γ L E G)(hs:∀d t pv,ct d t JC=aa pv->ct d t Γ=aa pv):J Cx ev R X JC L E G:={h with slot:=λd t pv ht=>h.slot d t pv (hs d t pv ht)}
end Go.Ev
namespace Go.Ev
section
variable{Cx:Cs}
variable{P:Program}{G au:St}{R R':Rs}{X aU:Ph}{α:Type}{ev jj:α->Option IV}{L L':List (LO α)}{bad:Nat->Prop}{Γ JC:Gm α}{E:Nat->Env}
def J.ra(h:J Cx ev R X Γ L E G):R G.n=ah:=by
 cases hr:R G.n with
 |none=>rfl
 |some m=>exact absurd (h.qz _ _ hr) (aBu _)
def c7{α:Type}{l:List α}{i:Nat}{a:α}(h:l[i]?=aa a):i<l.length:=(awa.1 h).1
def bT(X:Ph)(k id:Nat):Ph:=λj=>if j=k then aa id else X j
def P6(h:J Cx ev R X Γ L E G)(ob:Ob):iZ R G R (G.add ob):=by
 refine⟨λ_ m h=>⟨m,h,awe _⟩,λid m cs aD mn hR aM=>⟨cs,aD,?_,awe _,λ_ _=>rfl⟩,λid m cs aD mn hR aM=>?_⟩
 .have:=h.qz _ _ hR;rw[St.iO,if_neg aj];exact aM
 .have:=h.qz _ _ hR;rw[St.iO,if_neg aj]at aM;exact h.fits _ _ _ _ _ hR aM
def DY(h:J Cx ev R X Γ L E G)(ob:Ob)(lo:LO α):kL ev ev R X L G R (bT X L.length G.n) (L++[lo]) (G.add ob) (λ_=>False):=by
 have hL:∀k o,L[k]?=aa o->(L++[lo])[k]?=aa o/\bT X L.length G.n k=X k:=λk o hk=>by
  have:=c7 hk;exact⟨by rw[awp this];exact hk,by simp[bT,show k≠L.length by omega]⟩
 refine .mk' (λ_ _ h=>h) (P6 h ob) (λk cs hk=>⟨⟨cs,(hL k _ hk).1⟩,(hL k _ hk).2⟩) (λk kt es hk=>⟨⟨es,(hL k _ hk).1⟩,(hL k _ hk).2⟩) (λk s st cut fr z hk _=>⟨⟨st,(hL k _ hk).1⟩,(hL k _ hk).2,λid hid=>?_⟩) (λk c st snap hk=>⟨⟨c,st,snap,(hL k _ hk).1⟩,(hL k _ hk).2⟩);have:=(h.lt _ _ hid).2;rw[St.iO,if_neg aj]
def Cl.aZ(c:Cl α):c.ok (λ_=>False):=by cases c<;>simp[Cl.ok]
theorem PV.aZ(c:PV α):c.ok (λ_=>False):=by
 cases c with
 |one c=>exact c.aZ
 |ag cs=>exactλc _=>c.aZ
 |tu vs=>exactλ_ _ c _=>c.aZ
theorem LO.aZ(o:LO α):o.ok (λ_=>False):=by
 cases o with
 |var cs=>exactλc _=>c.aZ
 |_=>trivial
def J.yS(h:J Cx ev R X Γ L E G)(ob:Ob)(lo:LO α)(ho:OR Cx ev R (bT X L.length G.n) (L++[lo]) (G.add ob) L.length lo):J Cx ev R (bT X L.length G.n) Γ (L++[lo]) E (G.add ob):=by
 have hs:=DY h ob lo;refine⟨λd t pv hg=>(h.slot d t pv hg).step hs pv.aZ,λk o hk=>?_,λk k' id h1 h2=>?_,λk id hk=>?_,λid m hR=>?_,hs.grow.fits,h.wf.set _ _,λid hid=>?_⟩
 .by_cases eX:k<L.length
  .rw[awp eX]at hk;refine(h.obj k o hk).step hs (by simp[bT,show k≠L.length by omega]) (λid hid=>⟨?_,rfl⟩) o.aZ;have:=(h.lt _ _ hid).2;rw[St.iO,if_neg aj]
  .have:k=L.length:=by have:=c7 hk;simp at this;omega
   subst this;simp at hk;subst hk;exact ho
 .unfold bT at h1 h2;split at h1<;>split at h2
  .omega
  .cases h1;have:=(h.lt _ _ h2).2;omega
  .cases h2;have:=(h.lt _ _ h1).2;omega
  .exact h.inj k k' id h1 h2
 .unfold bT at hk;split at hk
  .cases hk;simp[St.add];omega
  .have:=h.lt _ _ hk;simp[St.add];omega
 .have:=h.qz _ _ hR;simp[St.add];omega
 .have h_:G.n+1<=id:=hid;rw[St.iO,if_neg aj];exact h.top id aj
def J.up(h:J Cx ev R X Γ L E G)(fv:∀e z,ev e=aa z->jj e=aa z):J Cx jj R X Γ L E G:=by
 have hs:kL ev jj R X L G R X L G (λ_=>False):=(.mk' fv (iZ.refl h.fits) (λk cs hk=>⟨⟨cs,hk⟩,rfl⟩) (λk kt es hk=>⟨⟨es,hk⟩,rfl⟩) (λk s st cut fr z hk _=>⟨⟨st,hk⟩,rfl,λ_ _=>rfl⟩) (λk c st snap hk=>⟨⟨c,st,snap,hk⟩,rfl⟩));exact{h with slot:=λd t pv hg=>(h.slot d t pv hg).step hs pv.aZ,obj:=λk o hk=>(h.obj k o hk).step hs rfl (λ_ _=>⟨rfl,rfl⟩) o.aZ}
def VR.up{x:IV}{pv:PV α}(h:J Cx ev R X Γ L E G)(hx:VR ev R X L G x pv)(fv:∀e z,ev e=aa z->jj e=aa z):VR jj R X L G x pv:=
 hx.step (bad:=λ_=>False) (.mk' fv (iZ.refl h.fits) (λk cs hk=>⟨⟨cs,hk⟩,rfl⟩) (λk kt es hk=>⟨⟨es,hk⟩,rfl⟩) (λk s st cut fr z hk _=>⟨⟨st,hk⟩,rfl,λ_ _=>rfl⟩) (λk c st snap hk=>⟨⟨c,st,snap,hk⟩,rfl⟩)) pv.aZ
def Cl.drop(k:Nat):Cl α->Cl α
 |.sr k'=>if awl k' k=ab then .un else .sr k'
 |.sv k' lo=>if awl k' k=ab then .un else .sv k' lo
 |.pr k' i off ext=>if awl k' k=ab then .un else .pr k' i off ext
 |c=>c
def PV.drop(k:Nat):PV α->PV α
 |.one c=>.one (c.drop k)
 |.ag cs=>.ag (cs.map (Cl.drop k))
 |.tu vs=>.tu (vs.map λp=>(p.1,p.2.map (Cl.drop k)))
def LO.drop(k:Nat):LO α->LO α
 |.var cs=>.var (cs.map (Cl.drop k))
 |o=>o
def LR(k:Nat):List (Nat×Nat×PV α)->List (Nat×Nat×PV α)
 |[]=>[]
 |(d,t,pv)::g=>(d,t,pv.drop k)::LR k g
def Cl.oD(k:Nat)(c:Cl α):(c.drop k).ok (·=k):=by
 cases c<;>simp only[Cl.drop]<;>first|trivial|(split<;>first|trivial|(rename_i hh;simpa[Cl.ok,awV]using hh))
theorem PV.oD(k:Nat)(c:PV α):(c.drop k).ok (·=k):=by
 cases c with
 |one c=>exact c.oD k
 |ag cs=>intro c hc;simp at hc;obtain⟨a,_,rfl⟩:=hc;exact a.oD k
 |tu vs=>intro p hp c hc;obtain⟨q,_,rfl⟩:=List.mem_map.1 hp;simp at hc;obtain⟨a,_,rfl⟩:=hc;exact a.oD k
theorem LO.oD(k:Nat)(o:LO α):(o.drop k).ok (·=k):=by
 cases o with
 |var cs=>intro c hc;simp at hc;obtain⟨a,_,rfl⟩:=hc;exact a.oD k
 |_=>trivial
theorem cR.drop{x:IV}{c:Cl α}(k:Nat)(h:cR ev R X L G x c):cR ev R X L G x (c.drop k):=by
 cases c<;>simp only[Cl.drop]<;>first|exact h|(split<;>first|trivial|exact h)
theorem VR.drop{x:IV}{c:PV α}(k:Nat)(h:VR ev R X L G x c):VR ev R X L G x (c.drop k):=by
 cases c with
 |one c=>exact cR.drop k h
 |ag cs=>
  obtain⟨xs,h1,h2⟩:=h;exact⟨xs,h1,h2.map λa b b_=>b_.drop k⟩
 |tu vs=>
  obtain⟨xs,h1,h2⟩:=h;refine⟨xs,h1,h2.map λa p b_=>?_⟩;unfold vA at b_⊢;split at b_
  .rename_i hb;rw[if_pos hb];obtain⟨ys,h3,h4⟩:=b_;exact⟨ys,h3,h4.map λa b b_=>b_.drop k⟩
  .rename_i hb;rw[if_neg hb];obtain⟨c,h3,h4⟩:=b_;exact⟨c.drop k,by simp[h3],h4.drop k⟩
def Kj(h:J Cx ev R X Γ L E G)(k:Nat):kL ev ev R X L G R X (L.map (LO.drop k)) G (λ_=>False):=by
 refine .mk' (λ_ _ h=>h) (iZ.refl h.fits) (λj cs hj=>⟨⟨cs.map (Cl.drop k),?_⟩,rfl⟩) (λj kt es hj=>⟨⟨es,?_⟩,rfl⟩) (λj s st cut fr z hj _=>⟨⟨st,?_⟩,rfl,λ_ _=>rfl⟩) (λj c st snap hj=>⟨⟨c,st,snap,?_⟩,rfl⟩)<;>simp[awu,hj,LO.drop]
def Hc{d t k:Nat}{pv:PV α}:∀(g:Gm α),ct d t (LR k g)=aa pv->∃q,ct d t g=aa q/\pv=q.drop k:=by
 intro g;induction g with
 |nil=>intro h;cases h
 |cons p g ih=>
  obtain⟨a,b,q⟩:=p;intro h;rcases lU h with⟨rfl,rfl,rfl⟩|⟨h1,h2⟩
  .exact⟨q,by simp[ct],rfl⟩
  .obtain⟨q',h3,h4⟩:=ih h2;refine⟨q',?_,h4⟩;unfold ct;rw[if_neg]
   .exact h3
   .simpa[awV]using h1
def J.Y8(h:J Cx ev R X Γ L E G)(k:Nat):J Cx ev R X (LR k Γ) (L.map (LO.drop k)) E G:=by
 have hs:=Kj h k;refine{h with slot:=λd t pv hg=>?_,obj:=λj o hj=>?_,lt:=λj id hj=>by simpa using h.lt j id hj}
 .obtain⟨q,h1,rfl⟩:=Hc Γ hg;exact((h.slot d t q h1).drop k).step hs (PV.aZ _)
 .rw[awu]at hj;obtain⟨o',h1,rfl⟩:=awj.1 hj;have ho:=(h.obj j o' h1).step hs rfl (λ_ _=>⟨rfl,rfl⟩) (LO.aZ _);cases o' with
  |var cs=>
   obtain⟨id,cS,a,b,c,d⟩:=ho;exact⟨id,cS,a,b,c,d.map λ_ _ b_=>b_.drop k⟩
  |row=>exact ho
  |mp=>exact ho
  |lp=>exact ho
  |dead=>exact ho
def J.tE(h:J Cx ev R X Γ L E G){k id:Nat}{lo kq:LO α}{fp:Ob}(hid:X k=aa id)(hk:L[k]?=aa lo)(hR:∀j,j≠id->R' j=R j)
 (hle:∀m,R id=aa m->∃m',R' id=aa m'/\m<=m')
 (BV:∀m cs aD mn,R id=aa m->G.at id=aa (.cells cs aD mn)->∃bG ko,fp=.cells bG ko mn/\aD<=ko/\∀j,j<m->bG[j]?=cs[j]?)
 (zF:∀m cs aD mn,R' id=aa m->fp=.cells cs aD mn->m<=cs.length)
 (hv:∀cs,lo=.var cs->∃bG,kq=.var bG)(hm:∀kt es,lo=.mp kt es->∃aT,kq=.mp kt aT)(hr:∀s st cut fr z,lo=.row s st cut fr z->bad k)
 (P7:∀d t pv,ct d t Γ=aa pv->pv.ok bad)(hL:∀j o,L[j]?=aa o->j≠k->o.ok bad)
 (ho:kL ev ev R X L G R' X (L.set k kq) (G.put id fp) bad->OR Cx ev R' X (L.set k kq) (G.put id fp) k kq)
 (Gy:∀c st snap,lo=.lp c st snap->∃c' dj zE,kq=.lp c' dj zE:=by intro _ _ _ h;cases h):
 kL ev ev R X L G R' X (L.set k kq) (G.put id fp) bad/\J Cx ev R' X Γ (L.set k kq) E (G.put id fp):=by
 have eX:=c7 hk;have bg:∀j,j≠k->(L.set k kq)[j]?=L[j]? :=λj hj=>ayo (λhc=>hj hc.symm);have bE:(L.set k kq)[k]?=aa kq:=by simp[eX]
 have NM:∀j bt,j≠k->X j=aa bt->bt≠id:=λj bt hj nW hc=>hj (h.inj j k id (by rw[<-hc];exact nW) hid)
 have r8:iZ R G R' (G.put id fp):=by
  refine⟨λbt m hm=>?_,λbt m cs aD mn hm aM=>?_,λbt m cs aD mn hm aM=>?_⟩
  .by_cases hc:bt=id
   .subst hc;exact hle m hm
   .exact⟨m,by rw[hR bt hc];exact hm,awe _⟩
  .by_cases hc:bt=id
   .subst hc;obtain⟨bG,ko,h1,h2,h3⟩:=BV m cs aD mn hm aM;exact⟨bG,ko,by rw[St.cW,if_pos rfl,h1],h2,h3⟩
   .exact⟨cs,aD,by rw[St.cW,if_neg (λhh=>hc hh.symm)];exact aM,awe _,λ_ _=>rfl⟩
  .by_cases hc:bt=id
   .subst hc;rw[St.cW,if_pos rfl]at aM;exact zF m cs aD mn hm (by injection aM)
   .rw[St.cW,if_neg (λhh=>hc hh.symm)]at aM;exact h.fits bt m cs aD mn (by rw[<-hR bt hc];exact hm) aM
 have hs:kL ev ev R X L G R' X (L.set k kq) (G.put id fp) bad:=by
  refine .mk' (λ_ _ h=>h) r8 (λj cs hj=>?_) (λj kt es hj=>?_) (λj s st cut fr z hj hb=>?_) (λj c st snap hj=>?_)
  .by_cases bz:j=k
   .subst bz;rw[hk]at hj;injection hj with hj
    obtain⟨bG,h1⟩:=hv cs hj;exact⟨⟨bG,by rw[bE,h1]⟩,rfl⟩
   .exact⟨⟨cs,by rw[bg j bz];exact hj⟩,rfl⟩
  .by_cases bz:j=k
   .subst bz;rw[hk]at hj;injection hj with hj
    obtain⟨bG,h1⟩:=hm kt es hj;exact⟨⟨bG,by rw[bE,h1]⟩,rfl⟩
   .exact⟨⟨es,by rw[bg j bz];exact hj⟩,rfl⟩
  .by_cases bz:j=k
   .subst bz;rw[hk]at hj;injection hj with hj
    exact absurd (hr _ _ _ _ _ hj) hb
   .exact⟨⟨st,by rw[bg j bz];exact hj⟩,rfl,λbt h_=>by rw[St.cW,if_neg (λhc=>NM j bt bz h_ hc.symm)]⟩
  .by_cases bz:j=k
   .subst bz;rw[hk]at hj;injection hj with hj
    obtain⟨c',dj,zE,h1⟩:=Gy c st snap hj;exact⟨⟨c',dj,zE,by rw[bE,h1]⟩,rfl⟩
   .exact⟨⟨c,st,snap,by rw[bg j bz];exact hj⟩,rfl⟩
 refine⟨hs,⟨λd t pv hg=>(h.slot d t pv hg).step hs (P7 d t pv hg),λj o hj=>?_,h.inj,λj bt hj=>by simpa[St.put]using h.lt j bt hj,λbt m hm=>?_,r8.fits,h.wf.set _ _,λbt h_=>?_⟩⟩
 .by_cases bz:j=k
  .subst bz;rw[bE]at hj;cases hj;exact ho hs
  .rw[bg j bz]at hj;exact(h.obj j o hj).step hs rfl (λbt h_=>⟨by rw[St.cW,if_neg (λhc=>NM j bt bz h_ hc.symm)],hR _ (NM j bt bz h_)⟩) (hL j o hj bz)
 .by_cases hc:bt=id
  .subst hc;exact(h.lt _ _ hid).2
  .rw[hR bt hc]at hm;exact h.qz _ _ hm
 .have:=(h.lt _ _ hid).2;have Rt:G.n<=bt:=h_;rw[St.cW,if_neg aj];exact h.top bt Rt
def J.aka(h:J Cx ev R X Γ L E G){k:Nat}{lo kq:LO α}{fp:Ob}(hk:L[k]?=aa lo)(hR:∀j,j≠G.n->R' j=R j)
 (zF:∀m cs aD mn,R' G.n=aa m->fp=.cells cs aD mn->m<=cs.length)
 (hr:∃s st cut fr z,lo=.row s st cut fr z)(hb:bad k)
 (P7:∀d t pv,ct d t Γ=aa pv->pv.ok bad)(hL:∀j o,L[j]?=aa o->j≠k->o.ok bad)
 (ho:kL ev ev R X L G R' (bT X k G.n) (L.set k kq) (G.add fp) bad->OR Cx ev R' (bT X k G.n) (L.set k kq) (G.add fp) k kq):
 kL ev ev R X L G R' (bT X k G.n) (L.set k kq) (G.add fp) bad/\J Cx ev R' (bT X k G.n) Γ (L.set k kq) E (G.add fp):=by
 have eX:=c7 hk;have bg:∀j,j≠k->(L.set k kq)[j]?=L[j]? :=λj hj=>ayo (λhc=>hj hc.symm);have bE:(L.set k kq)[k]?=aa kq:=by simp[eX]
 have jS:∀j,j≠k->bT X k G.n j=X j:=λj hj=>by simp[bT,hj]
 have r8:iZ R G R' (G.add fp):=by
  refine⟨λbt m hm=>?_,λbt m cs aD mn hm aM=>?_,λbt m cs aD mn hm aM=>?_⟩
  .have:=h.qz _ _ hm;exact⟨m,by rw[hR bt aj];exact hm,awe _⟩
  .have:=h.qz _ _ hm;exact⟨cs,aD,by rw[St.iO,if_neg aj];exact aM,awe _,λ_ _=>rfl⟩
  .by_cases hc:bt=G.n
   .subst hc;rw[St.iO,if_pos rfl]at aM;exact zF m cs aD mn hm (by injection aM)
   .rw[St.iO,if_neg (λhh=>hc hh.symm)]at aM;exact h.fits bt m cs aD mn (by rw[<-hR bt hc];exact hm) aM
 have hs:kL ev ev R X L G R' (bT X k G.n) (L.set k kq) (G.add fp) bad:=by
  obtain⟨s,st,cut,fr,z,rfl⟩:=hr;refine .mk' (λ_ _ h=>h) r8 (λj cs hj=>?_) (λj kt es hj=>?_) (λj s st cut fr z hj sH=>?_) (λj c st snap hj=>?_)
  .by_cases bz:j=k
   .subst bz;rw[hk]at hj;cases hj
   .exact⟨⟨cs,by rw[bg j bz];exact hj⟩,jS j bz⟩
  .by_cases bz:j=k
   .subst bz;rw[hk]at hj;cases hj
   .exact⟨⟨es,by rw[bg j bz];exact hj⟩,jS j bz⟩
  .by_cases bz:j=k
   .subst bz;exact absurd hb sH
   .exact⟨⟨st,by rw[bg j bz];exact hj⟩,jS j bz,λbt h_=>by have:=(h.lt _ _ h_).2;rw[St.iO,if_neg aj]⟩
  .by_cases bz:j=k
   .subst bz;rw[hk]at hj;cases hj
   .exact⟨⟨c,st,snap,by rw[bg j bz];exact hj⟩,jS j bz⟩
 refine⟨hs,⟨λd t pv hg=>(h.slot d t pv hg).step hs (P7 d t pv hg),λj o hj=>?_,λj j' bt h1 h2=>?_,λj bt hj=>?_,λbt m hm=>?_,r8.fits,h.wf.set _ _,λbt h_=>?_⟩⟩
 .by_cases bz:j=k
  .subst bz;rw[bE]at hj;cases hj;exact ho hs
  .rw[bg j bz]at hj;refine(h.obj j o hj).step hs (jS j bz) (λbt h_=>?_) (hL j o hj bz);have:=(h.lt _ _ h_).2;exact⟨by rw[St.iO,if_neg aj],hR _ aj⟩
 .unfold bT at h1 h2;split at h1<;>split at h2
  .omega
  .cases h1;have:=(h.lt _ _ h2).2;omega
  .cases h2;have:=(h.lt _ _ h1).2;omega
  .exact h.inj j j' bt h1 h2
 .unfold bT at hj;split at hj
  .cases hj;rename_i hh;subst hh;simp[St.add];omega
  .have:=h.lt _ _ hj;simp[St.add];omega
 .by_cases hc:bt=G.n
  .simp[St.add];omega
  .rw[hR bt hc]at hm;have:=h.qz _ _ hm;simp[St.add];omega
 .have Rt:G.n+1<=bt:=h_;rw[St.iO,if_neg aj];exact h.top bt aj
variable{N:Nat}{Z:Io}{w:World}{e:Env}{rd:Option Nat}{fn:FuncId}{df:List Df}
def EW(B:Nat)(Z:Io)(w:World)(G:St)(id:Nat):Prop:=∃l,Z id 0=aa l/\G.at id=ah/\id<G.n/\B<=l.b/\w.heap[l.b]?=aa (.deferred (aa []))
def zm(B:Nat)(Z:Io)(w:World)(G:St)(df:List Df)(xs:List Deferred):Prop:=B<=w.heap.size/\∃ids:List Nat,kY Z (ids.map .wT++df) xs/\(∀id∈ids,EW B Z w G id)/\ids.Nodup
def EW.step{B ro id:Nat}{aK:Io}{w':World}(hi:Inv N Z G w)(hl:Le ro Z w G aK w' au)(h:EW B Z w G id):EW B aK w' au id:=by
 obtain⟨l,h1,h2,h3,h4,h5⟩:=h;refine⟨l,hl.ext _ _ _ h1,hl.dead id h2 (.inl h3),axV h3 hl.yO,h4,?_⟩;rw[hl.frame l.b (aw4.1 h5).1 λbt h_=>.inr ?_]
 .exact h5
 .rw[hi.inj bt id l.b h_ ⟨0,l,h1,rfl⟩];exact h2
theorem zm.step{B ro:Nat}{aK:Io}{w':World}{xs:List Deferred}(hi:Inv N Z G w)(hl:Le ro Z w G aK w' au)(h:zm B Z w G df xs):zm B aK w' au df xs:=by
 obtain⟨h0,ids,h1,h2,h3⟩:=h;exact⟨awy h0 hl.size,ids,h1.mono hl.ext,λid hid=>(h2 id hid).step hi hl,h3⟩
def zm.start:zm w.heap.size Z w G [] []:=⟨awe _,[],trivial,λ_ h=>(by cases h),List.nodup_nil⟩
def xD(B N ro:Nat)(Z:Io)(w:World)(G:St)(cr:CR)(Q:Exit->Act->World->Prop):Prop:=
 ∀a' w' aK ch,Inv N aK cr.G w'->Le ro Z w G aK w' cr.G->cY aK cr.e a'.tmps->zm B aK w' cr.G cr.df a'.defers->SA aK ch cr.ex->Q (G3 ch cr.ex) a' w'
def xD.from{B ro:Nat}{cr:CR}{Q:Exit->Act->World->Prop}{bO:Io}{w1:World}{av:St}(h:xD B N ro Z w G cr Q)(hi:Inv N Z G w)(hl:Le ro Z w G bO w1 av)(hn:av.n<=N):xD B N ro bO w1 av cr Q:=
 λa' w' aK ch h1 h2 h3 h4 h5=>h a' w' aK ch h1 (Le.trans (λid h1 h2=>hi.fresh id h1 aj) hl h2) h3 h4 h5
theorem Hd{B:Nat}{fn:Func}{ts:Array Value}{R:Ending->World->Prop}{m:Option IV}{u:FrameMode}(hu:o8 Z m u):∀{ids:List Nat} {ds:List Deferred} {w:World},kY Z (ids.map .wT++df) ds->(∀id∈ids,EW B Z w G id)->ids.Nodup->Inv N Z G w->
 (∀w' pN,kY Z df pN->Inv N Z G w'->(∀ro gq w0 d_,w0.heap.size<=B->Le ro gq w0 d_ Z w G->Le ro gq w0 d_ Z w' G)->LeavesInM awP 0 P fn ts R pN u w')->LeavesInM awP 0 P fn ts R ds u w
 |[],ds,w,hd,_,_,hi,hQ=>hQ w ds hd hi λ_ _ _ _ _ h=>h
 |id::ids,d::ds,w,hd,Ru,ku,hi,hQ=>by
  obtain⟨⟨l,hl,rfl⟩,wF⟩:=hd;obtain⟨l',cz,aM,ak,hB,hh⟩:=Ru id ay;rw[hl]at cz;cases cz;have bf:=(aw4.1 hh).1
  have bg:∀b,b≠l.b->(w.heap.setIfInBounds l.b (.deferred ah))[b]?=w.heap[b]? :=λb hb=>by
   rw[Array.getElem?_setIfInBounds,if_neg (λh=>hb h.symm)]
  have o6:∀bt b,Own Z bt b->bt≠id->b≠l.b:=λbt b ho bg hb=>bg (hi.inj bt id l.b (hb▸ho) ⟨0,l,hl,rfl⟩)
  have i1:Inv N Z G {w with heap:=w.heap.setIfInBounds l.b (.deferred ah)}:=by
   refine⟨λb c hb=>?_,hi.sep,λbt b ho=>by simpa using hi.gE bt b ho,hi.fresh,hi.inj,λbt o ho=>?_,hi.wf⟩
   .obtain⟨e,f,h⟩:=hi.mem b c hb;exact⟨e,f,by rw[bg b (λhc=>hi.sep b c id hb ⟨0,l,hl,hc.symm⟩)];exact h⟩
   .have hid:bt≠id:=λhc=>by rw[hc,aM]at ho;cases ho
    exact(hi.obj bt o ho).vj (Ext.refl _) (λ_=>rfl) λb hb=>bg b (o6 bt b hb hid)
  have akb:∀bt∈ids,EW B Z {w with heap:=w.heap.setIfInBounds l.b (.deferred ah)} G bt:=λbt h_=>by
   obtain⟨l',a1,a2,a3,a4,a5⟩:=Ru bt (by simp[h_]);have:bt≠id:=λhc=>by subst hc;exact(axi.1 ku).1 h_
   exact⟨l',a1,a2,a3,a4,by rw[bg _ (o6 bt l'.b ⟨0,l',a1,rfl⟩ this)];exact a5⟩
  refine⟨Ny hu,.inl ⟨l.b,_,rfl,?_,Hd hu wF akb (axi.1 ku).2 i1 λw' pN zn iw hw=>hQ w' pN zn iw λro gq w0 d_ h0 hle=>hw ro gq w0 d_ h0 ?_⟩⟩
  .simp only[Instr.takeDeferred,awn,cX (P:=P) hh ay,awg,gw (P:=P) hh ay,awz]
  .exact{hle with os:=hle.os,tape:=hle.tape,output:=hle.output,size:=by simpa using hle.size,frame:=λb hb hc=>by rw[bg b aj];exact hle.frame b hb hc}
 |_::_,[],_,h,_,_,_,_=>h.elim
abbrev kT:=Ex->Env->St->Prop
def cT(P:Program)(N:Nat)(rd:Option Nat)(c:Code)(e:Env)(df:List Df)(G:St)(CW:kT):Prop:=
 ∀B F Z a w Q,kf F rd Z->Inv N Z G w->cY Z e a.tmps->zm B Z w G df a.defers->(∀ex e' au,CW ex e' au->xD B N 0 Z w G ⟨ex,e',df,au⟩ Q)->c.wpIn F 0 P Q a w
def qa(P:Program)(N:Nat)(rd:Option Nat)(j:Nat)(c:Code)(e:Env)(df:List Df)(G:St)(CW:kT):Prop:=
 ∀B F Z a w Q,kf F rd Z->Inv N Z G w->cY Z e a.tmps->zm B Z w G df a.defers->(∀ex e' au,CW ex e' au->xD B N 0 Z w G ⟨ex,e',df,au⟩ Q)->Code.roundsIn F 0 P c Q j a w
def dC(P:Program)(N:Nat)(rd:Option Nat)(ops:Array Oper)(l:List Oper)(e:Env)(df:List Df)(G:St)(CW:kT):Prop:=
 ∀B F Z a w Q k,ops.toList.drop k=l->kf F rd Z->Inv N Z G w->cY Z e a.tmps->zm B Z w G df a.defers->(∀ex e' au,CW ex e' au->xD B N 0 Z w G ⟨ex,e',df,au⟩ Q)->
  wpOpsIn F 0 P ops Q (axN k l.length) a w
def eY(P:Program)(N:Nat)(f:FuncId)(args:List IV)(G:St)(RW:IV->St->Prop):Prop:=
 ∀Z us w,Inv N Z G w->aL Z args us->CallsIn awP 0 P f us.toArray w (λed w'=>∃v au,RW v au/\zA N 0 Z w G v au ed w')
variable{CW CW':kT}
def AM{ex:Ex}{a:Act}{Q:Exit->Act->World->Prop}(hi:Inv N Z G w)(he:cY Z e a.tmps){B:Nat}(hd:zm B Z w G df a.defers)(hQ:xD B N 0 Z w G ⟨ex,e,df,G⟩ Q)(hp:SA Z [] ex):Q (G3 [] ex) a w:=
 hQ a w Z [] hi (Le.refl _ _ _ _) he hd hp
theorem cT.skip(h:CW .normal e G):cT P N rd .skip e df G CW:=
 λ_ _ Z a w _ _ hi he hd hQ=>wpIn_skip (AM hi he hd (hQ _ _ _ h) trivial)
theorem cT.label{l:Nat}(h:CW .normal e G):cT P N rd (.label l) e df G CW:=
 λ_ _ Z a w _ _ hi he hd hQ=>wpIn_label (AM hi he hd (hQ _ _ _ h) trivial)
theorem cT.exit{id:Nat}(h:CW (.exit id) e G):cT P N rd (.exit id) e df G CW:=
 λ_ _ Z a w _ _ hi he hd hQ=>wpIn_exit (AM hi he hd (hQ _ _ _ h) trivial)
theorem cT.ret(h:CW .ret e G):cT P N rd .ret e df G CW:=
 λ_ _ Z a w _ _ hi he hd hQ=>wpIn_ret (AM hi he hd (hQ _ _ _ h) trivial)
def yq(N:Nat)(next:Env->St->Prop)(CW:kT):kT:=λex e1 av=>av.n<=N/\(ex=.normal->next e1 av)/\(ex≠.normal->CW ex e1 av)
theorem cT.seq{x y:Code}(h:cT P N rd x e df G (yq N (λe1 av=>cT P N rd y e1 df av CW) CW)):cT P N rd (.seq x y) e df G CW:=by
 intro B F Z a w Q hF hi he hd hQ;refine wpIn_seq (h B F Z a w _ hF hi he hd λex e1 av hc=>?_);obtain⟨hn,h1,h2⟩:=hc;intro a1 w1 bO ft i1 l1 cM d1 p1;cases ex with
 |normal=>
  refine h1 rfl B F bO a1 w1 Q (hF.mono l1.ext) i1 cM d1 λex e' au hc=>(hQ ex e' au hc).from hi l1 hn
 |exit id=>exact hQ _ _ _ (h2 ay) a1 w1 bO ft i1 l1 cM d1 p1
 |goto l=>exact hQ _ _ _ (h2 ay) a1 w1 bO ft i1 l1 cM d1 p1
 |ret=>exact hQ _ _ _ (h2 ay) a1 w1 bO ft i1 l1 cM d1 p1
 |cd v=>exact hQ _ _ _ (h2 ay) a1 w1 bO ft i1 l1 cM d1 p1
theorem cT.cond{c:Operand}{x y:Code}{t:Bool}(hc:aB e c=.raw (.bool t))(h:cT P N rd (if t then x else y) e df G CW):cT P N rd (.cond c x y) e df G CW:=
 λB F Z a w Q hF hi he hd hQ=>wpIn_cond (J8 hc (he.eval c)) (h B F Z a w Q hF hi he hd hQ)
theorem cT.block{id:Nat}{x:Code}(h:cT P N rd x e df G (λex e1 av=>CW (match ex with|.exit i=>if i=id then .normal else .exit i|ex=>ex) e1 av)):cT P N rd (.block id x) e df G CW:=by
 intro B F Z a w Q hF hi he hd hQ;refine wpIn_block (h B F Z a w _ hF hi he hd λex e1 av hc=>?_);intro a1 w1 bO ft i1 l1 cM d1 p1;cases ex with
 |exit i=>
  simp only[G3,Exit.inBlock];simp only at hc;split
  .rename_i hh;rw[if_pos hh]at hc;exact hQ _ _ _ hc a1 w1 bO ft i1 l1 cM d1 trivial
  .rename_i hh;rw[if_neg hh]at hc;exact hQ _ _ _ hc a1 w1 bO ft i1 l1 cM d1 trivial
 |normal=>exact hQ _ _ _ hc a1 w1 bO ft i1 l1 cM d1 p1
 |goto l=>exact hQ _ _ _ hc a1 w1 bO ft i1 l1 cM d1 p1
 |ret=>exact hQ _ _ _ hc a1 w1 bO ft i1 l1 cM d1 p1
 |cd v=>exact hQ _ _ _ hc a1 w1 bO ft i1 l1 cM d1 p1
theorem cT.scope{x:Code}(h:cT P N rd x e df G (λex e1 av=>(∀l,ex≠.goto l)/\CW ex e1 av)):cT P N rd (.scope x) e df G CW:=by
 intro B F Z a w Q hF hi he hd hQ;refine LH (h B F Z a w _ hF hi he hd λex e1 av hc=>?_);obtain⟨hx,hc⟩:=hc;intro a1 w1 bO ft i1 l1 cM d1 p1;have:=hQ _ _ _ hc a1 w1 bO ft i1 l1 cM d1 p1;cases hh:ex<;>rw[hh]at this<;>first|exact absurd hh (hx _)|exact this
def qa.succ{x:Code}{j:Nat}(h:cT P N rd x e df G (yq N (λe1 av=>qa P N rd j x e1 df av CW) CW)):qa P N rd (j+1) x e df G CW:=by
 intro B F Z a w Q hF hi he hd hQ;rw[roundsIn_succ];refine h B F Z a w _ hF hi he hd λex e1 av hc=>?_;obtain⟨hn,h1,h2⟩:=hc;intro a1 w1 bO ft i1 l1 cM d1 p1;cases ex with
 |normal=>
  refine h1 rfl B F bO a1 w1 Q (hF.mono l1.ext) i1 cM d1 λex e' au hc=>(hQ ex e' au hc).from hi l1 hn
 |exit id=>exact hQ _ _ _ (h2 ay) a1 w1 bO ft i1 l1 cM d1 p1
 |goto l=>exact hQ _ _ _ (h2 ay) a1 w1 bO ft i1 l1 cM d1 p1
 |ret=>exact hQ _ _ _ (h2 ay) a1 w1 bO ft i1 l1 cM d1 p1
 |cd v=>exact hQ _ _ _ (h2 ay) a1 w1 bO ft i1 l1 cM d1 p1
theorem cT.loop{x:Code}{j:Nat}(h:qa P N rd j x e df G CW):cT P N rd (.loop x) e df G CW:=
 λB F Z a w Q hF hi he hd hQ=>wpIn_loop_rounds j (h B F Z a w Q hF hi he hd hQ)
theorem cT.region{id:Nat}{ops:Array Oper}(h:dC P N rd ops ops.toList e df G CW):cT P N rd (.region id ops af) e df G CW:=by
 intro B F Z a w Q hF hi he hd hQ;refine wpIn_region ?_;have:=h B F Z a w Q 0 ay hF hi he hd hQ;rw[List.range_eq_range'];simpa using this
def cT.ofS{c:Code}{x:Ex}{e':Env}(h:∀df,gx P 0 rd fn c e df G ⟨x,e',df,au⟩)(hn:au.n<=N)(hc:CW x e' au):cT P N rd c e df G CW:=by
 intro B F Z a w Q hF hi he hd hQ;obtain⟨hB,ids,h1,h2,ku⟩:=hd;refine(h (ids.map .wT++df)).wp hn hF hi he h1 ?_;intro a' w' aK ch i1 l1 e1 d1 p1;exact hQ _ _ _ hc a' w' aK ch i1 l1 e1 ⟨awy hB l1.size,ids,d1,λid hid=>(h2 id hid).step hi l1,ku⟩ p1
variable{ops:Array Oper}{o:Oper}{l:List Oper}
def dC.nil(h:CW .normal e G):dC P N rd ops [] e df G CW:=
 λ_ _ Z a w _ _ _ _ hi he hd hQ=>AM hi he hd (hQ _ _ _ h) trivial
def dC.cons(hw:aX o ops e=ab)
 (h:∀B F Z a w Q k,ops.toList.drop (k+1)=l->kf F rd Z->Inv N Z G w->cY Z e a.tmps->zm B Z w G df a.defers->(∀ex e' au,CW ex e' au->xD B N 0 Z w G ⟨ex,e',df,au⟩ Q)->
  o.wpIn F 0 P a w (wpOpsIn F 0 P ops Q (axN (k+1) l.length)) Q):dC P N rd ops (o::l) e df G CW:=by
 intro B F Z a w Q k hl hF hi he hd hQ
 have iW:ops.toList.drop (k+1)=l:=by
  rw[<-ayj (i:=1) (j:=k),hl];rfl
 have a_:ops[k]?=aa o:=by
  have:(ops.toList.drop k)[0]?=aa o:=by rw[hl];rfl
  simpa using this
 simp only[awJ,ayI];rw[wpOpsIn_cons];unfold wpOpIn;rw[a_];simp only;rw[uW he,if_pos hw];exact h B F Z a w Q k iW hF hi he hd hQ
def dC.skip(hw:aX o ops e=af)(h:dC P N rd ops l (e.put o.dst .undef) df G CW):dC P N rd ops (o::l) e df G CW:=by
 intro B F Z a w Q k hl hF hi he hd hQ
 have iW:ops.toList.drop (k+1)=l:=by
  rw[<-ayj (i:=1) (j:=k),hl];rfl
 have a_:ops[k]?=aa o:=by
  have:(ops.toList.drop k)[0]?=aa o:=by rw[hl];rfl
  simpa using this
 simp only[awJ,ayI];rw[wpOpsIn_cons];unfold wpOpIn;rw[a_];simp only;rw[uW he,hw,if_neg ay];exact⟨λf _=>hF.fn f,h B F Z _ w Q (k+1) iW hF hi (he.put uo _) (by cases o.dst<;>exact hd) hQ⟩
theorem dC.val{v:IV}{av:St}(hw:aX o ops e=ab)(hv:aA P 0 (aB e) o G=aa (.val v av))(hn:av.n<=N)(h:dC P N rd ops l (e.put o.dst v) df av CW):dC P N rd ops (o::l) e df G CW:=by
 refine .cons hw λB F Z a w Q k hl hF hi he hd hQ=>?_;refine⟨λf _=>hF.fn f,?_⟩;rw[axW _ _ _ (iX hv ay)];obtain⟨u,w',aK,hr,h2,h3,h4⟩:=qv hi he.eval hv hn
 have key:wpOpsIn F 0 P ops Q (axN (k+1) l.length) (a.put o.dst u) w':=
  h B F aK _ w' Q (k+1) hl (hF.mono h4.ext) h3 ((he.mono h4.ext).put h2 _) (by have:=hd.step hi h4;cases o.dst<;>exact this) (λex e' au hc=>(hQ ex e' au hc).from hi h4 hn)
 rcases hr with hr|⟨hr,rfl⟩
 .rw[hr,ayZ];exact key
 .rw[hr,Oper.uponIn_skip];exact key
def dC.call{f:FuncId}{args:List IV}{RW:IV->St->Prop}(hw:aX o ops e=ab)(hv:aA P 0 (aB e) o G=aa (.enter f args))(hc:eY P N f args G RW)
 (h:∀v av,RW v av->av.n<=N/\dC P N rd ops l (e.put o.dst v) df av CW):dC P N rd ops (o::l) e df G CW:=by
 refine .cons hw λB F Z a w Q k hl hF hi he hd hQ=>?_;refine⟨λf _=>hF.fn f,?_⟩;rw[axW _ _ _ (iX hv ay)];obtain⟨us,hr,h3⟩:=qv hi he.eval hv;rw[hr,azK];refine⟨hF.depth,(hF.calls (hc Z us w hi h3)).mono λed w' hR=>?_⟩;obtain⟨v,av,vC,hR⟩:=hR;obtain⟨hn,h⟩:=h v av vC;cases ed with
 |returned u=>
  obtain⟨aK,h2,h3,h4⟩:=hR;exact h B F aK _ w' Q (k+1) hl (hF.mono h4.ext) h3 ((he.mono h4.ext).put h2 _) (by have:=hd.step hi h4;cases o.dst<;>exact this) (λex e' au hc=>(hQ ex e' au hc).from hi h4 hn)
 |outgrown=>exact hR.elim
 |panicked chain=>exact hR.elim
def eY.ofS{f:FuncId}{args:List IV}{v:IV}(h:ly P 0 f args G v au)(hn:au.n<=N):eY P N f args G (λv1 av=>v1=v/\av=au):=
 λZ us w hi hr=>(h.2 N hn Z us w hi hr).mono λed w' hR=>⟨v,au,⟨rfl,rfl⟩,hR⟩
theorem eY.body{f:FuncId}{fn:Func}{c:Code}{args:List IV}{RW:IV->St->Prop}(cL:P.funcs[f]?=aa fn)(hb:fn.body=aa c)(hlen:args.length<=fn.ntmps)
 (h:cT P N ah c (dX args fn.ntmps) [] G (λex e1 av=>(ex=.normal\/ex=.ret)/\av.n<=N/\∃v,cV P fn e1 av=aa v/\RW v av)):eY P N f args G RW:=by
 intro Z us w hi hr;refine callsIn_of_wp_marks cL hb trivial ?_;refine h w.heap.size awP Z {tmps:=us.toArray++axc (fn.ntmps- us.toArray.size) Go.undef,defers:=[]} w _ (.inl ⟨rfl,rfl⟩) hi (AH hr hlen) zm.start λex e1 av hc=>?_;obtain⟨hex,hn,v,hv,vC⟩:=hc;intro a1 w1 bO ft i1 l1 cM d1 p1;obtain⟨_,ids,W9,W_,Xa⟩:=d1
 have:∀u,o8 bO ah u->LeavesInM awP 0 P fn a1.tmps (λed w'=>∃v au,RW v au/\zA N 0 Z w G v au ed w') a1.defers u w1:=λu hu=>
  Hd hu W9 W_ Xa i1 λw2 LS Jv i2 l2=>by
   obtain rfl:=Jv.nil;rw[show u=_ from hu];obtain⟨u,k1,k2⟩:=vq hv i2 cM;exact⟨u,k1,v,av,vC,bO,k2,i2,l2 _ _ _ _ (awe _) l1⟩
 rcases hex with rfl|rfl
 .exact this _ rfl
 .exact this _ rfl
def vD(P:Program)(N:Nat)(f:FuncId)(args:List IV)(G:St)(RW PW:IV->St->Prop):Prop:=
 ∀Z us w,Inv N Z G w->aL Z args us->CallsIn awP 0 P f us.toArray w (λed w'=>(∃v au,RW v au/\zA N 0 Z w G v au ed w')\/(∃v au,PW v au/\Rm N 0 Z w G v au ed w'))
def eY.toX{f:FuncId}{args:List IV}{RW PW:IV->St->Prop}(h:eY P N f args G RW):vD P N f args G RW PW:=
 λZ us w hi hr=>(h Z us w hi hr).mono λ_ _ hR=>.inl hR
def vD.toW{f:FuncId}{args:List IV}{RW PW:IV->St->Prop}(h:vD P N f args G RW PW)(hp:∀v au,¬PW v au):eY P N f args G RW:=
 λZ us w hi hr=>(h Z us w hi hr).mono λ_ _ hR=>hR.elim id λ⟨v,au,h,_⟩=>absurd h (hp v au)
def dC.panic{v:IV}(hw:aX o ops e=ab)(hv:aA P 0 (aB e) o G=aa (.cd v))(h:CW (.cd v) e G):dC P N rd ops (o::l) e df G CW:=by
 refine .cons hw λB F Z a w Q k hl hF hi he hd hQ=>?_;refine⟨λf _=>hF.fn f,?_⟩;rw[axW _ _ _ (iX hv ay)];obtain⟨u,hr,h3⟩:=qv hi he.eval hv;rw[hr,Oper.uponIn_panic];exact hQ _ _ _ h a w Z [{v:=u,recovered:=af}] hi (Le.refl _ _ _ _) he hd ⟨u,rfl,h3⟩
def dC.Y9{f:FuncId}{args:List IV}{RW PW:IV->St->Prop}(hw:aX o ops e=ab)(hv:aA P 0 (aB e) o G=aa (.enter f args))(hc:vD P N f args G RW PW)
 (h:∀v av,RW v av->av.n<=N/\dC P N rd ops l (e.put o.dst v) df av CW)(hp:∀v av,PW v av->CW (.cd v) e av):dC P N rd ops (o::l) e df G CW:=by
 refine .cons hw λB F Z a w Q k hl hF hi he hd hQ=>?_;refine⟨λf _=>hF.fn f,?_⟩;rw[axW _ _ _ (iX hv ay)];obtain⟨us,hr,h3⟩:=qv hi he.eval hv;rw[hr,azK];refine⟨hF.depth,(hF.calls (hc Z us w hi h3)).mono λed w' hR=>?_⟩;rcases hR with⟨v,av,vC,hR⟩|⟨v,av,S2,hR⟩
 .obtain⟨hn,h⟩:=h v av vC;cases ed with
  |returned u=>
   obtain⟨aK,h2,h3,h4⟩:=hR;exact h B F aK _ w' Q (k+1) hl (hF.mono h4.ext) h3 ((he.mono h4.ext).put h2 _) (by have:=hd.step hi h4;cases o.dst<;>exact this) (λex e' au hc=>(hQ ex e' au hc).from hi h4 hn)
  |outgrown=>exact hR.elim
  |panicked chain=>exact hR.elim
 .cases ed with
  |returned u=>exact hR.elim
  |outgrown=>exact hR.elim
  |panicked chain=>
   obtain⟨aK,h4,h5,h6⟩:=hR;exact hQ _ _ _ (hp v av S2) a w' aK chain h5 h6 (he.mono h6.ext) (hd.step hi h6) h4
def Al(G:St)(id:Nat)(x:IV):St:=((G.add (.cells [.int 0] 0 0)).put G.n (.cells [x] 0 0)).put id (.cells [x] 0 0)
def He(P:Program)(g:FuncId)(t:TypeId):Prop:=
 ∀(N:Nat) (cl:IV) (f:FuncId) (as:List IV) (G:St) (RW PW Xb:IV->St->Prop),gV P cl []=aa (.enter f as)->G.n+1<=N->vD P N f as (G.add (.cells [.int 0] 0 0)) RW PW->
  (∀v cK,RW v cK->cK.at G.n=aa (.cells [.int 0] 0 0)/\cK.n<=N/\Xb (.int 0) (cK.put G.n (.cells [.int 0] 0 0)))->
  (∀v cK,PW v cK->∃u,v=.dK t (.agg [.raw u])/\ao (.raw u)=ab/\cK.at G.n=aa (.cells [.int 0] 0 0)/\cK.n+1<=N/\G.n<cK.n/\Xb (.raw u) (Al cK G.n (.raw u)))->eY P N g [cl] G Xb
theorem vD.body{f:FuncId}{fn:Func}{c:Code}{args:List IV}{RW PW:IV->St->Prop}(cL:P.funcs[f]?=aa fn)(hb:fn.body=aa c)(hlen:args.length<=fn.ntmps)
 (h:cT P N ah c (dX args fn.ntmps) [] G (λex e1 av=>av.n<=N/\(((ex=.normal\/ex=.ret)/\∃v,cV P fn e1 av=aa v/\RW v av)\/∃v,ex=.cd v/\PW v av))):vD P N f args G RW PW:=by
 intro Z us w hi hr;refine callsIn_of_wp_marks cL hb trivial ?_;refine h w.heap.size awP Z {tmps:=us.toArray++axc (fn.ntmps- us.toArray.size) Go.undef,defers:=[]} w _ (.inl ⟨rfl,rfl⟩) hi (AH hr hlen) zm.start λex e1 av hc=>?_;obtain⟨hn,hc⟩:=hc;intro a1 w1 bO ft i1 l1 cM d1 p1;obtain⟨_,ids,W9,W_,Xa⟩:=d1;rcases hc with⟨hex,v,hv,vC⟩|⟨v,rfl,S2⟩
 .have:∀u,o8 bO ah u->LeavesInM awP 0 P fn a1.tmps (λed w'=>(∃v au,RW v au/\zA N 0 Z w G v au ed w')\/(∃v au,PW v au/\Rm N 0 Z w G v au ed w')) a1.defers u w1:=λu hu=>
   Hd hu W9 W_ Xa i1 λw2 LS Jv i2 l2=>by
    obtain rfl:=Jv.nil;rw[show u=_ from hu];obtain⟨u,k1,k2⟩:=vq hv i2 cM;exact⟨u,k1,.inl ⟨v,av,vC,bO,k2,i2,l2 _ _ _ _ (awe _) l1⟩⟩
  rcases hex with rfl|rfl
  .exact this _ rfl
  .exact this _ rfl
 .have:∀u,o8 bO (aa v) u->LeavesInM awP 0 P fn a1.tmps (λed w'=>(∃v au,RW v au/\zA N 0 Z w G v au ed w')\/(∃v au,PW v au/\Rm N 0 Z w G v au ed w')) a1.defers u w1:=λu hu=>
   Hd hu W9 W_ Xa i1 λw2 LS Jv i2 l2=>by
    obtain rfl:=Jv.nil;obtain⟨x,rfl,hx⟩:=hu;exact .inr ⟨v,av,S2,bO,⟨x,rfl,hx⟩,i2,l2 _ _ _ _ (awe _) l1⟩
  obtain⟨u,rfl,hu⟩:=p1;exact this _ ⟨u,rfl,hu⟩
def eC.S3{new:Bool}{f:FuncId}{xs:List IV}{z:IV}{RW:IV->St->Prop}{N:Nat}(h:eY P N f xs ⟨0,.lf⟩ RW)(hc:∀v au,RW v au->Can (!new) au v z):eC P af new f xs z:=by
 intro M w us hM hr;refine(h (iY M) us w (NF hM) hr).mono λe w' hR=>?_;obtain⟨v,au,vC,hR⟩:=hR;cases e with
 |returned u=>
  obtain⟨aK,h1,h2,h3⟩:=hR;exact⟨rfl,W5 hM (hc v au vC) h1 h2 h3⟩
 |panicked ch=>exact hR.elim
 |outgrown=>exact hR.elim
end
section
attribute [local instance] aj9
variable{P:Program}{ro:Nat}{G:St}{ρ:Operand->IV}{o:Oper}{out:gv}
structure fU where
 nt:Nat
 cG:List Nat
 emp:List Nat
 tg:List (Nat×Nat):=[]
 ld:List (Nat×Nat×Nat×Nat):=[]
 os:List Nat:=[]
 ox:List Nat:=[]
 fr:List Nat:=[]
 lo:List (Nat×Nat×Nat):=[]
 mg:List (Nat×Nat):=[]
def i5(l:List Nat)(t:Nat):Bool:=l.any (awl t)
def BW(l:List Nat):Operand->Bool
 |.tmp t=>i5 l t
 |_=>af
def fU.del(T:fU):Option Nat->fU
 |some d=>⟨T.nt,T.cG.filter (λt=> !awl t d),T.emp.filter (λt=> !awl t d),T.tg.filter (λp=> !awl p.1 d),T.ld.filter (λp=> !awl p.2.1 d&& !awl p.2.2.1 d),T.os.filter (λt=> !awl t d),T.ox.filter (λt=> !awl t d),T.fr.filter (λt=> !awl t d),T.lo.filter (λp=> !awl p.2.1 d&& !awl p.2.2 d),T.mg.filter (λp=> !awl p.1 d)⟩
 |none=>T
def yr(o:Oper):Option Operand:=
 match o.op with
 |.move x=>aa x
 |.nilCheck x=>aa x
 |_=>ah
def S4(T:fU)(o:Oper):fU:=
 let D:=T.del o.dst
 match o.dst with
 |some d=>if !aw6 d T.nt then D else match o.op with
  |.fieldAddr _ x _=>if BW T.cG x then{D with cG:=d::D.cG}else D
  |.buildSlice _ 0 _=>if o.guard.isNone then{D with emp:=d::D.emp}else D
  |_=>match yr o with
   |some x=>if BW T.cG x then{D with cG:=d::D.cG}else D
   |none=>D
 |_=>D
def zG(l:List (Nat×Nat))(t:Nat):Option Nat:=
 match l with
 |[]=>ah
 |(a,h)::l=>if awl a t then aa h else zG l t
def S5(T:fU)(o:Oper):List (Nat×Nat):=
 match o.guard,o.dst,o.op with
 |none,aa d,.fieldAddr _ (.tmp x) _=>(match zG T.tg x with
  |some h=>if aw6 d T.nt then(d,h)::(T.del o.dst).tg else(T.del o.dst).tg
  |none=>(T.del o.dst).tg)
 |none,aa d,_=>(match yr o with
  |some (.tmp x)=>(match zG T.tg x with
   |some h=>if aw6 d T.nt then(d,h)::(T.del o.dst).tg else(T.del o.dst).tg
   |none=>(T.del o.dst).tg)
  |_=>(T.del o.dst).tg)
 |_,_,_=>(T.del o.dst).tg
def S6(T:fU)(o:Oper)(j:Nat):List (Nat×Nat×Nat×Nat):=
 match cN o with
 |.pure=>(T.del o.dst).ld
 |.load=>(match o.guard,o.dst,o.op with
  |none,aa d,.load _ (.tmp a)=>(match zG T.tg a with
   |some h=>if aw6 d T.nt&& !awl a d then(j,a,d,h)::(T.del o.dst).ld else(T.del o.dst).ld
   |none=>(T.del o.dst).ld)
  |_,_,_=>(T.del o.dst).ld)
 |_=>[]
def S7(T:fU)(o:Oper):List Nat:=
 match o.dst,yr o with
 |some d,aa x=>if BW T.os x&&aw6 d T.nt then d::(T.del o.dst).os else(T.del o.dst).os
 |_,_=>(T.del o.dst).os
def S8(T:fU)(o:Oper):List Nat:=
 match o.dst,o.op with
 |some d,.indexAddr _ x _=>if BW T.os x&&aw6 d T.nt then d::(T.del o.dst).ox else(T.del o.dst).ox
 |_,_=>(T.del o.dst).ox
def S9(T:fU)(o:Oper):List Nat:=
 match o.guard,o.dst,o.op with
 |none,aa d,.alloc _=>if aw6 d T.nt then d::(T.del o.dst).fr else(T.del o.dst).fr
 |_,_,_=>(T.del o.dst).fr
def S_(T:fU)(o:Oper)(j:Nat):List (Nat×Nat×Nat):=
 match cN o with
 |.pure=>(T.del o.dst).lo
 |.load=>(match o.guard,o.dst,o.op with
  |none,aa d,.load _ (.tmp a)=>if i5 T.ox a&&aw6 d T.nt&& !awl a d then(j,a,d)::(T.del o.dst).lo else(T.del o.dst).lo
  |_,_,_=>(T.del o.dst).lo)
 |.alloc=>(match o.op with
  |.alloc _=>(T.del o.dst).lo
  |_=>[])
 |_=>[]
def Ta(T:fU)(o:Oper):List (Nat×Nat):=
 match o.guard,o.dst,yr o with
 |none,aa d,aa (.tmp x)=>(match zG T.mg x with
  |some h=>if aw6 d T.nt then(d,h)::(T.del o.dst).mg else(T.del o.dst).mg
  |none=>(T.del o.dst).mg)
 |_,_,_=>(T.del o.dst).mg
def Gz(T:fU)(o:Oper)(j:Nat):fU:={S4 T o with tg:=S5 T o,ld:=S6 T o j,os:=S7 T o,ox:=S8 T o,fr:=S9 T o,lo:=S_ T o j,mg:=Ta T o}
def EX(pl:eh)(j:Nat):Bool:=
 (axt j).all λi=>awC (pl.cg.getD j 0) i||(match pl.kinds.getD i .effect with|.alloc|.effect|.call=>af|_=>ab)
def akc(pl:eh)(j:Nat):Bool:=
 (axt j).all λi=>awC (pl.cg.getD j 0) i||(match pl.kinds.getD i .effect with|.effect=>af|_=>ab)
def EY(pl:eh)(j:Nat):Bool:=
 (axt j).all λi=>awC (pl.cg.getD j 0) i||(match pl.kinds.getD i .effect with|.pure=>ab|_=>af)
def NN(o:Oper):Option Operand:=
 match o.op with
 |.call {callee:=.builtin .append,args,.. }=>args.toList.head?
 |_=>ah
def NO(P:Program)(o:Oper):Bool:=
 match o.op with
 |.call {callee:=.builtin .len,argTypes,.. }=>match(argTypes[0]?).bind P.underlying with
  |some (.slice _)|some .string=>ab
  |_=>af
 |_=>af
def Hf(pl:eh)(T:fU)(o:Oper)(j:Nat):Bool:=
 match o.guard,o.op with
 |none,.store _ (.tmp a) _=>(match zG T.tg a with
  |some g=>EX pl j&&(axt j).all λi=>awC (pl.cg.getD j 0) i||(match pl.kinds.getD i .effect with
   |.load=>T.ld.any λp=>awl p.1 i&& !awl p.2.2.2 g
   |.effect=>af
   |_=>ab)
  |none=>i5 T.fr a&&(EX pl j&&(axt j).all λi=>awC (pl.cg.getD j 0) i||(match pl.kinds.getD i .effect with
   |.load=>T.lo.any λp=>awl p.1 i
   |.effect=>af
   |_=>ab)))
 |none,.mapUpdate _ (.tmp a) _ _=>(match zG T.mg a with
  |some g=>EX pl j&&(axt j).all λi=>awC (pl.cg.getD j 0) i||(match pl.kinds.getD i .effect with
   |.load=>T.ld.any λp=>awl p.1 i&& !awl p.2.2.2 g
   |.effect=>af
   |_=>ab)
  |none=>af)
 |_,_=>af
def mE(P:Program)(pl:eh)(T:fU)(o:Oper)(j:Nat):Bool:=
 match pl.kinds.getD j .effect with
 |.pure=>cN o==.pure
 |.alloc=>cN o==.alloc&&ab
 |.load=>cN o==.load&&(EX pl j||(akc pl j&&(NO P o||match o.op with|.load _ a=>BW T.cG a|_=>af)))
 |.call=>cN o==.call&&EX pl j&&(DW o||(match NN o with|some a=>BW T.emp a|none=>af))
 |.effect=>EY pl j||Hf pl T o j
def i6(P:Program)(pl:eh):List (Oper×Nat)->fU->Bool
 |[],_=>ab
 |(o,j)::l,T=>mE P pl T o j&&i6 P pl l (Gz T o j)
def EZ(n0:Nat)(x:IV):Prop:=(∃id off ep ext,x=.ptr id off ep ext/\id<n0)\/(∃cs,x=.mS cs)\/x=.undef
structure lB(n0:Nat)(e:Env)(T:fU):Prop where
 n:e.n=T.nt
 cG:∀t,i5 T.cG t=ab->EZ n0 (e.at t)
 emp:∀t,i5 T.emp t=ab->e.at t=.emp
def xE{l:List Nat}{d t:Nat}(h:i5 (l.filter λt=> !awl t d) t=ab):i5 l t=ab/\t≠d:=by
 unfold i5 at h⊢;rw[ayp]at h⊢;obtain⟨x,hx,hxt⟩:=h;obtain⟨h1,h2⟩:=aw7.1 hx;have:=awk hxt;subst this;exact⟨⟨t,h1,by simp⟩,λh=>by subst h;simp at h2⟩
def kz{l:List Nat}{d t:Nat}(h:i5 (d::l) t=ab):t=d\/i5 l t=ab:=by
 unfold i5 at h⊢;simp only[List.any_cons,awO]at h;exact h.imp (λh=>awk h) id
def fN{e:Env}{d t:Nat}{v:IV}(h:t≠d):(e.put (aa d) v).at t=e.at t:=by
 unfold Env.put Env.at;simp only;split
 .rw[T.gX,if_neg (Ne.symm h)]
 .rfl
def cC{e:Env}{d:Nat}{v:IV}(h:d<e.n):(e.put (aa d) v).at d=v:=by
 unfold Env.put Env.at;simp only;rw[if_pos (by simpa using h),T.gX,if_pos rfl];rfl
def akd(e:Env)(d:Option Nat)(v:IV):(e.put d v).n=e.n:=by
 unfold Env.put;split
 .rfl
 .split<;>rfl
theorem lB.del{n0:Nat}{e:Env}{T:fU}(h:lB n0 e T)(d:Option Nat)(v:IV):lB n0 (e.put d v) (T.del d):=by
 cases d with
 |none=>exact h
 |some d=>
  refine⟨by rw[akd];exact h.n,λt ht=>?_,λt ht=>?_⟩
  .obtain⟨h1,h2⟩:=xE ht;rw[fN h2];exact h.cG t h1
  .obtain⟨h1,h2⟩:=xE ht;rw[fN h2];exact h.emp t h1
def Hg{n0:Nat}{e:Env}{T:fU}(h:lB n0 e T){x:Operand}(hx:BW T.cG x=ab):EZ n0 (aB e x):=by
 cases x with
 |tmp t=>exact h.cG t hx
 |_=>cases hx
def abt{n0:Nat}{e:Env}{T:fU}(h:lB n0 e T){x:Operand}(hx:BW T.emp x=ab):aB e x=.emp:=by
 cases x with
 |tmp t=>exact h.emp t hx
 |_=>cases hx
def xF{x:Operand}(h:yr o=aa x):cN o=.pure:=by
 unfold yr at h;unfold cN;split at h<;>first|(cases h;done)|(rename_i ho;rw[ho])
def ID{x:Operand}(h:yr o=aa x){ρ:Operand->IV}{v:IV}{av:St}(hv:aA P ro ρ o G=aa (.val v av)):v=ρ x:=by
 unfold yr at h;unfold aA at hv;split at h<;>try (cases h;done)
 .rename_i ho;cases h;rw[ho]at hv;dsimp only at hv;have:=aY hv;cases this;rfl
 .rename_i ho;cases h;rw[ho]at hv;dsimp only at hv
  repeat' split at hv
  all_goals try (cases hv;done)
  all_goals (rename_i he;have:=aY hv;cases this;exact he.symm)
def lB.aoi{n0:Nat}{e:Env}{T:fU}{v:IV}{av:St}(h:lB n0 e T)(hv:aA P ro (aB e) o G=aa (.val v av)):lB n0 (e.put o.dst v) (S4 T o):=by
 have hd:=h.del o.dst v;unfold S4;simp only;split
 .rename_i d ek;split
  .exact hd
  .rename_i ak;have gj:d<e.n:=by rw[h.n];simpa using ak
   split
   .rename_i s x f ho;split
    .rename_i hx;refine⟨hd.n,λt ht=>?_,hd.emp⟩;rcases kz ht with rfl|ht
     .rw[ek,cC gj];have ho:=Hg h hx;unfold aA at hv;rw[‹o.op=_›]at hv;dsimp only at hv
      repeat' split at hv
      all_goals try (cases hv;done)
      .rename_i he _;rcases ho with⟨bt,Nr,ep',ext',h1,h2⟩|⟨cs,h1⟩|h1
       .rw[he]at h1;cases h1;have:=aY hv;cases this;exact .inl ⟨_,_,_,_,rfl,h2⟩
       .rw[he]at h1;cases h1
       .rw[he]at h1;cases h1
      .have:=aY hv;cases this;exact .inr (.inl ⟨_,rfl⟩)
     .exact hd.cG t ht
    .exact hd
   .rename_i t0 parts ho;split
    .refine⟨hd.n,hd.cG,λt ht=>?_⟩;rcases kz ht with rfl|ht
     .rw[ek,cC gj];unfold aA at hv;rw[ho]at hv;dsimp only at hv
      repeat' split at hv
      all_goals try (cases hv;done)
      all_goals first|(have:=aY hv;cases this;rfl)|(exfalso;omega)|skip
     .exact hd.emp t ht
    .exact hd
   .split
    .rename_i x hp;split
     .rename_i hx;refine⟨hd.n,λt ht=>?_,hd.emp⟩;rcases kz ht with rfl|ht
      .rw[ek,cC gj,ID hp hv];exact Hg h hx
      .exact hd.cG t ht
     .exact hd
    .exact hd
 .exact hd
def lB.aoj{n0:Nat}{e:Env}{T:fU}{v:IV}{ops:Array Oper}(h:lB n0 e T)(hw:(aX o ops e=af/\v=.undef)\/cN o=.call\/cN o=.effect):lB n0 (e.put o.dst v) (S4 T o):=by
 have hd:=h.del o.dst v;unfold S4;simp only;split
 .rename_i d ek;split
  .exact hd
  .rename_i ak;have gj:d<e.n:=by rw[h.n];simpa using ak
   rcases hw with⟨hw,rfl⟩|hw
   .split
    .split
     .refine⟨hd.n,λt ht=>?_,hd.emp⟩;rcases kz ht with rfl|ht
      .rw[ek,cC gj];exact .inr (.inr rfl)
      .exact hd.cG t ht
     .exact hd
    .split
     .rename_i hg;unfold aX at hw;rw[Option.isNone_iff_eq_none.1 hg]at hw;cases hw
     .exact hd
    .split
     .split
      .refine⟨hd.n,λt ht=>?_,hd.emp⟩;rcases kz ht with rfl|ht
       .rw[ek,cC gj];exact .inr (.inr rfl)
       .exact hd.cG t ht
      .exact hd
     .exact hd
   .unfold cN at hw;split
    .rename_i ho;rw[ho]at hw;rcases hw with hw|hw<;>cases hw
    .rename_i ho;rw[ho]at hw;rcases hw with hw|hw<;>cases hw
    .split
     .rename_i hp;have hk:=xF hp;unfold cN at hk;rw[hk]at hw;rcases hw with hw|hw<;>cases hw
     .exact hd
 .exact hd
def Y_{n0:Nat}{e:Env}{t:TypeId}{a:Operand}{v:IV}{av:St}(ho:o.op=.load t a)(ha:EZ n0 (aB e a))(hv:aA P ro (aB e) o G=aa (.val v av)){au:St}(DR:∀id,id<n0->au.at id=G.at id)(gl:Nat):
 aA P gl (aB e) o au=aa (.val v au):=by
 unfold aA at hv⊢;rw[ho]at hv⊢;dsimp only at hv⊢;rcases ha with⟨id,off,ep,ext,h1,h2⟩|⟨cs,h1⟩|h1
 .rw[h1]at hv⊢;dsimp only at hv⊢;rw[DR id h2]
  repeat' split at hv
  all_goals try (cases hv;done)
  have:=aY hv;cases this
  simp_all[ret]
 .rw[h1]at hv⊢;dsimp only at hv⊢
  repeat' split at hv
  all_goals try (cases hv;done)
  have:=aY hv;cases this
  simp_all[ret]
 .rw[h1]at hv;simp only[IV.undef]at hv
  repeat' split at hv
  all_goals try (cases hv;done)
def aeb{e:Env}{v:IV}{av:St}(h:NO P o=ab)(hv:aA P ro (aB e) o G=aa (.val v av))(gl:Nat)(au:St):aA P gl (aB e) o au=aa (.val v au):=by
 unfold NO at h;split at h<;>try (cases h;done)
 rename_i args ats ho
 have hl:∀x τ τ' u,qj P ats x τ=aa u->qj P ats x τ'=aa u:=by
  intro x τ τ' u hu;unfold qj at hu⊢;cases hq:(ats[0]?).bind P.underlying with
  |none=>rw[hq]at h;cases h
  |some td=>
   cases td<;>rw[hq]at h hu<;>try (cases h;done)
   all_goals
    cases x<;>first|exact hu|skip
    rename_i v;cases v<;>first|exact hu|(rename_i a b c;cases a<;>exact hu)
 simp only[aA,ho,fk]at hv⊢;split at hv<;>try (cases hv;done)
 obtain⟨u,hu,hv⟩:=awj.1 hv;cases hv;rw[hl _ _ au _ hu];rfl
def ake{e:Env}{a:Operand}{v:IV}{av:St}(hb:NN o=aa a)(ha:aB e a=.emp)(hv:aA P ro (aB e) o G=aa (.val v av)):(∀gl,aA P gl (aB e) o G=aa (.val v av))/\(av=G\/∃ob,av=G.add ob):=by
 unfold NN at hb;split at hb<;>try (cases hb;done)
 rename_i args ats ew;unfold aA at hv⊢;rw[ew]at hv⊢;dsimp only at hv⊢;unfold fk at hv⊢;split at hv
 .split at hv<;>try (cases hv;done)
  rename_i s x bJ
  have hs:s=.emp:=by
   cases hl:args.toList with
   |nil=>rw[hl]at hb;cases hb
   |cons y l=>
    rw[hl]at hb bJ;simp only[List.head?_cons,awf]at hb;subst hb;simp only[List.map_cons,axC]at bJ;rw[<-bJ.1,ha]
  subst hs;unfold l6 at hv⊢
  repeat' split at hv
  all_goals try (cases hv;done)
  simp only[*];unfold fj at hv⊢;simp only at hv⊢;split at hv
  .have:=aY hv;cases this;refine⟨λ_=>?_,.inl rfl⟩
   simp_all
  .refine⟨λ_=>by simp_all,?_⟩;unfold gb at hv
   repeat' split at hv
   all_goals try (cases hv;done)
   have:=aY hv;cases this;exact .inr ⟨_,rfl⟩
 all_goals (first|(exfalso;simp_all;done)|(simp_all;done))
def lB.step{n0:Nat}{e:Env}{T:fU}{v:IV}{av:St}(j:Nat)(h:lB n0 e T)(hv:aA P ro (aB e) o G=aa (.val v av)):lB n0 (e.put o.dst v) (Gz T o j):=
 have:=h.aoi hv
 ⟨this.n,this.cG,this.emp⟩
def lB.skip{n0:Nat}{e:Env}{T:fU}{v:IV}{ops:Array Oper}(j:Nat)(h:lB n0 e T)(hw:(aX o ops e=af/\v=.undef)\/cN o=.call\/cN o=.effect):lB n0 (e.put o.dst v) (Gz T o j):=
 have:=h.aoj hw
 ⟨this.n,this.cG,this.emp⟩
structure rf(P:Program)(ops:Array Oper)(θ:Nat->Option Nat)(e:Env)(G:St)(T:fU):Prop where
 tg:∀t h,(t,h)∈T.tg->∃id off ep ext,θ h=aa id/\e.at t=.ptr id off ep ext
 ld:∀i a d h,(i,a,d,h)∈T.ld->∃p ty id off ep ext,ops[i]?=aa p/\p.op=.load ty (.tmp a)/\p.dst=aa d/\θ h=aa id/\e.at a=.ptr id off ep ext/\aA P 0 (aB e) p G=aa (.val (e.at d) G)
 mg:∀t h,(t,h)∈T.mg->∃id,θ h=aa id/\e.at t=.map id
theorem rh:∀{l:List (Nat×Nat)} {t h:Nat},zG l t=aa h->(t,h)∈l
 |[],_,_,h=>by cases h
 |(a,q)::l,t,h,hh=>by
  unfold zG at hh;split at hh
  .rename_i hb;have:=awk hb;cases hh;subst this;simp
  .exact awI _ (rh hh)
def E3{p:Oper}{ty:TypeId}{a:Operand}(hp:p.op=.load ty a){ρ BJ:Operand->IV}(h:ρ a=BJ a)(ro:Nat)(G:St):aA P ro ρ p G=aA P ro BJ p G:=by
 simp only[aA,hp,h]
def Kk{p:Oper}{ty:TypeId}{a:Operand}(hp:p.op=.load ty a){ρ:Operand->IV}{id off ep ext:Nat}{v:IV}{av:St}(ha:ρ a=.ptr id off ep ext)(hv:aA P ro ρ p G=aa (.val v av)){au:St}(DR:au.at id=G.at id)(gl:Nat):aA P gl ρ p au=aa (.val v au):=by
 unfold aA at hv⊢;rw[hp]at hv⊢;dsimp only at hv⊢;rw[ha]at hv⊢;dsimp only at hv⊢;rw[DR]
 repeat' split at hv
 all_goals try (cases hv;done)
 have:=aY hv;cases this
 simp_all[ret]
def akf{T:fU}{dst:Option Nat}{t h:Nat}(hm:(t,h)∈(T.del dst).tg):(t,h)∈T.tg/\dst≠aa t:=by
 cases dst with
 |none=>exact⟨hm,by simp⟩
 |some d=>
  obtain⟨h1,h2⟩:=aw7.1 hm;exact⟨h1,λhe=>by cases he;simp at h2⟩
def akg{T:fU}{dst:Option Nat}{i a d h:Nat}(hm:(i,a,d,h)∈(T.del dst).ld):(i,a,d,h)∈T.ld/\dst≠aa a/\dst≠aa d:=by
 cases dst with
 |none=>exact⟨hm,by simp,by simp⟩
 |some q=>
  obtain⟨h1,h2⟩:=aw7.1 hm;exact⟨h1,λhe=>by cases he;simp at h2,λhe=>by cases he;simp at h2⟩
def kA{e:Env}{dst:Option Nat}{v:IV}{t:Nat}(h:dst≠aa t):(e.put dst v).at t=e.at t:=by
 cases dst with
 |none=>rfl
 |some d=>exact fN λhe=>h (by rw[he])
def rf.Dc{ops:Array Oper}{θ:Nat->Option Nat}{e:Env}{T:fU}(h:rf P ops θ e G T)(dst:Option Nat)(v:IV):∀t q,(t,q)∈(T.del dst).tg->∃id off ep ext,θ q=aa id/\(e.put dst v).at t=.ptr id off ep ext:=by
 intro t q hm;obtain⟨h1,h2⟩:=akf hm;rw[kA h2];exact h.tg t q h1
def rf.s8{ops:Array Oper}{θ:Nat->Option Nat}{e:Env}{T:fU}(h:rf P ops θ e G T)(dst:Option Nat)(v:IV):∀i a d q,(i,a,d,q)∈(T.del dst).ld->∃p ty id off ep ext,ops[i]?=aa p/\p.op=.load ty (.tmp a)/\p.dst=aa d/\θ q=aa id/\(e.put dst v).at a=.ptr id off ep ext/\aA P 0 (aB (e.put dst v)) p G=aa (.val ((e.put dst v).at d) G):=by
 intro i a d q hm;obtain⟨h1,h2,h3⟩:=akg hm;obtain⟨p,ty,id,off,ep,ext,g1,g2,g3,g4,g5,g6⟩:=h.ld i a d q h1;refine⟨p,ty,id,off,ep,ext,g1,g2,g3,g4,by rw[kA h2];exact g5,?_⟩;rw[kA h3,<-g6];exact E3 g2 (by show(e.put dst v).at a=e.at a;exact kA h2) _ _
def rf.Tb{ops:Array Oper}{θ:Nat->Option Nat}{e:Env}{T:fU}(h:rf P ops θ e G T)(dst:Option Nat)(v:IV):∀t q,(t,q)∈(T.del dst).mg->∃id,θ q=aa id/\(e.put dst v).at t=.map id:=by
 intro t q hm
 have h12:(t,q)∈T.mg/\dst≠aa t:=by
  cases dst with
  |none=>exact⟨hm,by simp⟩
  |some d=>
   obtain⟨h1,h2⟩:=aw7.1 hm;exact⟨h1,λhe=>by cases he;simp at h2⟩
 rw[kA h12.2];exact h.mg t q h12.1
def rf.step{ops:Array Oper}{θ:Nat->Option Nat}{n0:Nat}{e:Env}{T:fU}{v:IV}{av:St}{j:Nat}(hj:ops[j]?=aa o)(h:rf P ops θ e G T)(hT:lB n0 e T)(hv:aA P ro (aB e) o G=aa (.val v av)):rf P ops θ (e.put o.dst v) av (Gz T o j):=by
 refine⟨λt q hm=>?_,λi a d q hm=>?_,λt q hm=>?_⟩
 .have hm:(t,q)∈S5 T o:=hm;unfold S5 at hm;split at hm
  .rename_i d s x f hg ek ew;split at hm
   .rename_i hh AN;split at hm
    .rename_i ak;rcases aws.1 hm with he|hm
     .cases he;obtain⟨id,off,ep,ext,g1,g2⟩:=h.tg _ _ (rh AN);have hx:aB e (.tmp x)=.ptr id off ep ext:=g2;have gj:t<e.n:=by rw[hT.n];simpa using ak
      rw[ek,cC gj];unfold aA at hv;rw[ew]at hv;dsimp only at hv
      repeat' split at hv
      all_goals try (cases hv;done)
      .rename_i he _;rw[hx]at he;cases he;have:=aY hv;cases this;exact⟨_,_,_,_,g1,rfl⟩
      .rename_i he _;rw[hx]at he;cases he
     .exact h.Dc _ _ t q hm
    .exact h.Dc _ _ t q hm
   .exact h.Dc _ _ t q hm
  .rename_i d hg ek ew;split at hm
   .rename_i x hp;split at hm
    .rename_i hh AN;split at hm
     .rename_i ak;rcases aws.1 hm with he|hm
      .cases he;obtain⟨id,off,ep,ext,g1,g2⟩:=h.tg _ _ (rh AN);have gj:t<e.n:=by rw[hT.n];simpa using ak
       rw[ek,cC gj,ID hp hv];exact⟨id,off,ep,ext,g1,g2⟩
      .exact h.Dc _ _ t q hm
     .exact h.Dc _ _ t q hm
    .exact h.Dc _ _ t q hm
   .exact h.Dc _ _ t q hm
  .exact h.Dc _ _ t q hm
 .have hm:(i,a,d,q)∈S6 T o j:=hm;unfold S6 at hm;split at hm
  .rename_i hk;obtain⟨rfl,_⟩:=BP hk hv;exact h.s8 _ _ i a d q hm
  .rename_i hk;obtain⟨rfl,lz⟩:=BQ hk hv;split at hm
   .rename_i d' ty a' hg ek ew;split at hm
    .rename_i hh AN;split at hm
     .rename_i hc;rcases aws.1 hm with he|hm
      .cases he;simp only[awb,awX]at hc;have bg:a≠d:=λhe=>by subst he;simp at hc
       have gj:d<e.n:=by rw[hT.n];simpa using hc.1
       obtain⟨id,off,ep,ext,g1,g2⟩:=h.tg _ _ (rh AN);have ha:(e.put o.dst v).at a=e.at a:=by rw[ek];exact fN bg
       refine⟨o,ty,id,off,ep,ext,hj,ew,ek,g1,by rw[ha];exact g2,?_⟩;rw[E3 ew (BJ:=aB e) (show(e.put o.dst v).at a=e.at a from ha),lz 0,ek,cC gj]
      .exact h.s8 _ _ i a d q hm
     .exact h.s8 _ _ i a d q hm
    .exact h.s8 _ _ i a d q hm
   .exact h.s8 _ _ i a d q hm
  .cases hm
 .have hm:(t,q)∈Ta T o:=hm;unfold Ta at hm;split at hm
  .rename_i d x hg ek hp;split at hm
   .rename_i hh AN;split at hm
    .rename_i ak;rcases aws.1 hm with he|hm
     .cases he;obtain⟨id,g1,g2⟩:=h.mg _ _ (rh AN);have gj:t<e.n:=by rw[hT.n];simpa using ak
      rw[ek,cC gj,ID hp hv];exact⟨id,g1,g2⟩
     .exact h.Tb _ _ t q hm
    .exact h.Tb _ _ t q hm
   .exact h.Tb _ _ t q hm
  .exact h.Tb _ _ t q hm
def rf.skip{ops:Array Oper}{θ:Nat->Option Nat}{e:Env}{T:fU}{v:IV}{av:St}{j:Nat}(h:rf P ops θ e G T)(hw:(aX o ops e=af/\av=G)\/cN o=.call\/cN o=.effect):rf P ops θ (e.put o.dst v) av (Gz T o j):=by
 have Hh:(aX o ops e=af/\av=G)->o.guard≠ah:=λhw hg=>by
  have:=hw.1;unfold aX at this;rw[hg]at this;cases this
 refine⟨λt q hm=>?_,λi a d q hm=>?_,λt q hm=>?_⟩
 .have hm:(t,q)∈S5 T o:=hm;unfold S5 at hm;split at hm
  .rename_i d s x f hg ek ew;rcases hw with hw|hw
   .exact absurd hg (Hh hw)
   .unfold cN at hw;rw[ew]at hw;rcases hw with hw|hw<;>cases hw
  .rename_i d hg ek ew;split at hm
   .rename_i x hp;rcases hw with hw|hw
    .exact absurd hg (Hh hw)
    .rw[xF hp]at hw;rcases hw with hw|hw<;>cases hw
   .exact h.Dc _ _ t q hm
  .exact h.Dc _ _ t q hm
 .have hm:(i,a,d,q)∈S6 T o j:=hm;unfold S6 at hm;split at hm
  .rename_i hk;rcases hw with⟨_,rfl⟩|hw
   .exact h.s8 _ _ i a d q hm
   .rw[hk]at hw;rcases hw with hw|hw<;>cases hw
  .rename_i hk;rcases hw with hw|hw
   .obtain⟨_,rfl⟩:=id hw;split at hm
    .rename_i hg _ _;exact absurd hg (Hh hw)
    .exact h.s8 _ _ i a d q hm
   .rw[hk]at hw;rcases hw with hw|hw<;>cases hw
  .cases hm
 .have hm:(t,q)∈Ta T o:=hm;unfold Ta at hm;split at hm
  .rename_i d x hg ek hp;rcases hw with hw|hw
   .exact absurd hg (Hh hw)
   .rw[xF hp]at hw;rcases hw with hw|hw<;>cases hw
  .exact h.Tb _ _ t q hm
def Za{ty:TypeId}{m k x:Operand}(ho:o.op=.mapUpdate ty m k x){ρ:Operand->IV}{id:Nat}(hm:ρ m=.map id){v:IV}{av:St}(hv:aA P ro ρ o G=aa (.val v av)):∀bt,bt≠id->av.at bt=G.at bt:=by
 unfold aA at hv;rw[ho]at hv;dsimp only at hv;split at hv<;>try (cases hv;done)
 split at hv<;>try (cases hv;done)
 rename_i hs;have:=aY hv;cases this;unfold pK at hs;rw[hm]at hs
 repeat' split at hs
 all_goals try (cases hs;done)
 all_goals
  cases hs;intro bt bg;rw[St.cW];split
  .exact absurd (by simp_all) bg
  .rfl
def P8{ty:TypeId}{a x:Operand}(ho:o.op=.store ty a x){ρ:Operand->IV}{id off ep ext:Nat}(ha:ρ a=.ptr id off ep ext){v:IV}{av:St}(hv:aA P ro ρ o G=aa (.val v av)):av.n=G.n/\∀bt,bt≠id->av.at bt=G.at bt:=by
 unfold aA at hv;rw[ho]at hv;dsimp only at hv;rw[ha]at hv;dsimp only at hv
 repeat' split at hv
 all_goals try (cases hv;done)
 all_goals
  have:=aY hv;cases this;exact⟨rfl,λbt bg=>by rw[St.cW,if_neg (Ne.symm bg)]⟩
def Zb(n0:Nat)(x:IV):Prop:=(∀id off len cap ep s,x=.sl id off len cap ep s->id<n0)/\∀id off ep ext,x=.ptr id off ep ext->id<n0
structure pd(P:Program)(ops:Array Oper)(n0:Nat)(e:Env)(G:St)(T:fU):Prop where
 n:n0<=G.n
 os:∀t,i5 T.os t=ab->Zb n0 (e.at t)
 ox:∀t,i5 T.ox t=ab->EZ n0 (e.at t)
 fr:∀t,i5 T.fr t=ab->∃id off ep ext,n0<=id/\e.at t=.ptr id off ep ext
 lo:∀i a d,(i,a,d)∈T.lo->∃p ty,ops[i]?=aa p/\p.op=.load ty (.tmp a)/\p.dst=aa d/\EZ n0 (e.at a)/\aA P 0 (aB e) p G=aa (.val (e.at d) G)
def Tc{p:Oper}{ty:TypeId}{a:Operand}(hp:p.op=.load ty a){ρ:Operand->IV}{n0:Nat}{v:IV}{av:St}(ha:EZ n0 (ρ a))(hv:aA P ro ρ p G=aa (.val v av)){au:St}(DR:∀id,id<n0->au.at id=G.at id)(gl:Nat):aA P gl ρ p au=aa (.val v au):=by
 rcases ha with⟨id,off,ep,ext,ha,ak⟩|⟨cs,ha⟩|ha
 .exact Kk hp ha hv (DR id ak) gl
 .unfold aA at hv⊢;rw[hp]at hv⊢;dsimp only at hv⊢;rw[ha]at hv⊢;dsimp only at hv⊢;split at hv<;>try (cases hv;done)
  have:=aY hv;cases this
  simp_all[ret]
 .unfold aA at hv;rw[hp]at hv;dsimp only at hv;rw[ha]at hv;cases hv
def Td{ty:TypeId}(ho:o.op=.alloc ty){ρ:Operand->IV}{v:IV}{av:St}(hv:aA P ro ρ o G=aa (.val v av)):(∃off ep ext,v=.ptr G.n off ep ext)/\∀id,id<G.n->av.at id=G.at id:=by
 unfold aA at hv;rw[ho]at hv;dsimp only at hv;split at hv<;>try (cases hv;done)
 have:=aY hv;cases this;exact⟨⟨_,_,_,rfl⟩,λid hid=>by rw[St.iO,if_neg aj]⟩
def NP{f:fU->List Nat}{T:fU}(hf:∀d,f (T.del (aa d))=(f T).filter (λt=> !awl t d)){dst:Option Nat}{t:Nat}(hm:i5 (f (T.del dst)) t=ab):i5 (f T) t=ab/\dst≠aa t:=by
 cases dst with
 |none=>exact⟨hm,by simp⟩
 |some d=>
  rw[hf]at hm;obtain⟨h1,h2⟩:=xE hm;exact⟨h1,λhe=>by cases he;exact h2 rfl⟩
def akh{T:fU}{dst:Option Nat}{i a d:Nat}(hm:(i,a,d)∈(T.del dst).lo):(i,a,d)∈T.lo/\dst≠aa a/\dst≠aa d:=by
 cases dst with
 |none=>exact⟨hm,by simp,by simp⟩
 |some q=>
  obtain⟨h1,h2⟩:=aw7.1 hm;exact⟨h1,λhe=>by cases he;simp at h2,λhe=>by cases he;simp at h2⟩
section
variable{ops:Array Oper}{n0:Nat}{e:Env}{T:fU}{v:IV}{av:St}{j:Nat}
def pd.NQ(h:pd P ops n0 e G T){dst:Option Nat}{t:Nat}(hm:i5 (T.del dst).os t=ab):Zb n0 ((e.put dst v).at t):=by
 obtain⟨h1,h2⟩:=NP (f:=fU.os) (λ_=>rfl) hm;rw[kA h2];exact h.os t h1
def pd.NR(h:pd P ops n0 e G T){dst:Option Nat}{t:Nat}(hm:i5 (T.del dst).ox t=ab):EZ n0 ((e.put dst v).at t):=by
 obtain⟨h1,h2⟩:=NP (f:=fU.ox) (λ_=>rfl) hm;rw[kA h2];exact h.ox t h1
def pd.Zc(h:pd P ops n0 e G T){dst:Option Nat}{t:Nat}(hm:i5 (T.del dst).fr t=ab):∃id off ep ext,n0<=id/\(e.put dst v).at t=.ptr id off ep ext:=by
 obtain⟨h1,h2⟩:=NP (f:=fU.fr) (λ_=>rfl) hm;rw[kA h2];exact h.fr t h1
def pd.s8(h:pd P ops n0 e G T){dst:Option Nat}(DR:∀id,id<n0->av.at id=G.at id){i a d:Nat}(hm:(i,a,d)∈(T.del dst).lo):∃p ty,ops[i]?=aa p/\p.op=.load ty (.tmp a)/\p.dst=aa d/\EZ n0 ((e.put dst v).at a)/\aA P 0 (aB (e.put dst v)) p av=aa (.val ((e.put dst v).at d) av):=by
 obtain⟨h1,h2,h3⟩:=akh hm;obtain⟨p,ty,g1,g2,g3,g4,g5⟩:=h.lo i a d h1;refine⟨p,ty,g1,g2,g3,by rw[kA h2];exact g4,?_⟩;rw[kA h3,E3 g2 (show aB (e.put dst v) (.tmp a)=aB e (.tmp a)from kA h2)];exact Tc g2 g4 g5 DR 0
def pd.step(hj:ops[j]?=aa o)(h:pd P ops n0 e G T)(hT:lB n0 e T)(hv:aA P ro (aB e) o G=aa (.val v av))(hn:G.n<=av.n):pd P ops n0 (e.put o.dst v) av (Gz T o j):=by
 refine⟨awy h.n hn,λt hm=>?_,λt hm=>?_,λt hm=>?_,λi a d hm=>?_⟩
 .have hm:i5 (S7 T o) t=ab:=hm;unfold S7 at hm;split at hm
  .rename_i d x hd hp;split at hm
   .rename_i hc;rcases kz hm with rfl|hm
    .simp only[awb]at hc;have ak:t<e.n:=by rw[hT.n];simpa using hc.2
     rw[hd,cC ak,ID hp hv];cases x with
     |tmp t'=>exact h.os t' hc.1
     |_=>cases hc.1
    .exact h.NQ hm
   .exact h.NQ hm
  .exact h.NQ hm
 .have hm:i5 (S8 T o) t=ab:=hm;unfold S8 at hm;split at hm
  .rename_i d ty x ix hd ew;split at hm
   .rename_i hc;rcases kz hm with rfl|hm
    .simp only[awb]at hc;have ak:t<e.n:=by rw[hT.n];simpa using hc.2
     have hx:Zb n0 (aB e x):=by
      cases x with
      |tmp t'=>exact h.os t' hc.1
      |_=>cases hc.1
     rw[hd,cC ak];unfold aA at hv;rw[ew]at hv;dsimp only at hv
     repeat' split at hv
     all_goals try (cases hv;done)
     all_goals
      have:=aY hv;cases this
      first
       |exact .inr (.inl ⟨_,rfl⟩)
       |(rename_i DZ _;exact .inl ⟨_,_,_,_,rfl,hx.1 _ _ _ _ _ _ DZ⟩)
       |(rename_i DZ _ _;exact .inl ⟨_,_,_,_,rfl,hx.2 _ _ _ _ DZ⟩)
       |(rename_i DZ _ _;exact .inl ⟨_,_,_,_,rfl,hx.1 _ _ _ _ _ _ DZ⟩)
    .exact h.NR hm
   .exact h.NR hm
  .exact h.NR hm
 .have hm:i5 (S9 T o) t=ab:=hm;unfold S9 at hm;split at hm
  .rename_i d ty hg hd ew;split at hm
   .rename_i hc;rcases kz hm with rfl|hm
    .have ak:t<e.n:=by rw[hT.n];simpa using hc
     obtain⟨⟨off,ep,ext,rfl⟩,_⟩:=Td ew hv;rw[hd,cC ak];exact⟨_,_,_,_,h.n,rfl⟩
    .exact h.Zc hm
   .exact h.Zc hm
  .exact h.Zc hm
 .have hm:(i,a,d)∈S_ T o j:=hm;unfold S_ at hm;split at hm
  .rename_i hk;obtain⟨rfl,_⟩:=BP hk hv;exact h.s8 (λ_ _=>rfl) hm
  .rename_i hk;obtain⟨rfl,lz⟩:=BQ hk hv;split at hm
   .rename_i d' ty a' hg ek ew;split at hm
    .rename_i hc;rcases aws.1 hm with he|hm
     .cases he;simp only[awb,awX]at hc;have bg:a≠d:=λhe=>by subst he;simp at hc
      have gj:d<e.n:=by rw[hT.n];simpa using hc.1.2
      have ha:(e.put o.dst v).at a=e.at a:=by rw[ek];exact fN bg
      refine⟨o,ty,hj,ew,ek,by rw[ha];exact h.ox a hc.1.1,?_⟩;rw[E3 ew (BJ:=aB e) (show(e.put o.dst v).at a=e.at a from ha),lz 0,ek,cC gj]
     .exact h.s8 (λ_ _=>rfl) hm
    .exact h.s8 (λ_ _=>rfl) hm
   .exact h.s8 (λ_ _=>rfl) hm
  .split at hm
   .rename_i ew;exact h.s8 (λid hid=>(Td ew hv).2 id (axV hid h.n)) hm
   .cases hm
  .cases hm
def pd.skip(h:pd P ops n0 e G T)(hT:lB n0 e T)(hn:n0<=av.n)(hw:(aX o ops e=af/\av=G/\v=.undef)\/cN o=.call\/cN o=.effect):pd P ops n0 (e.put o.dst v) av (Gz T o j):=by
 have Hh:(aX o ops e=af/\av=G/\v=.undef)->o.guard≠ah:=λhw hg=>by
  have:=hw.1;unfold aX at this;rw[hg]at this;cases this
 refine⟨hn,λt hm=>?_,λt hm=>?_,λt hm=>?_,λi a d hm=>?_⟩
 .have hm:i5 (S7 T o) t=ab:=hm;unfold S7 at hm;split at hm
  .rename_i d x hd hp;split at hm
   .rename_i hc;rcases kz hm with rfl|hm
    .rcases hw with⟨_,_,rfl⟩|hw
     .simp only[awb]at hc;have ak:t<e.n:=by rw[hT.n];simpa using hc.2
      rw[hd,cC ak];constructor<;>intros<;>contradiction
     .rw[xF hp]at hw;rcases hw with hw|hw<;>cases hw
    .exact h.NQ hm
   .exact h.NQ hm
  .exact h.NQ hm
 .have hm:i5 (S8 T o) t=ab:=hm;unfold S8 at hm;split at hm
  .rename_i d ty x ix hd ew;split at hm
   .rename_i hc;rcases kz hm with rfl|hm
    .rcases hw with⟨_,_,rfl⟩|hw
     .simp only[awb]at hc;have ak:t<e.n:=by rw[hT.n];simpa using hc.2
      rw[hd,cC ak];exact .inr (.inr rfl)
     .unfold cN at hw;rw[ew]at hw;rcases hw with hw|hw<;>cases hw
    .exact h.NR hm
   .exact h.NR hm
  .exact h.NR hm
 .have hm:i5 (S9 T o) t=ab:=hm;unfold S9 at hm;split at hm
  .rename_i d ty hg hd ew;rcases hw with hw|hw
   .exact absurd hg (Hh hw)
   .unfold cN at hw;rw[ew]at hw;rcases hw with hw|hw<;>cases hw
  .exact h.Zc hm
 .have hm:(i,a,d)∈S_ T o j:=hm;unfold S_ at hm;split at hm
  .rename_i hk;rcases hw with⟨_,rfl,_⟩|hw
   .exact h.s8 (λ_ _=>rfl) hm
   .rw[hk]at hw;rcases hw with hw|hw<;>cases hw
  .rename_i hk;rcases hw with hw|hw
   .obtain⟨_,rfl,_⟩:=id hw;split at hm
    .rename_i hg _ _;exact absurd hg (Hh hw)
    .exact h.s8 (λ_ _=>rfl) hm
   .rw[hk]at hw;rcases hw with hw|hw<;>cases hw
  .rename_i hk;rcases hw with⟨_,rfl,_⟩|hw
   .split at hm
    .exact h.s8 (λ_ _=>rfl) hm
    .cases hm
   .rw[hk]at hw;rcases hw with hw|hw<;>cases hw
  .cases hm
end
def abu{pl:eh}{T:fU}{j:Nat}(h:Hf pl T o j=ab):EX pl j=ab:=by
 unfold Hf at h;split at h<;>try (cases h;done)
 .split at h<;>simp only[awb]at h
  .exact h.1
  .exact h.2.1
 .split at h<;>try (cases h;done)
  simp only[awb]at h;exact h.1
def IE{pl:eh}{j i:Nat}(h:EX pl j=ab)(hi:i<j)(hk:bo pl i=.alloc\/bo pl i=.effect\/bo pl i=.call):awC (pl.cg.getD j 0) i=ab:=by
 have:=awt.1 h i (axL.2 hi);simp only[awO]at this;refine this.resolve_right λhh=>?_;unfold bo at hk;rcases hk with hk|hk|hk<;>rw[hk]at hh<;>cases hh
def aid{pl:eh}{j i:Nat}(h:akc pl j=ab)(hi:i<j)(hk:bo pl i=.effect):awC (pl.cg.getD j 0) i=ab:=by
 have:=awt.1 h i (axL.2 hi);simp only[awO]at this;refine this.resolve_right λhh=>?_;unfold bo at hk;rw[hk]at hh;cases hh
def Xc{pl:eh}{j i:Nat}(h:EY pl j=ab)(hi:i<j)(hk:bo pl i≠.pure):awC (pl.cg.getD j 0) i=ab:=by
 have:=awt.1 h i (axL.2 hi);simp only[awO]at this;refine this.resolve_right λhh=>hk ?_;unfold bo;split at hh
 .assumption
 .cases hh
theorem Hi:∀(l:List Piece) (b:T Ob),(∀p∈l,p.hi<=p.lo)->l.foldl dJ b=b
 |[],_,_=>rfl
 |p::l,b,h=>by
  rw[awW,mc b p (h p (ayx ..))];exact Hi l b λq hq=>h q (awI _ hq)
theorem Hj{n0:Nat}:∀(l:List Piece) (b:T Ob),(∀p∈l,n0<=p.lo)->∀id,id<n0->(l.foldl dJ b).get id=b.get id
 |[],_,_,_,_=>rfl
 |p::l,b,h,id,hid=>by
  rw[awW,Hj l _ (λq hq=>h q (awI _ hq)) id hid,lT,if_neg];have:=h p (ayx ..);omega
structure oE(pl:eh)(n0 j:Nat)(d:DS)(e:Env)(G:St):Prop where
 e:d.e=e
 n:d.n=G.n
 le:n0<=G.n
 bs:∃i b rest,d.bs=(i,b)::rest/\(rest=[]\/(i<j/\bo pl i=.effect))/\d.aS.foldl dJ b=G.t/\b.WF
 aS:∀p∈d.aS,(p.hi<=p.lo\/(p.j<j/\(bo pl p.j=.alloc\/bo pl p.j=.call)))/\p.hi<=d.n/\n0<=p.lo
variable{ops:Array Oper}{pl:eh}{d:DS}{e e':Env}{au:St}{j n0:Nat}
def wY{b:T Ob}(hs:oE pl n0 j d e G)(dL:d.aS.foldl dJ b=G.t)(ho:EX pl j=ab):seen d.aS (pl.cg.getD j 0) b=G.t:=by
 unfold seen;rw[vz _ _ λp hp=>?_,dL];rcases(hs.aS p hp).1 with h|⟨h1,h2⟩
 .exact .inr h
 .exact .inl (IE ho h1 (h2.elim .inl λh=>.inr (.inr h)))
def abv(h:EY pl j=ab):EX pl j=ab:=by
 refine awt.2 λi hi=>?_;have:=awt.1 h i hi;simp only[awO]at this⊢;refine this.imp id λh=>?_;split at h
 .rename_i hk;rw[hk]
 .cases h
def JD{bits:Nat}{e:Env}{n:Nat}{aS:List Piece}{b:T Ob}{l:List (Oper×Nat)}(h:∀p i,(p,i)∈l->bo pl i=.load->awC bits i=ab):recheck P pl ops bits e n aS b l=ab:=by
 unfold recheck;rw[awt];rintro⟨p,q⟩ AL;simp only;split
 .rename_i u5;rw[h p q AL u5];rfl
 .rfl
def BX{U:Self}{av:St}{v:IV}(hs:oE pl n0 j d e G)(hk:bo pl j=.effect)(hw:aX o ops e=ab)(iD:∀p i,(p,i)∈ops.toList.zipIdx.take j->(p,i)∈ops.toList.zipIdx/\i<j)(hA:EY pl j=ab)
 (hx:kH P U ro e o G=aa (v,av))(k_:av.t.WF)(hn:G.n<=av.n):∃d1,bV P U pl ro ops o j d=aa d1/\oE pl n0 (j+1) d1 (e.put o.dst v) av:=by
 obtain⟨i,b,rest,cB,dv,dL,kK⟩:=hs.bs;have om:=wY hs dL (abv hA);have cy:(⟨d.n,seen d.aS (pl.cg.getD j 0) b⟩:St)=G:=by rw[om,hs.n]
 refine⟨⟨e.put o.dst v,av.n,(j,av.t)::d.bs,d.aS.filter λp=> !awC (pl.cg.getD j 0) p.j⟩,?_,⟨rfl,rfl,awy hs.le hn,⟨j,av.t,d.bs,rfl,.inr ⟨by omega,hk⟩,?_,k_⟩,λp hp=>?_⟩⟩
 .unfold bV;rw[cB];simp only;rw[hs.e,hw,if_pos rfl];have cH:pl.kinds.getD j .effect=.effect:=hk;rw[cH];simp only;rw[cy,hx];simp only;rw[if_pos (JD λp q AL u5=>Xc hA (iD p q AL).2 (by rw[u5];simp))]
 .refine BR _ _ λp hp hf=>?_;rcases(hs.aS p hp).1 with h|⟨h1,h2⟩
  .exact h
  .rw[IE (abv hA) h1 (h2.elim .inl λh=>.inr (.inr h))]at hf;cases hf
 .have vl:=(aw7.1 hp).1;obtain⟨h1,h2,h3⟩:=hs.aS p vl;exact⟨h1.imp id (λh=>⟨by omega,h.2⟩),by rw[hs.n]at h2;exact awy h2 hn,h3⟩
def abw{T:fU}{θ:Nat->Option Nat}(P9:∀k k' id,θ k=aa id->θ k'=aa id->k=k')(hL:rf P ops θ e G T)(hY:pd P ops n0 e G T){U:Self}{av:St}{v:IV}(hs:oE pl n0 j d e G)(hk:bo pl j=.effect)(hw:aX o ops e=ab)(iD:∀p i,(p,i)∈ops.toList.zipIdx.take j->(p,i)∈ops.toList.zipIdx/\i<j)(hX:Hf pl T o j=ab)
 (hv:aA P ro (aB e) o G=aa (.val v av))(k_:av.t.WF)(hn:G.n<=av.n):∃d1,bV P U pl ro ops o j d=aa d1/\oE pl n0 (j+1) d1 (e.put o.dst v) av:=by
 obtain⟨i,b,rest,cB,dv,dL,kK⟩:=hs.bs;have om:=wY hs dL (abu hX);have cy:(⟨d.n,seen d.aS (pl.cg.getD j 0) b⟩:St)=G:=by rw[om,hs.n]
 have hx:kH P U ro e o G=aa (v,av):=by unfold kH;rw[hv]
 have adW:∀p∈(d.aS.filter λp=> !awC (pl.cg.getD j 0) p.j),p.hi<=p.lo:=λp hp=>by
  obtain⟨mL,hp2⟩:=aw7.1 hp;rcases(hs.aS p mL).1 with h|⟨h1,h2⟩
  .exact h
  .rw[IE (abu hX) h1 (h2.elim .inl λh=>.inr (.inr h))]at hp2;cases hp2
 refine⟨⟨e.put o.dst v,av.n,(j,av.t)::d.bs,d.aS.filter λp=> !awC (pl.cg.getD j 0) p.j⟩,?_,⟨rfl,rfl,awy hs.le hn,⟨j,av.t,d.bs,rfl,.inr ⟨by omega,hk⟩,?_,k_⟩,λp hp=>?_⟩⟩
 .unfold bV;rw[cB];simp only;rw[hs.e,hw,if_pos rfl];have cH:pl.kinds.getD j .effect=.effect:=hk;rw[cH];simp only;rw[cy,hx];simp only;rw[if_pos];unfold recheck;rw[awt];rintro⟨p,q⟩ AL;simp only;split
  .rename_i u5;obtain⟨ar9,SU⟩:=iD p q AL;unfold Hf at hX
   have hse:seen (d.aS.filter λp=> !awC (pl.cg.getD j 0) p.j) (pl.cg.getD q 0) av.t=av.t:=by
    unfold seen;exact Hi _ _ λp hp=>adW p (aw7.1 hp).1
   have oC:ops[q]?=aa p:=by
    have:=axm.1 ar9;rwa[aya]at this
   split at hX<;>try (cases hX;done)
   .rename_i ty a x hg ew;split at hX
    .rename_i g AN;simp only[awb,awt]at hX;have hq:=hX.2 q (axL.2 SU);rw[awO]at hq;rcases hq with hq|hq
     .rw[hq];rfl
     .rw[u5]at hq;simp only[ayp,awb,awX]at hq;obtain⟨⟨i',a',d',h'⟩,hm,cw,bg⟩:=hq;have:=awk cw;simp only at this;subst this;obtain⟨p',ty',id,off,ep,ext,g1,g2,g3,g4,g5,g6⟩:=hL.ld _ _ _ _ hm;rw[g1]at oC;cases oC;obtain⟨Te,ar_,ep2,asa,f1,f2⟩:=hL.tg _ _ (rh AN);obtain⟨e1,e2⟩:=P8 ew (show aB e (.tmp a)=_ from f2) hv
      have Zd:id≠Te:=λhe=>by
       subst he;have:=P9 _ _ _ g4 f1;subst this;simp at bg
      have LU:=Kk g2 (show aB e (.tmp a')=_ from g5) g6 (e2 id Zd) av.n;rw[g3];simp only;unfold loadAt;rw[hse,LU];simp[Sm.sm]
    .simp only[awb,awt]at hX;have hq:=hX.2.2 q (axL.2 SU);rw[awO]at hq;rcases hq with hq|hq
     .rw[hq];rfl
     .rw[u5]at hq;simp only[ayp]at hq;obtain⟨⟨i',a',d'⟩,hm,cw⟩:=hq;have:=awk cw;simp only at this;subst this;obtain⟨p',ty',g1,g2,g3,g5,g6⟩:=hY.lo _ _ _ hm;rw[g1]at oC;cases oC;obtain⟨Te,ar_,ep2,asa,f1,f2⟩:=hY.fr a hX.1;obtain⟨e1,e2⟩:=P8 ew (show aB e (.tmp a)=_ from f2) hv;have LU:=Tc g2 (show EZ n0 (aB e (.tmp a'))from g5) g6 (λid hid=>e2 id aj) av.n;rw[g3];simp only;unfold loadAt;rw[hse,LU];simp[Sm.sm]
   .rename_i ty a mk x hg ew;split at hX<;>try (cases hX;done)
    rename_i g AN;simp only[awb,awt]at hX;have hq:=hX.2 q (axL.2 SU);rw[awO]at hq;rcases hq with hq|hq
    .rw[hq];rfl
    .rw[u5]at hq;simp only[ayp,awb,awX]at hq;obtain⟨⟨i',a',d',h'⟩,hm,cw,bg⟩:=hq;have:=awk cw;simp only at this;subst this;obtain⟨p',ty',id,off,ep,ext,g1,g2,g3,g4,g5,g6⟩:=hL.ld _ _ _ _ hm;rw[g1]at oC;cases oC;obtain⟨Te,f1,f2⟩:=hL.mg _ _ (rh AN);have e2:=Za ew (show aB e (.tmp a)=_ from f2) hv
     have Zd:id≠Te:=λhe=>by
      subst he;have:=P9 _ _ _ g4 f1;subst this;simp at bg
     have LU:=Kk g2 (show aB e (.tmp a')=_ from g5) g6 (e2 id Zd) av.n;rw[g3];simp only;unfold loadAt;rw[hse,LU];simp[Sm.sm]
  .rfl
 .exact Hi _ _ adW
 .have vl:=(aw7.1 hp).1;obtain⟨h1,h2,h3⟩:=hs.aS p vl;exact⟨h1.imp id (λh=>⟨by omega,h.2⟩),by rw[hs.n]at h2;exact awy h2 hn,h3⟩
def noX{T:fU}(h:Hf pl T o j=ab)(hn:(∃ro ρ f args,aA P ro ρ o G=aa (.enter f args))\/aX o ops e=af):False:=by
 unfold Hf at h;split at h<;>try (cases h;done)
 .rename_i ty a x hg ew;rcases hn with⟨ro,ρ,f,args,hn⟩|hn
  .unfold aA at hn;rw[ew]at hn;dsimp only at hn
   repeat' split at hn
   all_goals try (cases hn;done)
   all_goals (have:=aY hn;cases this)
  .unfold aX at hn;rw[hg]at hn;cases hn
 .rename_i ty a mk x hg ew;rcases hn with⟨ro,ρ,f,args,hn⟩|hn
  .unfold aA at hn;rw[ew]at hn;dsimp only at hn
   repeat' split at hn
   all_goals try (cases hn;done)
   all_goals (have:=aY hn;cases this)
  .unfold aX at hn;rw[hg]at hn;cases hn
def LV{fr:Bool}{l:List (Oper×Nat)}{θ:Nat->Option Nat}(P9:∀k k' id,θ k=aa id->θ k'=aa id->k=k')(h:gm P ro ops pl fr l e G e' au):
 ∀(k:Nat) (d:DS) (T:fU),ops.toList.zipIdx.drop k=l->oE pl n0 k d e G->i6 P pl l T=ab->lB n0 e T->rf P ops θ e G T/\pd P ops n0 e G T->
  ∃SF:Nat->Self,(∀i,mZ P (SF i))/\∃d',jF P SF pl ro ops l d=aa d'/\d'.e=e'/\d'.n=au.n/\∃i b rest,d'.bs=(i,b)::rest/\d'.aS.foldl dJ b=au.t:=by
 have dD:∀{o:Oper} {j:Nat} {l:List (Oper×Nat)} {k:Nat},ops.toList.zipIdx.drop k=(o,j)::l->j=k/\ops.toList.zipIdx.drop (k+1)=l/\
  (∀p i,(p,i)∈ops.toList.zipIdx.take j->(p,i)∈ops.toList.zipIdx/\i<j)/\(∀o' i,(o',i)∈l->i≠j)/\ops[j]?=aa o:=by
  intro o j l k h;have h1:(ops.toList.zipIdx.drop k)[0]?=aa (o,j):=by rw[h];rfl
  rw[List.getElem?_drop,Nat.add_zero]at h1;rw[List.getElem?_zipIdx]at h1
  have hj:j=k:=by
   cases hk:ops.toList[k]? with
   |none=>rw[hk]at h1;cases h1
   |some o'=>rw[hk]at h1;simp at h1;omega
  have AF:ops.toList.zipIdx.drop (k+1)=l:=by rw[<-ayj (i:=1) (j:=k),h];rfl
  have lP:ops[j]?=aa o:=by
   rw[hj];cases hk:ops.toList[k]? with
   |none=>rw[hk]at h1;cases h1
   |some o'=>
    rw[hk]at h1;simp at h1;rw[aya]at hk;rw[hk,h1.1]
  refine⟨hj,AF,λp i hp=>⟨List.mem_of_mem_take hp,?_⟩,λo' i hi=>?_,lP⟩
  .obtain⟨m,hm,he⟩:=azq hp;rw[List.length_take]at hm;rw[List.getElem_take,azr]at he;cases he;omega
  .rw[<-AF]at hi;obtain⟨m,hm,he⟩:=azq hi;rw[List.getElem_drop,azr]at he;cases he;omega
 induction h with
 |nil e G=>
  intro k d T _ hs _ _ _;obtain⟨i,b,rest,h1,_,h3,_⟩:=hs.bs;exact⟨λ_=>Self.none,λ_=>p_,d,rfl,hs.e,hs.n,i,b,rest,h1,h3⟩
 | @skip o j l e G e' au hw h ih=>
   intro k d T hl hs hc hT qA;obtain⟨rfl,hd,iD,ak,lP⟩:=dD hl;simp only[i6,awb]at hc;obtain⟨bU,mN⟩:=hc;obtain⟨i,b,rest,cB,dv,dL,kK⟩:=hs.bs;have jI:∀p∈d.aS,(p.hi<=p.lo\/(p.j<j+1/\(bo pl p.j=.alloc\/bo pl p.j=.call)))/\p.hi<=d.n/\n0<=p.lo:=λp hp=>⟨(hs.aS p hp).1.imp id (λh=>⟨by omega,h.2⟩),(hs.aS p hp).2⟩
   have key:∃U,mZ P U/\∃d1,bV P U pl ro ops o j d=aa d1/\oE pl n0 (j+1) d1 (e.put o.dst .undef) G:=by
    refine⟨Self.none,p_,?_⟩;by_cases hk:bo pl j=.effect
    .refine⟨⟨d.e.put o.dst .undef,d.n,(j,b)::d.bs,d.aS⟩,?_,⟨by rw[hs.e],hs.n,hs.le,⟨j,b,d.bs,rfl,.inr ⟨by omega,hk⟩,dL,kK⟩,jI⟩⟩;unfold bV;rw[cB];simp only;rw[hs.e,hw,if_neg ay];have cH:pl.kinds.getD j .effect=.effect:=hk;have hA:EY pl j=ab:=by unfold mE at bU;rw[cH,awO]at bU;exact bU.elim id λh=>(noX (P:=P) (G:=G) h (.inr hw)).elim
     rw[cH];simp only;rw[if_pos (JD λp q AL u5=>Xc hA (iD p q AL).2 (by rw[u5];simp))]
    .refine⟨{d with e:=d.e.put o.dst .undef},?_,⟨by rw[hs.e],hs.n,hs.le,⟨i,b,rest,cB,dv.imp id (λh=>⟨by omega,h.2⟩),dL,kK⟩,jI⟩⟩;unfold bV;rw[cB];simp only;rw[hs.e,hw,if_neg ay];have cH:pl.kinds.getD j .effect≠.effect:=hk;cases hq:pl.kinds.getD j .effect<;>first|exact absurd hq cH|simp only
   obtain⟨U,hU,d1,h1,h2⟩:=key;obtain⟨SF,iz,d',h3,h4⟩:=ih (j+1) d1 (Gz T o j) hd h2 mN (hT.skip j (.inl ⟨hw,rfl⟩)) ⟨qA.1.skip (.inl ⟨hw,rfl⟩),qA.2.skip hT qA.2.n (.inl ⟨hw,rfl,rfl⟩)⟩;obtain⟨q8,h5,h6⟩:=m4 hU iz h1 h3 ak;exact⟨q8,h5,d',h6,h4⟩
 | @val o j l e G e' au v av hw hv h ih=>
   intro k d T hl hs hc hT qA;obtain⟨rfl,hd,iD,ak,lP⟩:=dD hl;simp only[i6,awb]at hc;obtain⟨bU,mN⟩:=hc;obtain⟨i,b,rest,cB,dv,dL,kK⟩:=hs.bs;have q9:G.t.WF:=dL▸me _ kK;have jI:∀p∈d.aS,(p.hi<=p.lo\/(p.j<j+1/\(bo pl p.j=.alloc\/bo pl p.j=.call)))/\p.hi<=d.n/\n0<=p.lo:=λp hp=>⟨(hs.aS p hp).1.imp id (λh=>⟨by omega,h.2⟩),(hs.aS p hp).2⟩
   have one:∀(t:Go.Ev.T Ob),((av=G)\/∃ob,av=G.add ob/\t.get G.n=aa ob)->(bo pl j=.alloc\/bo pl j=.call)->
    oE pl n0 (j+1) ⟨d.e.put o.dst v,av.n,d.bs,⟨j,d.n,av.n,t⟩::d.aS⟩ (e.put o.dst v) av:=by
    intro t vo hk;refine⟨by rw[hs.e],rfl,awy hs.le (mb hv),⟨i,b,rest,cB,dv.imp id (λh=>⟨by omega,h.2⟩),?_,kK⟩,λp hp=>?_⟩
    .simp only[awW];rcases vo with rfl|⟨ob,rfl,ht⟩
     .rw[mc _ _ (by simp[hs.n]),dL]
     .refine Go.Ev.T.WF.ext (me _ (zD kK _)) (q9.set _ _) λid=>?_
      have:=BS (n:=G.n) (ob:=ob) d.aS (dJ b ⟨j,d.n,(G.add ob).n,t⟩) b (λp hp=>by rw[<-hs.n];exact(hs.aS p hp).2.1) (λid=>by
       rw[lT,Go.Ev.T.gX];simp only[hs.n,St.o5];by_cases hid:G.n=id
       .subst hid;simp[ht]
       .rw[if_neg aj,if_neg hid]) id
      rw[this,dL];rfl
    .rcases aws.1 hp with rfl|hp
     .exact⟨.inr ⟨by simp,hk⟩,awe _,by show n0<=d.n;rw[hs.n];exact hs.le⟩
     .obtain⟨h1,h2,h3⟩:=jI p hp;exact⟨h1,by have:=mb hv;rw[hs.n]at h2;exact awy h2 this,h3⟩
   have key:∃U,mZ P U/\∃d1,bV P U pl ro ops o j d=aa d1/\oE pl n0 (j+1) d1 (e.put o.dst v) av:=by
    refine⟨Self.none,p_,?_⟩;cases hk:bo pl j with
    |pure=>
     have cH:pl.kinds.getD j .effect=.pure:=hk;unfold mE at bU;rw[cH]at bU;have kj:cN o=.pure:=by simpa using bU
     obtain⟨rfl,lz⟩:=BP kj hv;refine⟨{d with e:=d.e.put o.dst v},?_,⟨by rw[hs.e],hs.n,hs.le,⟨i,b,rest,cB,dv.imp id (λh=>⟨by omega,h.2⟩),dL,kK⟩,jI⟩⟩;unfold bV;rw[cB];simp only;rw[hs.e,hw,if_pos rfl];rw[cH];simp only;rw[lz 0 ⟨0,.lf⟩];simp[hs.e,cB]
    |alloc=>
     have cH:pl.kinds.getD j .effect=.alloc:=hk;unfold mE at bU;rw[cH]at bU;simp only[awb,beq_iff_eq]at bU;obtain⟨t,lz,vo⟩:=LQ bU.1 hv;refine⟨⟨d.e.put o.dst v,av.n,d.bs,⟨j,d.n,av.n,t⟩::d.aS⟩,?_,one t (vo.imp (λh=>h.1) λ⟨ob,h1,h2⟩=>⟨ob,h1,by rw[h2,Go.Ev.T.gX,if_pos rfl]⟩) (.inl hk)⟩;unfold bV;rw[cB];simp only;rw[hs.e,hw,if_pos rfl];rw[cH];simp only;rw[hs.n,lz 0]
    |load=>
     have cH:pl.kinds.getD j .effect=.load:=hk;unfold mE at bU;rw[cH]at bU;simp only[awb,beq_iff_eq,awO]at bU;obtain⟨kj,bU⟩:=bU;obtain⟨rfl,lz⟩:=BQ kj hv
     have fv:aA P d.n (aB e) o ⟨d.n,seen d.aS (pl.cg.getD j 0) b⟩=aa (.val v ⟨d.n,seen d.aS (pl.cg.getD j 0) b⟩):=by
      rcases bU with ho|⟨_,ho⟩
      .have om:=wY hs dL ho;have cy:(⟨d.n,seen d.aS (pl.cg.getD j 0) b⟩:St)=av:=by rw[om,hs.n]
       rw[cy];exact lz d.n
      .rcases ho with ho|ho
       .exact aeb ho hv _ _
       split at ho<;>try (cases ho;done)
       rename_i t a ew;refine Y_ ew (Hg hT ho) hv (λid hid=>?_) d.n;show(seen d.aS (pl.cg.getD j 0) b).get id=av.t.get id;unfold seen;rw[<-dL,Hj _ _ (λp hp=>(hs.aS p (aw7.1 hp).1).2.2) id hid,Hj _ _ (λp hp=>(hs.aS p hp).2.2) id hid]
     have Ze:(awC (pl.cg.getD j 0) i||nG P e o d.n v d.aS (pl.cg.getD j 0) rest)=ab:=by
      rcases dv with rfl|⟨h1,h2⟩
      .simp[nG]
      .have:awC (pl.cg.getD j 0) i=ab:=by
        rcases bU with ho|⟨ho,_⟩
        .exact IE ho h1 (.inr (.inl h2))
        .exact aid ho h1 h2
       rw[this];rfl
     refine⟨{d with e:=d.e.put o.dst v},?_,⟨by rw[hs.e],hs.n,hs.le,⟨i,b,rest,cB,dv.imp id (λh=>⟨by omega,h.2⟩),dL,kK⟩,jI⟩⟩;unfold bV;rw[cB];simp only;rw[hs.e,hw,if_pos rfl];rw[cH];simp only;rw[fv];simp only;rw[if_pos ⟨trivial,Ze⟩]
    |call=>
     have cH:pl.kinds.getD j .effect=.call:=hk;unfold mE at bU;rw[cH]at bU;simp only[awb,awO]at bU;obtain⟨⟨_,ho⟩,bU⟩:=bU;rcases bU with bU|bU
     .exact(Gu bU hv).elim
     .split at bU<;>try (cases bU;done)
      rename_i a hb;obtain⟨lz,vo⟩:=ake hb (abt hT bU) hv;have om:=wY hs dL ho;have cy:(⟨d.n,seen d.aS (pl.cg.getD j 0) b⟩:St)=G:=by rw[om,hs.n]
      refine⟨⟨d.e.put o.dst v,av.n,d.bs,⟨j,d.n,av.n,av.t⟩::d.aS⟩,?_,one av.t (vo.imp id λ⟨ob,h1⟩=>⟨ob,h1,by rw[h1];exact(by simp[St.add,Go.Ev.T.gX])⟩) (.inr hk)⟩;unfold bV;rw[cB];simp only;rw[hs.e,hw,if_pos rfl];rw[cH];simp only;rw[cy];unfold kH;rw[lz d.n]
    |effect=>
     have cH:pl.kinds.getD j .effect=.effect:=hk;have hA:(EY pl j||Hf pl T o j)=ab:=by unfold mE at bU;rw[cH]at bU;exact bU
     rw[awO]at hA;rcases hA with hA|hA
     .refine BX hs hk hw iD hA ?_ (Y4 hv q9) (mb hv);unfold kH;rw[hv]
     .exact abw P9 qA.1 qA.2 hs hk hw iD hA hv (Y4 hv q9) (mb hv)
   obtain⟨U,hU,d1,h1,h2⟩:=key;obtain⟨SF,iz,d',h3,h4⟩:=ih (j+1) d1 (Gz T o j) hd h2 mN (hT.step j hv) ⟨qA.1.step lP hT hv,qA.2.step lP hT hv (mb hv)⟩;obtain⟨q8,h5,h6⟩:=m4 hU iz h1 h3 ak;exact⟨q8,h5,d',h6,h4⟩
 | @Rr o j l e G e' au f args v hw hv g_ h ih=>
   intro k d T hl hs hc hT qA;obtain⟨rfl,hd,iD,ak,lP⟩:=dD hl;simp only[i6,awb]at hc;obtain⟨bU,mN⟩:=hc;obtain⟨i,b,rest,cB,dv,dL,kK⟩:=hs.bs;have q9:G.t.WF:=dL▸me _ kK;have jI:∀p∈d.aS,(p.hi<=p.lo\/(p.j<j+1/\(bo pl p.j=.alloc\/bo pl p.j=.call)))/\p.hi<=d.n/\n0<=p.lo:=λp hp=>⟨(hs.aS p hp).1.imp id (λh=>⟨by omega,h.2⟩),(hs.aS p hp).2⟩
   have yn:∀gl,kH P (s7 ah f args G v G) gl e o G=aa (v,G):=by
    intro gl;unfold kH;rw[ES hv gl G];simp[s7]
   have jz:=r7 hv
   have key:∃U,mZ P U/\∃d1,bV P U pl ro ops o j d=aa d1/\oE pl n0 (j+1) d1 (e.put o.dst v) G:=by
    refine⟨s7 ah f args G v G,vy λgl _=>g_ gl,?_⟩;cases hk:bo pl j with
    |pure=>
     have cH:pl.kinds.getD j .effect=.pure:=hk;unfold mE at bU;rw[cH]at bU;have kj:cN o=.pure:=by simpa using bU
     rw[kj]at jz;rcases jz with jz|jz<;>cases jz
    |alloc=>
     have cH:pl.kinds.getD j .effect=.alloc:=hk;unfold mE at bU;rw[cH]at bU;simp only[awb,beq_iff_eq]at bU;rw[bU.1]at jz;rcases jz with jz|jz<;>cases jz
    |load=>
     have cH:pl.kinds.getD j .effect=.load:=hk;unfold mE at bU;rw[cH]at bU;simp only[awb,beq_iff_eq]at bU;rw[bU.1]at jz;rcases jz with jz|jz<;>cases jz
    |call=>
     have cH:pl.kinds.getD j .effect=.call:=hk;unfold mE at bU;rw[cH]at bU;simp only[awb]at bU;have ym:=wY hs dL bU.1.2;refine⟨⟨d.e.put o.dst v,d.n,d.bs,⟨j,d.n,d.n,seen d.aS (pl.cg.getD j 0) b⟩::d.aS⟩,?_,⟨by rw[hs.e],hs.n,hs.le,⟨i,b,rest,cB,dv.imp id (λh=>⟨by omega,h.2⟩),?_,kK⟩,λp hp=>?_⟩⟩
     .unfold bV;rw[cB];simp only;rw[hs.e,hw,if_pos rfl];rw[cH];simp only;have cy:(⟨d.n,seen d.aS (pl.cg.getD j 0) b⟩:St)=G:=by rw[ym,hs.n]
      rw[cy,yn,ym];simp only[hs.n,cB]
     .simp only[awW];rw[mc _ _ ay,dL]
     .rcases aws.1 hp with rfl|hp
      .exact⟨.inl (awe _),awe _,by show n0<=d.n;rw[hs.n];exact hs.le⟩
      .exact jI p hp
    |effect=>
     have cH:pl.kinds.getD j .effect=.effect:=hk;have hA:EY pl j=ab:=by unfold mE at bU;rw[cH,awO]at bU;exact bU.elim id λh=>(noX (ops:=ops) (e:=e) h (.inl ⟨_,_,_,_,hv⟩)).elim
     exact BX hs hk hw iD hA (yn ro) q9 (awe _)
   obtain⟨U,hU,d1,h1,h2⟩:=key;obtain⟨SF,iz,d',h3,h4⟩:=ih (j+1) d1 (Gz T o j) hd h2 mN (hT.skip (ops:=ops) j (.inr jz)) ⟨qA.1.skip (.inr jz),qA.2.skip hT (by first|exact qA.2.n|(have:=hs.le;have:=h2.le;have:=h2.n;omega)) (.inr jz)⟩;obtain⟨q8,h5,h6⟩:=m4 hU iz h1 h3 ak;exact⟨q8,h5,d',h6,h4⟩
 | @Y5 o j l e G e' au f args v ob hq hw hv g_ h ih=>
   intro k d T hl hs hc hT qA;obtain⟨rfl,hd,iD,ak,lP⟩:=dD hl;simp only[i6,awb]at hc;obtain⟨bU,mN⟩:=hc;obtain⟨i,b,rest,cB,dv,dL,kK⟩:=hs.bs;have q9:G.t.WF:=dL▸me _ kK;have jI:∀p∈d.aS,(p.hi<=p.lo\/(p.j<j+1/\(bo pl p.j=.alloc\/bo pl p.j=.call)))/\p.hi<=d.n/\n0<=p.lo:=λp hp=>⟨(hs.aS p hp).1.imp id (λh=>⟨by omega,h.2⟩),(hs.aS p hp).2⟩
   have yn:∀gl,kH P (s7 ah f args G v (G.add ob)) gl e o G=aa (v,G.add ob):=by
    intro gl;unfold kH;rw[ES hv gl G];simp[s7]
   have jz:=r7 hv
   have key:∃U,mZ P U/\∃d1,bV P U pl ro ops o j d=aa d1/\oE pl n0 (j+1) d1 (e.put o.dst v) (G.add ob):=by
    refine⟨s7 ah f args G v (G.add ob),vy λgl _=>g_ gl,?_⟩;cases hk:bo pl j with
    |pure=>
     have cH:pl.kinds.getD j .effect=.pure:=hk;unfold mE at bU;rw[cH]at bU;have kj:cN o=.pure:=by simpa using bU
     rw[kj]at jz;rcases jz with jz|jz<;>cases jz
    |alloc=>
     have cH:pl.kinds.getD j .effect=.alloc:=hk;unfold mE at bU;rw[cH]at bU;simp only[awb,beq_iff_eq]at bU;rw[bU.1]at jz;rcases jz with jz|jz<;>cases jz
    |load=>
     have cH:pl.kinds.getD j .effect=.load:=hk;unfold mE at bU;rw[cH]at bU;simp only[awb,beq_iff_eq]at bU;rw[bU.1]at jz;rcases jz with jz|jz<;>cases jz
    |call=>
     have cH:pl.kinds.getD j .effect=.call:=hk;unfold mE at bU;rw[cH]at bU;simp only[awb]at bU;have ym:=wY hs dL bU.1.2;refine⟨⟨d.e.put o.dst v,(G.add ob).n,d.bs,⟨j,d.n,(G.add ob).n,(G.add ob).t⟩::d.aS⟩,?_,⟨by rw[hs.e],rfl,awy hs.le ay,⟨i,b,rest,cB,dv.imp id (λh=>⟨by omega,h.2⟩),?_,kK⟩,λp hp=>?_⟩⟩
     .unfold bV;rw[cB];simp only;rw[hs.e,hw,if_pos rfl];rw[cH];simp only;have cy:(⟨d.n,seen d.aS (pl.cg.getD j 0) b⟩:St)=G:=by rw[ym,hs.n]
      rw[cy,yn]
     .simp only[awW];refine Go.Ev.T.WF.ext (me _ (zD kK _)) (q9.set _ _) λid=>?_
      have:=BS (n:=G.n) (ob:=ob) d.aS (dJ b ⟨j,d.n,(G.add ob).n,(G.add ob).t⟩) b (λp hp=>by rw[<-hs.n];exact(hs.aS p hp).2.1) (λid=>by
       rw[lT,Go.Ev.T.gX];simp only[hs.n,St.o5];by_cases hid:G.n=id
       .subst hid;rw[if_pos aj,if_pos rfl];have:(G.add ob).t.get G.n=aa ob:=by simpa[St.at]using St.iO G ob G.n
        simp[this]
       .rw[if_neg aj,if_neg hid]) id
      rw[this,dL];rfl
     .rcases aws.1 hp with rfl|hp
      .exact⟨.inr ⟨by simp,.inr hk⟩,awe _,by show n0<=d.n;rw[hs.n];exact hs.le⟩
      .obtain⟨h1,h2,h3⟩:=jI p hp;exact⟨h1,by rw[hs.n]at h2;simp;omega,h3⟩
    |effect=>
     have cH:pl.kinds.getD j .effect=.effect:=hk;have hA:EY pl j=ab:=by unfold mE at bU;rw[cH,awO]at bU;exact bU.elim id λh=>(noX (ops:=ops) (e:=e) h (.inl ⟨_,_,_,_,hv⟩)).elim
     exact BX hs hk hw iD hA (yn ro) (q9.set _ _) ay
   obtain⟨U,hU,d1,h1,h2⟩:=key;obtain⟨SF,iz,d',h3,h4⟩:=ih (j+1) d1 (Gz T o j) hd h2 mN (hT.skip (ops:=ops) j (.inr jz)) ⟨qA.1.skip (.inr jz),qA.2.skip hT (by first|exact qA.2.n|(have:=hs.le;have:=h2.le;have:=h2.n;omega)) (.inr jz)⟩;obtain⟨q8,h5,h6⟩:=m4 hU iz h1 h3 ak;exact⟨q8,h5,d',h6,h4⟩
 | @call o j l e G e' au f args v av hk hw hv g_ k_ h ih=>
   intro k d T hl hs hc hT qA;obtain⟨rfl,hd,iD,ak,lP⟩:=dD hl;simp only[i6,awb]at hc;obtain⟨bU,mN⟩:=hc;obtain⟨i,b,rest,cB,dv,dL,kK⟩:=hs.bs;have q9:G.t.WF:=dL▸me _ kK;have cH:pl.kinds.getD j .effect=.effect:=hk;have hA:EY pl j=ab:=by unfold mE at bU;rw[cH,awO]at bU;exact bU.elim id λh=>(noX (ops:=ops) (e:=e) h (.inl ⟨_,_,_,_,hv⟩)).elim
   obtain⟨d1,h1,h2⟩:=BX (U:=s7 (aa ro) f args G v av) (v:=v) (av:=av) hs hk hw iD hA (by unfold kH;rw[hv];simp[s7]) (k_ q9) g_.1;obtain⟨SF,iz,d',h3,h4⟩:=ih (j+1) d1 (Gz T o j) hd h2 mN (hT.skip (ops:=ops) j (.inr (r7 hv))) ⟨qA.1.skip (.inr (r7 hv)),qA.2.skip hT (by first|exact qA.2.n|(have:=hs.le;have:=h2.le;have:=h2.n;omega)) (.inr (r7 hv))⟩;obtain⟨q8,h5,h6⟩:=m4 (vy (R:=aa ro) λgl hR=>by rcases hR with hR|hR<;>cases hR;exact g_) iz h1 h3 ak;exact⟨q8,h5,d',h6,h4⟩
variable{rd:Option Nat}{fn:FuncId}{df:List Df}
def gx.Zf{id:Nat}{fr:Bool}{T:fU}(fF:P.follows .mixedOrders=ab)(dZ:(bP ops).ok=ab)(a_:i6 P (bP ops) ops.toList.zipIdx T=ab)(hT:lB G.n e T){θ:Nat->Option Nat}(P9:∀k k' id,θ k=aa id->θ k'=aa id->k=k')(qA:rf P ops θ e G T/\pd P ops G.n e G T)(k_:G.t.WF)
 (h:gm P ro ops (bP ops) fr ops.toList.zipIdx e G e' au):gx P ro rd fn (.region id ops ab) e df G ⟨.normal,e',df,au⟩:=by
 obtain⟨SF,iz,d',h1,h2,h3,i,b,rest,h4,h5⟩:=LV (n0:=G.n) P9 h 0 ⟨e,G.n,[(0,G.t)],[]⟩ T ay ⟨rfl,rfl,awe _,⟨0,G.t,[],rfl,.inl rfl,rfl,k_⟩,λp hp=>by cases hp⟩ a_ hT qA
 have fv:kI P SF ro ops e df G=aa ⟨.normal,e',df,au⟩:=by
  unfold kI;simp only;rw[if_pos dZ,h1];obtain⟨de,dn,dbs,aea⟩:=d';simp only at h2 h3 h4 h5;subst h2 h4;simp only[h3,h5]
 refine .mk (EM (λi=>(iz i).2.2.1) (λi=>(iz i).2.2.2) fv) ay λN hN F Z a w Q hF hi he hd hQ=>?_;exact Ke fF (λi=>(iz i).1) (λi=>(iz i).2.1) (λi=>(iz i).2.2.1) (λi=>(iz i).2.2.2) N ro rd ops e df G _ fv hN F Z a w Q id hF hi he hd hQ
def Kl(P:Program)(ro:Nat)(rd:Option Nat)(ops:Array Oper)(e:Env)(df:List Df)(G:St)(e':Env)(au:St):Prop:=
 ∀N,au.n<=N->∀F Z a w Q,kf F rd Z->Inv N Z G w->cY Z e a.tmps->kY Z df a.defers->ur N ro Z w G ⟨.normal,e',df,au⟩ Q->wpAnyIn F 0 P .any ops Q ops.size (axc ops.size af) a {w with drawn:=w.drawn+1}
def Kl.draw(dZ:(bP ops).ok=ab)(a_:zC ops (bP ops)=ab)(k_:G.t.WF)
 (h:gm P ro ops (bP ops) af ops.toList.zipIdx e G e' au):Kl P ro rd ops e df G e' au:=by
 obtain⟨SF,iz,d',h1,h2,h3,i,b,rest,h4,h5⟩:=P5 a_ h 0 ⟨e,G.n,[(0,G.t)],[]⟩ ay ⟨rfl,rfl,⟨0,G.t,[],rfl,.inl rfl,rfl,k_⟩,λp hp=>by cases hp⟩
 have fv:kI P SF ro ops e df G=aa ⟨.normal,e',df,au⟩:=by
  unfold kI;simp only;rw[if_pos dZ,h1];obtain⟨de,dn,dbs,aea⟩:=d';simp only at h2 h3 h4 h5;subst h2 h4;simp only[h3,h5]
 exactλN hN F Z a w Q hF hi he hd hQ=>Ha (λi=>(iz i).1) (λi=>(iz i).2.1) (λi=>(iz i).2.2.1) (λi=>(iz i).2.2.2) N ro rd ops e df G _ fv hN F Z a w Q hF hi he hd hQ
def Kl.Zf{fr:Bool}{T:fU}(dZ:(bP ops).ok=ab)(a_:i6 P (bP ops) ops.toList.zipIdx T=ab)(hT:lB G.n e T){θ:Nat->Option Nat}(P9:∀k k' id,θ k=aa id->θ k'=aa id->k=k')(qA:rf P ops θ e G T/\pd P ops G.n e G T)(k_:G.t.WF)
 (h:gm P ro ops (bP ops) fr ops.toList.zipIdx e G e' au):Kl P ro rd ops e df G e' au:=by
 obtain⟨SF,iz,d',h1,h2,h3,i,b,rest,h4,h5⟩:=LV (n0:=G.n) P9 h 0 ⟨e,G.n,[(0,G.t)],[]⟩ T ay ⟨rfl,rfl,awe _,⟨0,G.t,[],rfl,.inl rfl,rfl,k_⟩,λp hp=>by cases hp⟩ a_ hT qA
 have fv:kI P SF ro ops e df G=aa ⟨.normal,e',df,au⟩:=by
  unfold kI;simp only;rw[if_pos dZ,h1];obtain⟨de,dn,dbs,aea⟩:=d';simp only at h2 h3 h4 h5;subst h2 h4;simp only[h3,h5]
 exactλN hN F Z a w Q hF hi he hd hQ=>Ha (λi=>(iz i).1) (λi=>(iz i).2.1) (λi=>(iz i).2.2.1) (λi=>(iz i).2.2.2) N ro rd ops e df G _ fv hN F Z a w Q hF hi he hd hQ
end
section
variable{P:Program}{N:Nat}{Z:Io}{w:World}{G au:St}{e:Env}{rd:Option Nat}{fn:FuncId}{df:List Df}{CW:kT}{ops:Array Oper}{F:Fence}{n:Nat}{Q Q':Exit->Act->World->Prop}
def mem_ready{listed:Array Bool}{i:Nat}(hi:i<ops.size)(hf:listed[i]?=aa af)(h:∀o,ops[i]?=aa o->∀e∈o.after.toList,axH .any e=ab->gr listed e.on):i∈axd .any ops listed:=by
 unfold axd;rw[aw7,axL];refine⟨hi,?_⟩;rw[aw9,hf,awF hi];simp only[Option.getD_some,Bool.not_false,Bool.true_and,Option.map_some];rw[Array.all_eq_true'];intro e he;cases hb:axH .any e with
 |false=>rfl
 |true=>
  have:=h _ (awF hi) e (by simpa using he) hb;unfold gr at this;rw[aw9,this];rfl
def Km{listed:Array Bool}{i:Nat}(hi:i<listed.size)(h:¬gr listed i):listed[i]?=aa af:=by
 unfold gr at h;rw[awF hi]at h⊢;cases hx:listed[i]with
 |false=>rfl
 |true=>rw[hx]at h;exact absurd rfl h
abbrev Bf(ops:Array Oper)(j i:Nat):Prop:=awC ((J2 ops).getD j 0) i=ab
abbrev Zg(ops:Array Oper):Prop:=∀(j:Nat) (o:Oper),ops[j]?=aa o->∀e∈o.after.toList,axH .any e=ab->e.on<j
def aok(hb:Zg ops):∀(j:Nat),j<ops.size->∀i,Bf ops j i->i<j:=by
 intro j;induction j using Nat.strongRecOn with
 |_ j ih=>
  intro hj i jH;have ho:ops[j]?=aa ops[j]:=awF hj;obtain⟨e,he,sK,h⟩:=(haveI:=xX;DQ ho jH);have ak:=hb j _ ho e he sK;rcases h with rfl|h
  .exact ak
  .have:=ih e.on ak aj i h;omega
def aec(hb:Zg ops){k:Nat}(ht:∀i,k<=i->i<ops.size->∀i',i'<i->Bf ops i i'):∀(r m fuel:Nat) (listed:Array Bool) (a:Act) (w:World),m+r=ops.size->k<=m->r<=fuel->listed.size=ops.size->(∀i,i<ops.size->(gr listed i↔i<m))->
 wpOpsIn F n P ops Q (axN m r) a w->wpAnyIn F n P .any ops Q fuel listed a w:=by
 intro r;induction r with
 |zero=>
  intro m fuel listed a w hm hk hf bf hl h
  have fC:axd .any ops listed=[]:=by
   cases hr:axd .any ops listed with
   |nil=>rfl
   |cons x xs=>
    obtain⟨h1,h2,_⟩:=q7 (show x∈axd .any ops listed by rw[hr];simp);have:=(hl x h1).2 aj;unfold gr at this;rw[this]at h2;cases h2
  cases fuel with
  |zero=>exact⟨fC,h⟩
  |succ fuel=>exact⟨λ_=>h,λi hi=>by rw[fC]at hi;cases hi⟩
 |succ r ih=>
  intro m fuel listed a w hm hk hf bf hl h;cases fuel with
  |zero=>omega
  |succ fuel=>
   have hms:m<ops.size:=aj
   have hmr:m∈axd .any ops listed:=mem_ready hms (Km aj (λhc=>aBu _ ((hl m hms).1 hc))) λo ho e he sK=>by
    have:=hb m o ho e he sK;exact(hl e.on aj).2 this
   refine⟨λyQ=>(by rw[yQ]at hmr;cases hmr),λj hj=>?_⟩;obtain⟨SO,pS,o,lP,ad_⟩:=q7 hj
   have Tf:m<=j:=azV λak=>by
    have:=(hl j SO).2 ak;unfold gr at this;rw[this]at pS;cases pS
   have hje:j=m:=by
    refine Nat.le_antisymm (azV λak=>?_) Tf;obtain⟨e,he,sK,hh⟩:=(haveI:=xX;DQ lP (ht j aj SO m aj));have hle:=ad_ e he sK;have oF:=(hl e.on (by have:=hb j o lP e he sK;omega)).1 hle;rcases hh with hh|hh
    .omega
    .have:=aok hb e.on aj m hh;omega
   subst hje;rw[ayI,wpOpsIn_cons]at h;refine wpOpIn_mono (λa w h=>?_) h;refine ih (j+1) fuel _ a w aj aj aj (by simp[bf]) (λi hi=>?_) h;rw[Aj aj];constructor
   .rintro(h|rfl)
    .have:=(hl i hi).1 h;omega
    .omega
   .intro h;by_cases oW:i=j
    .exact .inr oW
    .exact .inl ((hl i hi).2 aj)
def Oper.Zh{o:Oper}{a:Act}{w:World}{K K':Act->World->Prop}(h:∀a w,K a w->K' a w)(hq:∀e a w,e≠.normal->Q' e a w->Q e a w)
 (hh:o.wpIn F n P a w K Q'):o.wpIn F n P a w K' Q:=by
 have lets:LetsOut Q'->LetsOut Q:=λ⟨a,w,h⟩=>⟨a,w,hq _ _ _ ay h⟩;unfold Oper.wpIn at*
 refine⟨hh.1,?_⟩;have hh:=hh.2;generalize(o.semAt F.round a.eval).run P w=r at*
 cases r with
 |ok x w'=>
  cases x<;>simp only[aBB]at hh⊢<;>
   first
    |exact h _ _ hh
    |exact⟨hh.1,CallsIn.mono hh.2 (λe w'' he=>by cases e<;>first|exact h _ _ he|exact hq _ _ _ ay he|exact lets he)⟩
    |exact⟨hh.1,RowsIn.mono hh.2 (λ_ _ he=>h _ _ he)⟩
    |exact⟨hh.1,RoundIn.mono hh.2 (λe w'' he=>by cases e<;>first|exact h _ _ he|exact hq _ _ _ ay he|exact lets he)⟩
 |halt x w'=>cases x<;>simp only[aBB]at hh⊢<;>first|exact hh|exact hq _ _ _ ay hh
def aie{pre:Array Oper}(hb:Zg ops){k:Nat}(hk:k<=ops.size)(ht:∀i,k<=i->i<ops.size->∀i',i'<i->Bf ops i i')(nY:pre.size=k)(yk:∀i,i<k->pre[i]?=ops[i]?)(oC:pP pre (bP pre))
 (hg:∀i o,i<k->ops[i]?=aa o->∀j want,o.guard=aa (j,want)->j<k)(hqn:∀a w,Q' .normal a w->wpOpsIn F n P ops Q (axN k (ops.size- k)) a w)(hq:∀e a w,e≠.normal->Q' e a w->Q e a w):
 ∀(fuel:Nat) (lp l:Array Bool) (a:Act) (w:World),lp.size=k->l.size=ops.size->(∀i,i<k->(gr l i↔gr lp i))->(∀i,k<=i->i<ops.size->¬gr l i)->(∀i,i<k->gr lp i->∀i',Bf ops i i'->gr lp i')->
  wpAnyIn F n P .any pre Q' fuel lp a w->wpAnyIn F n P .any ops Q (fuel+(ops.size- k)) l a w:=by
 have main:∀(fuel:Nat) (lp l:Array Bool) (a:Act) (w:World),lp.size=k->l.size=ops.size->(∀i,i<k->(gr l i↔gr lp i))->(∀i,k<=i->i<ops.size->¬gr l i)->axd .any pre lp=[]->Q' .normal a w->ops.size- k<=fuel->wpAnyIn F n P .any ops Q fuel l a w:=by
  intro fuel lp l a w h1 h2 h3 h4 h5 h6 h7;have bS:=P1 oC aj h5;refine aec hb ht (ops.size- k) k fuel l a w aj (awe _) h7 h2 (λi hi=>⟨λh=>ayr λhc=>h4 i hc hi h,λh=>(h3 i h).2 (bS i aj)⟩) (hqn _ _ h6)
 intro fuel;induction fuel with
 |zero=>
  intro lp l a w h1 h2 h3 h4 h5 h;exact main _ lp l a w h1 h2 h3 h4 h.1 h.2 aj
 |succ fuel ih=>
  intro lp l a w h1 h2 h3 h4 h5 h;by_cases hr:axd .any pre lp=[]
  .exact main _ lp l a w h1 h2 h3 h4 hr (h.1 hr) aj
  .rw[Nat.add_right_comm]
   have up:∀j,j∈axd .any pre lp->j∈axd .any ops l:=by
    intro j hj;obtain⟨g1,g2,o,g3,g4⟩:=q7 hj;have bz:j<k:=aj;rw[yk j bz]at g3;refine mem_ready aj (Km aj λhc=>?_) λo' Sa e he sK=>?_
    .have:=(h3 j bz).1 hc;unfold gr at this;rw[this]at g2;cases g2
    .rw[g3]at Sa;cases Sa;have:=hb j o g3 e he sK;exact(h3 e.on aj).2 (g4 e he sK)
   refine⟨λyQ=>?_,λj hj=>?_⟩
   .cases hx:axd .any pre lp with
    |nil=>exact absurd hx hr
    |cons x xs=>
     have:=up x (by rw[hx];simp);rw[yQ]at this;cases this
   .obtain⟨g1,g2,o,g3,g4⟩:=q7 hj
    have aed:∀x,x<j->gr l x->x<k/\gr lp x:=λx hx hl=>by
     have:x<k:=ayr λhc=>h4 x hc aj hl;exact⟨this,(h3 x this).1 hl⟩
    by_cases bz:j<k
    .have g3':pre[j]?=aa o:=by rw[yk j bz];exact g3
     have hjp:j∈axd .any pre lp:=by
      refine mem_ready aj (Km aj λhc=>?_) λo' Sa e he sK=>?_
      .have:=(h3 j bz).2 hc;unfold gr at this;rw[this]at g2;cases g2
      .rw[g3']at Sa;cases Sa;exact(aed e.on (hb j o g3 e he sK) (g4 e he sK)).2
     have hw:=h.2 j hjp
     have hK:∀a w,wpAnyIn F n P .any pre Q' fuel (lp.setIfInBounds j ab) a w->wpAnyIn F n P .any ops Q (fuel+(ops.size- k)) (l.setIfInBounds j ab) a w:=by
      intro a w hh;refine ih _ _ a w (by simp[h1]) (by simp[h2]) (λi hi=>?_) (λi hi cw=>?_) (λi hi hl i' jH=>?_) hh
      .rw[Aj aj,Aj aj];show(gr l i\/i=j)↔(gr lp i\/i=j);rw[h3 i hi]
      .rw[Aj aj];rintro(hc|rfl)
       .exact h4 i hi cw hc
       .omega
      .rw[Aj aj]at hl⊢;rcases hl with hl|rfl
       .exact .inl (h5 i hi hl i' jH)
       .obtain⟨e,he,sK,hh⟩:=(haveI:=xX;DQ g3 jH);obtain⟨x1,x2⟩:=aed e.on (hb i o g3 e he sK) (g4 e he sK);rcases hh with rfl|hh
        .exact .inl x2
        .exact .inl (h5 e.on x1 x2 i' hh)
     unfold wpOpIn at hw⊢;rw[g3']at hw;rw[g3];simp only at hw⊢
     have hwt:azh o (yielded pre a.tmps)=azh o (yielded ops a.tmps):=by
      unfold azh;cases Hh:o.guard with
      |none=>rfl
      |some p=>
       obtain⟨j',want⟩:=p;simp only[yielded,yk j' (hg j o bz g3 j' want Hh)]
     rw[hwt]at hw;split
     .rename_i hc;rw[if_pos hc]at hw;exact Oper.Zh hK hq hw
     .rename_i hc;rw[if_neg hc]at hw;exact⟨hw.1,hK _ _ hw.2⟩
    .exfalso;apply hr
     have bS:∀i,i<k->gr lp i:=by
      intro i hi;obtain⟨e,he,sK,hh⟩:=(haveI:=xX;DQ g3 (ht j aj g1 i aj));obtain⟨x1,x2⟩:=aed e.on (hb j o g3 e he sK) (g4 e he sK);rcases hh with rfl|hh
      .exact x2
      .exact h5 e.on x1 x2 i hh
     cases hx:axd .any pre lp with
     |nil=>rfl
     |cons x xs=>
      obtain⟨q1,q2,_⟩:=q7 (show x∈axd .any pre lp by rw[hx];simp);have:=bS x aj;unfold gr at this;rw[this]at q2;cases q2
def Rw(ops:Array Oper)(k:Nat):Bool:=
 Nat.ble k ops.size&&(ops.toList.zipIdx.all λp=>(p.1.after.toList.all λe=> !axH .any e||aw6 e.on p.2)&&
  (if aw6 p.2 k then(match p.1.guard with|some (j,_)=>aw6 j k|none=>ab)else(axt p.2).all λi=>awC ((J2 ops).getD p.2 0) i))
def cT.Tg{id k:Nat}{e':Env}(fF:P.follows .mixedOrders=ab)(ht:Rw ops k=ab)(oC:(bP (ops.extract 0 k)).ok=ab)(Kd:∀df,Kl P 0 rd (ops.extract 0 k) e df G e' au)(hn:au.n<=N)
 (h:dC P N rd ops (ops.toList.drop k) e' df au CW):cT P N rd (.region id ops ab) e df G CW:=by
 unfold Rw at ht;simp only[awb,Nat.ble_eq,awt]at ht;obtain⟨hk,ht⟩:=ht
 have aM:∀(i:Nat) (o:Oper),ops[i]?=aa o->(o,i)∈ops.toList.zipIdx:=λi o ho=>by
  rw[axm];simpa using ho
 have Ze:Zg ops:=λj o ho e he sK=>by
  have:=(ht _ (aM j o ho)).1 e he;rw[sK]at this;simpa using this
 have aol:∀i,k<=i->i<ops.size->∀i',i'<i->Bf ops i i':=λi hi cw i' ak=>by
  have:=(ht _ (aM i _ (awF cw))).2;simp only at this;rw[if_neg (by simp;omega)]at this;exact awt.1 this i' (axL.2 ak)
 have hg:∀i o,i<k->ops[i]?=aa o->∀j want,o.guard=aa (j,want)->j<k:=λi o hi ho j want Hh=>by
  have:=(ht _ (aM i o ho)).2;simp only at this;rw[if_pos (by simpa using hi),Hh]at this;simpa using this
 have nY:(ops.extract 0 k).size=k:=by simp;omega
 have yk:∀i,i<k->(ops.extract 0 k)[i]?=ops[i]? :=λi hi=>by
  rw[Array.getElem?_extract];simp;omega
 intro B F Z a w Q hF hi he hd hQ;obtain⟨hB,ids,h1,h2,ku⟩:=hd;refine wpIn_region_any fF ?_
 have hz:∀m i,¬gr (axc m af) i:=by
  intro m i hx;unfold gr at hx;rw[Array.getElem?_replicate]at hx;split at hx<;>cases hx
 have hp:=Kd (ids.map .wT++df) N hn F Z a w (λex a w=>match ex with
  |.normal=>wpOpsIn F 0 P ops Q (axN k (ops.size- k)) a w
  |ex=>Q ex a w) hF hi he h1 (by
   intro a' w' aK ch i1 l1 e1 d1 p1;show wpOpsIn F 0 P ops Q (axN k (ops.size- k)) a' w';have:=h B F aK a' w' Q k rfl (hF.mono l1.ext) i1 e1 ⟨awy hB l1.size,ids,d1,λid hid=>(h2 id hid).step hi l1,ku⟩ (λex e' au hc=>(hQ ex e' au hc).from hi l1 hn);simpa using this)
 rw[nY]at hp
 have:=aie (Q:=Q) (n:=0) Ze hk aol nY yk (haveI:=xX;abj oC) hg (λa w h=>h) (λex a w bg h=>by cases ex<;>first|exact absurd rfl bg|exact h) k (axc k af) (axc ops.size af) a {w with drawn:=w.drawn+1} ay ay
  (λi _=>⟨λh=>absurd h (hz _ i),λh=>absurd h (hz _ i)⟩) (λi _ _=>hz _ i) (λi _ h=>absurd h (hz _ i)) hp
 rwa[show k+(ops.size- k)=ops.size by omega]at this
end
section
variable{P:Program}{N:Nat}{Z:Io}{w:World}{G au:St}{e:Env}{rd:Option Nat}{fn:FuncId}{df:List Df}{CW:kT}{ops:Array Oper}{o:Oper}{l:List Oper}
def aki(t m:Nat)(h:m<1000000):((t+1)*1000000+m) % 1000000=m:=aj
def agv(t m:Nat):1000000<=(t+1)*1000000+m:=aj
def agw{kt:Nat}(h:1000000<=kt)(h0:kt=0):False:=aj
def Hl{kt:Nat}(h:1000000<=kt):mO kt=ab:=by
 unfold mO;rw[awO];exact .inr (by simpa using h)
def Left.init(ds:List IV):Left ds [] ds:=by
 refine⟨ds.zipIdx,by simp,by simp[List.zipIdx_map_snd,List.nodup_range'],λp hp=>⟨?_,by simp⟩,λi hi _=>?_⟩
 .obtain⟨a,b⟩:=p;exact axm.1 hp
 .exact⟨(ds[i],i),axm.2 (av_ hi),rfl⟩
theorem yU{α β:Type}(f:α->β):∀(l:List α) (i:Nat),(l.map f).eraseIdx i=(l.eraseIdx i).map f
 |[],_=>rfl
 |_::_,0=>rfl
 |_::l,i+1=>by simp[yU f l i]
def Left.empty{ds:List IV}{seen:List Nat}{rem:List IV}(h:Left ds seen rem)(hs:∀i,i<ds.length->i∈seen):rem=[]:=by
 obtain⟨ps,rfl,_,h3,_⟩:=h;cases ps with
 |nil=>rfl
 |cons p ps=>
  obtain⟨h1,h2⟩:=h3 p ay;exact absurd (hs _ (awa.1 h1).1) h2
theorem Th{p:Nat->Nat->Prop}:∀(n:Nat),(∀i,i<n->∃b,∀N,b<=N->p i N)->∃b,∀i,i<n->∀N,b<=N->p i N
 |0,_=>⟨0,λi hi=>absurd hi (Nat.not_lt_zero _)⟩
 |n+1,h=>by
  obtain⟨b,hb⟩:=Th n λi hi=>h i aj;obtain⟨c,hc⟩:=h n aj;refine⟨max b c,λi hi N hN=>?_⟩;by_cases he:i=n
  .subst he;exact hc N aj
  .exact hb i aj N aj
def Left.has{ds:List IV}{seen:List Nat}{rem:List IV}(h:Left ds seen rem){i:Nat}(hi:i<ds.length)(hn:i∉seen):∃(j:Nat) (y:IV),rem[j]?=aa y/\ds[i]?=aa y/\Left ds (seen++[i]) (rem.eraseIdx j):=by
 obtain⟨ps,rfl,h2,h3,h4⟩:=h;obtain⟨p,hp,rfl⟩:=h4 i hi hn;obtain⟨j,hj⟩:=ay_.1 hp;refine⟨j,p.1,by simp[hj],(h3 p hp).1,ps.eraseIdx j,by rw[yU],?_,λq hq=>?_,λi hi hn=>?_⟩
 .rw[<-yU];exact h2.sublist (List.eraseIdx_sublist _ _)
 .obtain⟨k,hk,hkq⟩:=azM.1 hq;have rj:=awq hkq;refine⟨(h3 q rj).1,?_⟩;simp only[awm,awo,not_or];refine⟨(h3 q rj).2,λhe=>hk ?_⟩;have a1:(ps.map (·.2))[k]?=aa p.2:=by simp[hkq,he]
  have a2:(ps.map (·.2))[j]?=aa p.2:=by simp[hj]
  have kj:=(awa.1 a1).1;exact(List.getElem?_inj kj h2).1 (a1.trans a2.symm)
 .simp only[awm,awo,not_or]at hn;obtain⟨q,hq,rfl⟩:=h4 i hi hn.1;obtain⟨k,hk⟩:=ay_.1 hq;refine⟨q,azM.2 ⟨k,λhe=>?_,hk⟩,rfl⟩;subst he;rw[hj]at hk;cases hk;exact hn.2 rfl
def NS(n:Nat)(hn:0<n)(w:World):∃i w',i<n/\(choose (.mapNext n)).run P w=.ok i w'/\(w'=w\/w'={w with drawn:=w.drawn+1}):=by
 by_cases h:n<=1
 .exact⟨0,w,hn,by simp[choose,axX,ax7,h],.inl rfl⟩
 .exact⟨w.tape w.drawn (.mapNext n) % n,_,Nat.mod_lt _ hn,by simp[choose,axX,ax7,h,Question.cut],.inr rfl⟩
def Wm{r m:Nat}{res:Array MapEntry}{seen:Array Nat}{n clock:Nat}{t:TypeId}(hh:w.heap[r]?=aa (.mapIter (aa m) n seen n))(Js:w.heap[m]?=aa (.map res clock))(hn:clock=n)(hb:∀e∈res,e.born<n):
 ∃w0,(w0=w\/w0={w with drawn:=w.drawn+1})/\(((∀e∈res,e.born∈seen)/\(ayt (.pointer (aa ⟨r,0,ah⟩)) af t).run P w=.ok (.tuple #[.bool af]) w0)\/
  ∃e∈res,e.born∉seen/\(ayt (.pointer (aa ⟨r,0,ah⟩)) af t).run P w=.ok (.tuple #[.bool ab,e.key,e.val]) {w0 with heap:=w0.heap.setIfInBounds r (.mapIter (aa m) n (seen.push e.born) n)}):=by
 subst hn
 have cn:¬((!seen.isEmpty&& !res.isEmpty&&res.all (λe=>decide (e.born≥clock)))=ab):=by
  intro hc;simp only[awb,Array.all_eq_true_iff_forall_mem,decide_eq_true_eq]at hc;have bg:res.size≠0:=by have:=hc.1.2;simpa using this
  have:=hc.2 (res[0]'aj) ay
  have:=hb (res[0]'aj) ay
  omega
 have hold:∀left:Array MapEntry,(∀e∈left,e∈res)->left.filter (λe=>decide (e.born<clock))=left:=λleft hl=>by
  rw[Array.filter_eq_self];intro a ha;simp[hb a (hl a ha)]
 have gk:∀left:Array MapEntry,(∀e∈left,e∈res)->left.filter (λe=>decide (e.born≥clock))= #[]:=λleft hl=>by
  rw[Array.filter_eq_empty_iff];intro a ha;have:=hb a (hl a ha);simp;omega
 have iG:∀e∈res.filter (λe=> !seen.contains e.born),e∈res:=λe he=>(azF.1 he).1;generalize Rx:res.filter (λe=> !seen.contains e.born)=left at iG;by_cases hl:left= #[]
 .subst hl;refine⟨w,.inl rfl,.inl ⟨λe he=>?_,?_⟩⟩
  .have h1:e∉res.filter (λe=> !seen.contains e.born):=by rw[Rx];simp
   refine aw2 λhn=>h1 (azF.2 ⟨he,?_⟩);simpa using hn
  .simp only[ayt,awn,cX (P:=P) hh ay,awg,cX (P:=P) Js ay];rw[if_neg cn];simp only[awn,Rx,hold #[] iG,gk #[] iG];simp[choose,axX,ax7]
 .have bf:0<(left.map aa).size:=by
   have:left.size≠0:=by simpa using hl
   simp;omega
  obtain⟨c,w0,hc,gN,Xd⟩:=NS (P:=P) (left.map aa).size bf w;have pM:c<left.size:=by simpa using hc
  have qY:left[c]∈left:=by simp
  refine⟨w0,Xd,.inr ⟨left[c],iG _ qY,?_,?_⟩⟩
  .have:left[c]∈res.filter (λe=> !seen.contains e.born):=by rw[Rx];exact qY
   have:=(azF.1 this).2;simpa using this
  .have LC:w0.heap[r]?=aa (.mapIter (aa m) clock seen clock):=by
    rcases Xd with rfl|rfl<;>exact hh
   have Xe:left.isEmpty=af:=by simpa using hl
   simp only[ayt,awn,cX (P:=P) hh ay,awg,cX (P:=P) Js ay];rw[if_neg cn];simp only[awn,Rx,hold left iG,gk left iG,Xe,Bool.false_eq_true,if_false,Array.empty_append,Array.append_empty,gN,awg];have:(left.map aa)[c]?=aa (aa left[c]):=by simp[pM]
   rw[this];simp only[awn,gw (P:=P) LC ay,awg,awz]
def dC.aom{it:Operand}{id m:Nat}{es:List (Value×IV×Nat)}{seen:List Nat}{clock:Nat}(hw:aX o ops e=ab)(ho:o.op=.next it af)(hit:aB e it=.ptr id 0 0 1)
 (aM:G.at id=aa (.kG (aa m) es.length seen es.length))(Su:G.at m=aa (.map es clock))(hc:Canon es clock)(hN:G.n<=N)
 (h0:(∀i,i<es.length->i∈seen)->dC P N rd ops l (e.put o.dst (.aF [.bool af])) df G CW)
 (h1:∀i en,es[i]?=aa en->i∉seen->dC P N rd ops l (e.put o.dst (.aF [.bool ab,lift en.1,en.2.1])) df (G.put id (.kG (aa m) es.length (seen++[i]) es.length)) CW):dC P N rd ops (o::l) e df G CW:=by
 refine .cons hw λB F Z a w Q k hl hF hi he hd hQ=>?_;refine⟨λf _=>hF.fn f,?_⟩;rw[axW _ _ _ (λc hc=>by rw[ho]at hc;cases hc)];have hr:=he.eval it;rw[hit]at hr;generalize hq:a.eval it=q at hr;cases hr with
 |ptr _ _ _ _ lo yf hle=>
  have ak:lo.b<w.heap.size:=hi.gE id _ ⟨_,_,yf,rfl⟩;obtain⟨l',mr,cz,hh,lm,Gs,rfl⟩:=hi.obj id _ aM;rw[yf]at cz;cases cz;obtain⟨lm',res,G0,Js,qw⟩:=hi.obj m _ Su;rw[Gs]at G0;cases G0;have g_:=hc.1
  have Zi:∀(i:Nat) (r:MapEntry),res[i]?=aa r->i<es.length/\r.born=i:=by
   intro i r hr;have cw:i<es.length:=by have:=(aw4.1 hr).1;rw[qw.1];exact this
   exact⟨cw,((qw.2 i es[i] r (av_ cw) hr).2.2).trans (hc.2 i _ (av_ cw))⟩
  have AB:∀r∈res,∃i,res[i]?=aa r:=λr hr=>by
   obtain⟨i,hi,rfl⟩:=Array.mem_iff_getElem.1 hr;exact⟨i,awF hi⟩
  obtain⟨w0,Xd,hZ⟩:=Wm (P:=P) (t:=o.type) hh Js g_ (λr hr=>by
   obtain⟨i,hi⟩:=AB r hr;have:=Zi i r hi;omega)
  have G9:Inv N Z G w0:=by rcases Xd with rfl|rfl;exact hi;exact hi.same rfl
  have aee:Le 0 Z w G Z w0 G:=by rcases Xd with rfl|rfl;exact Le.refl _ _ _ _;exact Le.same rfl rfl rfl rfl
  rcases hZ with⟨bS,gN⟩|⟨r,GA,hrs,gN⟩
  .have hx:(execOp a.eval o).run P w=.ok (.value (.tuple #[.bool af])) w0:=by
    simp only[execOp,ho,hq];simp only[awn,aBG,gN];rfl
   rw[hx,ayZ];refine h0 (λi hi=>?_) B F Z _ w0 Q (k+1) hl hF G9 (he.put (rY (aL.cons (.raw _) aL.nil)) _) (by have:=hd.step hi aee;cases o.dst<;>exact this) (λex e' au hc=>(hQ ex e' au hc).from hi aee hN);have cw:i<res.size:=by rw[<-qw.1];exact hi
   have:=bS res[i] ay;rw[(Zi i res[i] (awF cw)).2]at this;simpa using this
  .obtain⟨i,sL⟩:=AB r GA;obtain⟨yu,Si⟩:=Zi i r sL
   have hx:(execOp a.eval o).run P w=.ok (.value (.tuple #[.bool ab,r.key,r.val])) {w0 with heap:=w0.heap.setIfInBounds lo.b (.mapIter (aa lm.b) es.length (seen.toArray.push r.born) es.length)}:=by
    simp only[execOp,ho,hq];simp only[awn,aBG,gN];rfl
   rw[hx,ayZ];obtain⟨hk,hv,hb⟩:=qw.2 i es[i] r (av_ yu) sL;have vE:lo.b<w0.heap.size:=by rcases Xd with rfl|rfl<;>exact ak
   obtain⟨r1,r2⟩:=G9.wX (ro:=0) (fp:=.kG (aa m) es.length (seen++[i]) es.length) (go:=.mapIter (aa lm.b) es.length (seen.toArray.push r.born) es.length) aM (Nat.zero_le _) yf ⟨lo,aa lm.b,yf,by simp[vE,Si],lm,Gs,rfl⟩;have NT:=Le.then hi hN aee r2;refine h1 i es[i] (av_ yu) (by rw[Si]at hrs;simpa using hrs) B F Z _ _ Q (k+1) hl hF r1 (he.put ?_ _) (by have:=hd.step hi NT;cases o.dst<;>exact this) (λex e' au hc=>(hQ ex e' au hc).from hi NT hN);rw[<-hk];exact rY (aL.cons (.raw _) (aL.cons (Rv.lift _) (aL.cons hv aL.nil)))
end
end Go.Ev
