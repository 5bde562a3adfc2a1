/- Lemmas over the model, without conditions of their own: the ideal machine, and code run on expressions. -/
import Derived.Test.YtabefplkfkfdfaaGreatPAb
open List renaming getElem?_eq_some_iff->ayw,getElem?_eq_getElem->ayv,getElem?_append_left->ayK,getElem?_append_right->ay0,all_eq_true->ayP,getElem?_map->ayR,getElem?_set_ne->aAo,nodup_cons->aAC,range'->az3,drop_drop->aAG,length_cons->ay6,range'_succ->aAX,range->azR,any_eq_true->aB_,mem_filter->azC,mem_cons_of_mem->azA,mem_cons->ayN,mem_range->aAv,foldl_cons->aze,mem_cons_self->aAR,mk_mem_zipIdx_iff_getElem?->az6,getElem_of_mem->aBI,getElem_zipIdx->aBJ,replicate->ayX
open Nat renaming le_trans->ayU,le_refl->ayA,beq->ayI,ble->azD,beq_eq->azc,lt_irrefl->aDR,blt->azp,testBit->ayY,eq_of_beq_eq_true->ayH,le_of_not_lt->aBa,lt_of_not_le->aAM,rec->aBO
open Bool renaming and_eq_true->ayz,or_eq_true->azf,not_eq_true'->azn
open Option renaming map_eq_some_iff->ayG,bind_eq_some_iff->ayV
open Array renaming getElem?_eq_some_iff->azj,replicate->azy,getElem?_toList->aAz,getD_eq_getD_getElem?->azm,getElem?_eq_getElem->ay2
open Go.Fence renaming wide->ay8
open Go.Oper renaming semAt_eq->aAn,uponIn_enter->aB1,uponIn->aDZ
open Option.some renaming injEq->ayB
open List.cons renaming injEq->aAa
open Go.Region renaming binds->azY,ready->azz,wanted->aBy
open Go.Utf8 renaming decode->az_
open Option renaming some->aa,none->ah
open Bool renaming true->ab,false->af
set_option linter.all false
namespace Go.Ev
variable{P:Program}{Y al:St}
abbrev Rs:=Nat->Option Nat
inductive bD(fr:Bool)(R:Rs)(Y:St):IV->IV->Prop
 |raw (v:Value):bD fr R Y (.raw v) (.raw v)
 |nil (s:Nat) (hs:0<s):bD fr R Y (.raw (.slice ah 0 0)) (.tree s [])
 |emp (s:Nat) (hs:0<s):bD fr R Y .emp (.tree s [])
 |dR (t:TypeId) (x y:IV) (h:bD fr R Y x y):bD fr R Y (.dR t x) (.dR t y)
 |agg (cs ds:List IV) (hl:cs.length=ds.length) (h:∀(i:Nat) c d,cs[i]?=aa c->ds[i]?=aa d->bD fr R Y c d):bD fr R Y (.agg cs) (.agg ds)
 |aL (cs ds:List IV) (hl:cs.length=ds.length) (h:∀(i:Nat) c d,cs[i]?=aa c->ds[i]?=aa d->bD fr R Y c d):bD fr R Y (.aL cs) (.aL ds)
 |pure (x:IV) (hf:fr=ab) (hp:Pure x):bD fr R Y x x
 |sl (id off len:Nat) (cap:Option Nat) (ep s m:Nat) (cs:List IV) (aB mn:Nat) (es:List IV) (hR:R id=aa m) (aK:Y.at id=aa (.cells cs aB mn)) (h1:mn<=ep) (h2:ep<=aB) (hs:0<s) (hl:es.length=len)
   (hb:off+len*s<=m) (hm:m<=cs.length)
   (bQ:∀e∈es,(cellsOf e).length=s) (h:∀(i:Nat) e (j:Nat) c d,es[i]?=aa e->(cellsOf e)[j]?=aa d->cs[off+i*s+j]?=aa c->bD fr R Y c d):bD fr R Y (.sl id off len cap ep s) (.tree s es)
theorem bD.can{fr:Bool}{R:Rs}{x z:IV}(h:bD fr R Y x z):Can fr Y x z:=by
 induction h with
 |raw v=>exact .raw v
 |nil s hs=>exact .nil s hs
 |emp s hs=>exact .emp s hs
 |dR t x y _ ih=>exact .dR t x y ih
 |agg cs ds hl _ ih=>exact .agg cs ds hl ih
 |aL cs ds hl _ ih=>exact .aL cs ds hl ih
 |pure x hf hp=>exact .pure x hf hp
 |sl id off len cap ep s m cs aB mn es hR aK h1 h2 hs hl hb hm bQ _ ih=>exact .sl id off len cap ep s cs aB mn es aK h1 h2 hl ai bQ ih
theorem bD.cP{fr:Bool}{R:Rs}{x z:IV}(h:bD fr R Y x z):bD ab R Y x z:=by
 induction h with
 |raw v=>exact .raw v
 |nil s hs=>exact .nil s hs
 |emp s hs=>exact .emp s hs
 |dR t x y _ ih=>exact .dR t x y ih
 |agg cs ds hl _ ih=>exact .agg cs ds hl ih
 |aL cs ds hl _ ih=>exact .aL cs ds hl ih
 |pure x hf hp=>exact .pure x rfl hp
 |sl id off len cap ep s m cs aB mn es hR aK h1 h2 hs hl hb hm bQ _ ih=>exact .sl id off len cap ep s m cs aB mn es hR aK h1 h2 hs hl hb hm bQ ih
theorem bD.wide{fr dF:Bool}{R:Rs}{x z:IV}(h:bD fr R Y x z)(hle:fr=ab->dF=ab):bD dF R Y x z:=by
 cases dF
 .cases fr
  .exact h
  .exact absurd (hle rfl) ax
 .exact h.cP
structure ji(R:Rs)(Y:St)(R':Rs)(al:St):Prop where
 le:∀id m,R id=aa m->∃m',R' id=aa m'/\m<=m'
 tV:∀id m cs aB mn,R id=aa m->Y.at id=aa (.cells cs aB mn)->∃cY kg,al.at id=aa (.cells cY kg mn)/\aB<=kg/\∀j,j<m->cY[j]?=cs[j]?
 fits:∀id m cs aB mn,R' id=aa m->al.at id=aa (.cells cs aB mn)->m<=cs.length
theorem akl{es:List IV}{i s len:Nat}{e d:IV}{j:Nat}(he:es[i]?=aa e)(hd:(cellsOf e)[j]?=aa d)(bQ:∀e∈es,(cellsOf e).length=s)(hl:es.length=len):i*s+j<len*s:=by
 have hi:=(ayw.1 he).1;have hj:j<s:=by have:=(ayw.1 hd).1;rw[bQ e (List.mem_of_getElem? he)]at this;exact this
 have:(i+1)*s<=es.length*s:=Nat.mul_le_mul_right s hi;rw[Nat.add_mul,hl]at this;omega
theorem bD.mono{fr:Bool}{R R':Rs}(hg:ji R Y R' al){x z:IV}(h:bD fr R Y x z):bD fr R' al x z:=by
 induction h with
 |raw v=>exact .raw v
 |nil s hs=>exact .nil s hs
 |emp s hs=>exact .emp s hs
 |dR t x y _ ih=>exact .dR t x y ih
 |agg cs ds hl _ ih=>exact .agg cs ds hl ih
 |aL cs ds hl _ ih=>exact .aL cs ds hl ih
 |pure x hf hp=>exact .pure x hf hp
 |sl id off len cap ep s m cs aB mn es hRi aK h1 h2 hs hl hb hm bQ _ ih=>
  obtain⟨cY,kg,SN,hle,By⟩:=hg.tV id m cs aB mn hRi aK;obtain⟨m',SO,hmm⟩:=hg.le id m hRi;refine .sl id off len cap ep s m' cY kg mn es SO SN h1 (ayU h2 hle) hs hl (ayU hb hmm) (hg.fits id m' cY kg mn SO SN) bQ λi e j c d he hd hc=>?_;have:=akl he hd bQ hl;rw[By _ ai]at hc;exact ih i e j c d he hd hc
theorem ji.refl{R:Rs}(hf:∀id m cs aB mn,R id=aa m->Y.at id=aa (.cells cs aB mn)->m<=cs.length):ji R Y R Y:=
 ⟨λ_ m h=>⟨m,h,ayA _⟩,λ_ _ cs aB _ _ h=>⟨cs,aB,h,ayA _,λ_ _=>rfl⟩,hf⟩
def All2{O β:Type}(r:O->β->Prop):List O->List β->Prop
 |[],[]=>True
 |a::as,b::bs=>r a b/\All2 r as bs
 |_,_=>False
namespace All2
variable{O β:Type}{r r':O->β->Prop}
theorem len:∀{as:List O} {bs:List β},All2 r as bs->as.length=bs.length
 |[],[],_=>rfl
 |_::_,_::_,h=>by simp[len h.2]
 |[],_::_,h=>h.elim
 |_::_,[],h=>h.elim
theorem get:∀{as:List O} {bs:List β},All2 r as bs->∀{i:Nat} {a:O} {b:β},as[i]?=aa a->bs[i]?=aa b->r a b
 |[],[],_,i,a,b,h1,_=>by simp at h1
 |_::as,_::bs,h,i,a,b,h1,h2=>by
  cases i with
  |zero=>simp at h1 h2;subst h1 h2;exact h.1
  |succ i=>simp at h1 h2;exact get h.2 h1 h2
 |[],_::_,h,_,_,_,_,_=>h.elim
 |_::_,[],h,_,_,_,_,_=>h.elim
theorem Db{as:List O}{bs:List β}(h:All2 r as bs){i:Nat}{b:β}(hb:bs[i]?=aa b):∃a,as[i]?=aa a/\r a b:=by
 have hi:i<as.length:=by have:=(ayw.1 hb).1;rw[h.len];exact this
 exact⟨_,ayv hi,h.get (ayv hi) hb⟩
theorem mk:∀{as:List O} {bs:List β},as.length=bs.length->(∀(i:Nat) a b,as[i]?=aa a->bs[i]?=aa b->r a b)->All2 r as bs
 |[],[],_,_=>trivial
 |a::as,b::bs,hl,h=>⟨h 0 a b rfl rfl,mk (by simpa using hl) λi a b h1 h2=>h (i+1) a b (by simpa using h1) (by simpa using h2)⟩
 |[],_::_,hl,_=>by simp at hl
 |_::_,[],hl,_=>by simp at hl
theorem mono(hr:∀a b,r a b->r' a b):∀{as:List O} {bs:List β},All2 r as bs->All2 r' as bs
 |[],[],_=>trivial
 |_::_,_::_,h=>⟨hr _ _ h.1,mono hr h.2⟩
 |[],_::_,h=>h.elim
 |_::_,[],h=>h.elim
theorem zX:∀{as:List O} {bs:List β},(∀a b,b∈bs->r a b->r' a b)->All2 r as bs->All2 r' as bs
 |[],[],_,_=>trivial
 |_::_,_::_,hr,h=>⟨hr _ _ ax h.1,zX (λa b hb=>hr a b (by simp[hb])) h.2⟩
 |[],_::_,_,h=>h.elim
 |_::_,[],_,h=>h.elim
theorem app{as as':List O}{bs bs':List β}(h:All2 r as bs)(k:All2 r as' bs'):All2 r (as++as') (bs++bs'):=by
 refine mk (by simp[h.len,k.len]) λi a b h1 h2=>?_;by_cases hi:i<as.length
 .rw[ayK hi]at h1;rw[ayK (h.len▸hi)]at h2;exact h.get h1 h2
 .rw[ay0 ai]at h1;rw[ay0 (by have:=h.len;omega),<-h.len]at h2;exact k.get h1 h2
theorem take(n:Nat){as:List O}{bs:List β}(h:All2 r as bs):All2 r (as.take n) (bs.take n):=by
 refine mk (by simp[h.len]) λi a b h1 h2=>?_;rw[List.getElem?_take]at h1 h2;split at h1
 .rename_i hi;rw[if_pos hi]at h2;exact h.get h1 h2
 .cases h1
theorem drop(n:Nat){as:List O}{bs:List β}(h:All2 r as bs):All2 r (as.drop n) (bs.drop n):=
 mk (by simp[h.len]) λi a b h1 h2=>h.get (i:=n+i) (by simpa using h1) (by simpa using h2)
theorem map{γ:Type}{f:β->γ}{q:O->γ->Prop}(hf:∀a b,r a b->q a (f b)):∀{as:List O} {bs:List β},All2 r as bs->All2 q as (bs.map f)
 |[],[],_=>trivial
 |_::_,_::_,h=>⟨hf _ _ h.1,map hf h.2⟩
 |[],_::_,h=>h.elim
 |_::_,[],h=>h.elim
end All2
inductive Cl(O:Type) where
 |un
 |v (z:O)
 |w (fr:Bool) (z:O)
 |pt (k off ext:Nat)
 |tp (cs:List O)
 |tw (fr:Bool) (cs:List O)
 |sr (k:Nat)
 |sv (k:Nat) (lo:O)
 |pr (k:Nat) (i:O) (off ext:Nat)
 |mp (k:Nat)
 |nl (b:Bool) (s:Nat)
 |fn (f:FuncId) (bs:List (Nat×Nat))
 |yl (k:Nat)
 deriving Inhabited
inductive PV(O:Type) where
 |one (x:Cl O)
 |ag (cs:List (Cl O))
 |tu (vs:List (Bool×List (Cl O)))
 deriving Inhabited
inductive LO(O:Type) where
 |var (cs:List (Cl O))
 |row (s:Nat) (st cut fr:Bool) (es:O)
 |mp (kt:TypeId) (es:O)
 |lp (c st:Nat) (snap:List (Nat×PV O))
 |dead
structure agr where
 ps:List Tmp
 gy:Code
 bd:Code
 n:Nat
abbrev Cs:=List agr
def Cl.qN{O:Type}:Cl O->Bool
 |.sr _|.sv _ _|.pr _ _ _ _=>af
 |_=>ab
def PV.qN{O:Type}:PV O->Bool
 |.one c=>c.qN
 |.ag cs=>cs.all Cl.qN
 |.tu vs=>vs.all λp=>p.2.all Cl.qN
def ZD(st:Nat)(s:LoopState)(p:Option Code):Prop:=
 match st with
 |0=>s=.ready/\p=ah
 |1=>s=.busy/\p=ah
 |2=>s≠.busy/\p=aa .ret
 |3=>s≠.busy/\p=ah
 |i+4=>s≠.busy/\p=aa (.exit i)
abbrev Ph:=Nat->Option Nat
def Nv(X:Ph)(Y:St)(k s:Nat)(cut:Bool)(lo len:Nat)(x:IV):Prop:=
 (X k=ah/\len=0/\(x=.raw (.slice ah 0 0)\/x=.emp))\/
 ∃id cs aB mn cap,X k=aa id/\Y.at id=aa (.cells cs aB mn)/\x=.sl id (lo*s) (len- lo) cap aB s/\lo<=len/\(cap=ah->cut=af->len*s=cs.length)/\
  ∀c,cap=aa c->mn=aB/\lo*s+c*s<=cs.length/\len- lo<=c
abbrev jj:IV->IV->Prop:=bD ab (λ_=>ah) ⟨0,.lf⟩
def nat?:IV->Option Nat
 |.raw (.int _ n)=>if 0<=n then aa n.toNat else ah
 |_=>ah
def sS(kt:Nat):Bool:=ayI kt 0||azD 1000000 kt
section ev
variable{O:Type}(Cx:Cs)(ev:O->Option IV)
def cZ(R:Rs)(X:Ph)(L:List (LO O))(Y:St)(x:IV):Cl O->Prop
 |.un=>True
 |.v z=>∃y,ev z=aa y/\jj x y/\ao y=ab
 |.w fr z=>∃y,ev z=aa y/\bD fr R Y x y/\ao y=ab
 |.pt k off ext=>∃id cs,X k=aa id/\L[k]?=aa (.var cs)/\x=.ptr id off 0 ext
 |.tp cs=>∃ds,x=.m5 ds/\All2 (λd c=>∃y,ev c=aa y/\jj d y/\ao y=ab) ds cs
 |.tw fr cs=>(∀c∈cs,∃y,ev c=aa y/\ao y=ab)/\((fr=ab/\∃ds,x=.m5 ds/\All2 (λd c=>∃y,ev c=aa y/\jj d y) ds cs)\/
   ∃id off ep m c7 aB mn,R id=aa m/\Y.at id=aa (.cells c7 aB mn)/\mn<=ep/\ep<=aB/\x=.ptr id off ep cs.length/\off+cs.length<=m/\m<=c7.length/\
    ∀(j:Nat) c d,cs[j]?=aa d->c7[off+j]?=aa c->∃y,ev d=aa y/\bD fr R Y c y)
 |.sr k=>∃s st cut fr z es,L[k]?=aa (.row s st cut fr z)/\ev z=aa (.tree s es)/\Nv X Y k s cut 0 es.length x
 |.sv k lo=>∃s st cut fr z es y n,L[k]?=aa (.row s st cut fr z)/\ev z=aa (.tree s es)/\ev lo=aa y/\nat? y=aa n/\n<=es.length/\(Nv X Y k s cut n es.length x\/(n=es.length/\x=.emp))
 |.pr k i off ext=>∃s st cut fr z es y n id cs aB mn,L[k]?=aa (.row s st cut fr z)/\ev z=aa (.tree s es)/\ev i=aa y/\nat? y=aa n/\n<es.length/\off+ext<=s/\X k=aa id/\Y.at id=aa (.cells cs aB mn)/\x=.ptr id (n*s+off) aB ext
 |.mp k=>∃id kt es,X k=aa id/\L[k]?=aa (.mp kt es)/\x=if sS kt=ab then .ptr id 0 0 1 else .map id
 |.nl b s=>0<s/\x=if b then .raw (.slice ah 0 0)else .emp
 |.yl k=>∃id c st snap,X k=aa id/\L[k]?=aa (.lp c st snap)/\x=.r8 id
 |.fn f bs=>(bs=[]/\x=.raw (.func (.func f) #[] #[]))\/∃ys,x=.fn (.func f) [] ys/\All2 (λy (p:Nat×Nat)=>∃id cs,X p.1=aa id/\L[p.1]?=aa (.var cs)/\y=.ptr id 0 0 p.2) ys bs
def wA(R:Rs)(X:Ph)(L:List (LO O))(Y:St)(x:IV)(p:Bool×List (Cl O)):Prop:=
 if p.1 then∃xs,x=.agg xs/\All2 (cZ ev R X L Y) xs p.2 else∃c,p.2=[c]/\cZ ev R X L Y x c
def VR(R:Rs)(X:Ph)(L:List (LO O))(Y:St)(x:IV):PV O->Prop
 |.one c=>cZ ev R X L Y x c
 |.ag cs=>∃xs,x=.agg xs/\All2 (cZ ev R X L Y) xs cs
 |.tu vs=>∃xs,x=.aL xs/\All2 (wA ev R X L Y) xs vs
def flat(es:List IV):List IV:=es.flatMap cellsOf
def E3(R:Rs)(Y:St)(es:List (Value×IV×Nat))(ds:List IV):Prop:=
 All2 (λ(e:Value×IV×Nat) d=>∃z,d=.aL [lift e.1,z]/\bD ab R Y e.2.1 z) es ds
def Canon(es:List (Value×IV×Nat))(clock:Nat):Prop:=clock=es.length/\∀(i:Nat) (e:Value×IV×Nat),es[i]?=aa e->e.2.2=i
theorem Canon.app{es:List (Value×IV×Nat)}{clock:Nat}(h:Canon es clock)(k:Value)(x:IV):Canon (es++[(k,x,clock)]) (clock+1):=by
 refine⟨by simp[h.1],λi e he=>?_⟩;by_cases hi:i<es.length
 .rw[ayK hi]at he;exact h.2 i e he
 .rw[ay0 ai]at he
  have h0:i- es.length=0:=by
   have:=(ayw.1 he).1;simp at this;omega
  rw[h0]at he;simp at he;subst he;have:=h.1;show clock=i;omega
theorem Canon.set{es:List (Value×IV×Nat)}{clock q:Nat}{e:Value×IV×Nat}(h:Canon es clock)(hq:es[q]?=aa e)(k:Value)(x:IV):Canon (es.set q (k,x,e.2.2)) clock:=by
 refine⟨by simp[h.1],λi e' he=>?_⟩;rw[List.getElem?_set]at he;split at he
 .rename_i hh;subst hh;split at he
  .cases he;exact h.2 q e hq
  .cases he
 .exact h.2 i e' he
def OIt(R:Rs)(X:Ph)(L:List (LO O))(Y:St)(k:Nat)(kt:Nat)(z:O):Prop:=
 (kt=0/\∃id ba p,ev z=aa (.aL [.raw (.string ba),.raw (.int .i64 (p:Nat))])/\X k=aa id/\R id=ah/\Y.at id=aa (.ri ba p))
def OR(R:Rs)(X:Ph)(L:List (LO O))(Y:St)(k:Nat):LO O->Prop
 |.var cs=>∃id c7,X k=aa id/\R id=ah/\Y.at id=aa (.cells c7 0 0)/\All2 (cZ ev R X L Y) c7 cs
 |.row s st cut fr z=>0<s/\∃es,ev z=aa (.tree s es)/\(∀e∈es,(cellsOf e).length=s)/\
   ((X k=ah/\es=[])\/∃id cs aB mn,X k=aa id/\Y.at id=aa (.cells cs aB mn)/\mn<=aB/\es.length*s<=cs.length/\R id=(if st then aa (es.length*s)else ah)/\
     cs.all ao=ab/\∀(j:Nat) x d,cs[j]?=aa x->(flat es)[j]?=aa d->bD fr R Y x d)
 |.mp kt z=>if sS kt=ab then OIt ev R X L Y k kt z
  else∃id es clock ds,ev z=aa (.aL ds)/\X k=aa id/\R id=ah/\Y.at id=aa (.map es clock)/\E3 R Y es ds/\Canon es clock
 |.lp c st snap=>∃id rc tm fV s p f,X k=aa id/\R id=ah/\(st<2->Cx[c]?=aa rc)/\Y.at id=aa (.loop s p f tm rc.n rc.ps rc.gy rc.bd fV)/\ZD st s p/\
   ∀q∈snap,q.2.qN=ab/\VR ev R X L Y ((⟨rc.n,tm⟩:Env).at q.1) q.2
 |.dead=>True
theorem ti{Cx:Cs}{R:Rs}{X:Ph}{L:List (LO O)}{Y:St}{k:Nat}{kt:TypeId}{z:O}:OR Cx ev R X L Y k (.mp kt z)=if sS kt=ab then OIt ev R X L Y k kt z
 else∃id es clock ds,ev z=aa (.aL ds)/\X k=aa id/\R id=ah/\Y.at id=aa (.map es clock)/\E3 R Y es ds/\Canon es clock:=rfl
abbrev Gm(O:Type):=List (Nat×Nat×PV O)
def cN(d t:Nat):List (Nat×Nat×PV O)->Option (PV O)
 |[]=>ah
 |(d',t',pv)::g=>if(ayI d d'&&ayI t t')=ab then aa pv else cN d t g
structure J(R:Rs)(X:Ph)(Γ:Gm O)(L:List (LO O))(E:Nat->Env)(Y:St):Prop where
 slot:∀d t pv,cN d t Γ=aa pv->VR ev R X L Y ((E d).at t) pv
 obj:∀k ob,L[k]?=aa ob->OR Cx ev R X L Y k ob
 inj:∀k k' id,X k=aa id->X k'=aa id->k=k'
 lt:∀k id,X k=aa id->k<L.length/\id<Y.n
 qO:∀id m,R id=aa m->id<Y.n
 fits:∀id m cs aB mn,R id=aa m->Y.at id=aa (.cells cs aB mn)->m<=cs.length
 wf:Y.t.WF
 top:∀id,Y.n<=id->Y.at id=ah
structure la(ev jX:O->Option IV)(R:Rs)(X:Ph)(L:List (LO O))(Y:St)(R':Rs)(aN:Ph)(L':List (LO O))(al:St)(bad:Nat->Prop):Prop where
 up:∀e z,ev e=aa z->jX e=aa z
 grow:ji R Y R' al
 var:∀k cs,L[k]?=aa (.var cs)->(∃cY,L'[k]?=aa (.var cY))/\aN k=X k
 map:∀k kt es,L[k]?=aa (.mp kt es)->(∃aQ,L'[k]?=aa (.mp kt aQ))/\aN k=X k
 row:∀k s st cut fr z,L[k]?=aa (.row s st cut fr z)->¬bad k->(∃dE dF z',L'[k]?=aa (.row s dE cut dF z')/\∀es,ev z=aa (.tree s es)->∃aQ,jX z'=aa (.tree s aQ)/\aQ.length=es.length)/\aN k=X k/\
  ∀id cs aB mn,X k=aa id->Y.at id=aa (.cells cs aB mn)->∃cY si,al.at id=aa (.cells cY aB si)/\cY.length=cs.length/\(mn=aB->si=aB)
 lp:∀k c st snap,L[k]?=aa (.lp c st snap)->(∃c' dE zk,L'[k]?=aa (.lp c' dE zk))/\aN k=X k
end ev
variable{O:Type}{Cx:Cs}{ev jX:O->Option IV}
def Cl.ok(bad:Nat->Prop):Cl O->Prop
 |.sr k|.sv k _|.pr k _ _ _=>¬bad k
 |_=>True
theorem Cl.yk{bad:Nat->Prop}{c:Cl O}(h:c.qN=ab):c.ok bad:=by cases c<;>first|trivial|cases h
variable{R R':Rs}{X aN:Ph}{L L':List (LO O)}{bad:Nat->Prop}
theorem la.mk'(h0:∀e z,ev e=aa z->jX e=aa z)(h1:ji R Y R' al)(h2:∀k cs,L[k]?=aa (.var cs)->(∃cY,L'[k]?=aa (.var cY))/\aN k=X k)
 (h3:∀k kt es,L[k]?=aa (.mp kt es)->(∃aQ,L'[k]?=aa (.mp kt aQ))/\aN k=X k)
 (h4:∀k s st cut fr z,L[k]?=aa (.row s st cut fr z)->¬bad k->(∃dE,L'[k]?=aa (.row s dE cut fr z))/\aN k=X k/\∀id,X k=aa id->al.at id=Y.at id)
 (h5:∀k c st snap,L[k]?=aa (.lp c st snap)->(∃c' dE zk,L'[k]?=aa (.lp c' dE zk))/\aN k=X k):la ev jX R X L Y R' aN L' al bad:=
 ⟨h0,h1,h2,h3,λk s st cut fr z hk hb=>by
  obtain⟨⟨dE,a⟩,b,c⟩:=h4 k s st cut fr z hk hb;exact⟨⟨dE,fr,z,a,λes he=>⟨es,h0 _ _ he,rfl⟩⟩,b,λid cs aB mn hid aK=>⟨cs,mn,by rw[c id hid];exact aK,rfl,λh=>h⟩⟩,h5⟩
theorem Nv.step{k s lo len:Nat}{cut:Bool}{x:IV}(h1:aN k=X k)(h2:∀id cs aB mn,X k=aa id->Y.at id=aa (.cells cs aB mn)->∃cY si,al.at id=aa (.cells cY aB si)/\cY.length=cs.length/\(mn=aB->si=aB))
 (h:Nv X Y k s cut lo len x):Nv aN al k s cut lo len x:=by
 rcases h with⟨a,b,c⟩|⟨id,cs,aB,mn,cap,a,b,c,d,e,f⟩
 .exact .inl ⟨by rw[h1];exact a,b,c⟩
 .obtain⟨cY,si,g1,g2,g3⟩:=h2 id cs aB mn a b;exact .inr ⟨id,cY,aB,si,cap,by rw[h1];exact a,g1,c,d,λx y=>by rw[g2];exact e x y,λc hc=>by rw[g2];exact⟨g3 (f c hc).1,(f c hc).2⟩⟩
theorem cZ.step(hs:la ev jX R X L Y R' aN L' al bad){x:IV}{c:Cl O}(bu:c.ok bad)(h:cZ ev R X L Y x c):cZ jX R' aN L' al x c:=by
 cases c with
 |un=>trivial
 |v z=>obtain⟨y,h1,h2⟩:=h;exact⟨y,hs.up _ _ h1,h2⟩
 |w fr z=>obtain⟨y,h1,h2,h3⟩:=h;exact⟨y,hs.up _ _ h1,h2.mono hs.grow,h3⟩
 |pt k off ext=>
  obtain⟨id,cs,h1,h2,h3⟩:=h;obtain⟨⟨cY,h4⟩,h5⟩:=hs.var k cs h2;exact⟨id,cY,by rw[h5];exact h1,h4,h3⟩
 |tp cs=>
  obtain⟨ds,h1,h2⟩:=h;exact⟨ds,h1,h2.mono λd c ⟨y,h3,h4⟩=>⟨y,hs.up _ _ h3,h4⟩⟩
 |tw fr cs=>
  obtain⟨h0,h|⟨id,off,ep,m,c7,aB,mn,h1,h2,h3,h4,h5,h6,h7,h8⟩⟩:=h
  .obtain⟨hf,ds,h1,h2⟩:=h;exact⟨λc hc=>(h0 c hc).imp λy hy=>⟨hs.up _ _ hy.1,hy.2⟩,.inl ⟨hf,ds,h1,h2.mono λd c ⟨y,h3,h4⟩=>⟨y,hs.up _ _ h3,h4⟩⟩⟩
  .obtain⟨cY,kg,SN,hle,By⟩:=hs.grow.tV id m c7 aB mn h1 h2;obtain⟨m',SO,hmm⟩:=hs.grow.le id m h1;refine⟨λc hc=>(h0 c hc).imp λy hy=>⟨hs.up _ _ hy.1,hy.2⟩,.inr ⟨id,off,ep,m',cY,kg,mn,SO,SN,h3,ayU h4 hle,h5,by omega,hs.grow.fits id m' cY kg mn SO SN,λj c d hd hc=>?_⟩⟩;have hj:=(ayw.1 hd).1;rw[By _ ai]at hc;obtain⟨y,AA,sU⟩:=h8 j c d hd hc;exact⟨y,hs.up _ _ AA,sU.mono hs.grow⟩
 |sr k=>
  obtain⟨s,st,cut,fr,z,es,h1,he,h2⟩:=h;obtain⟨⟨dE,dF,z',h3,h6⟩,h4,h5⟩:=hs.row k _ _ _ _ _ h1 bu;obtain⟨aQ,h7,h8⟩:=h6 es he;exact⟨s,dE,cut,dF,z',aQ,h3,h7,h8▸h2.step h4 h5⟩
 |sv k lo=>
  obtain⟨s,st,cut,fr,z,es,y,n,h1,he,hy,hn,hl,h2⟩:=h;obtain⟨⟨dE,dF,z',h3,h6⟩,h4,h5⟩:=hs.row k _ _ _ _ _ h1 bu;obtain⟨aQ,h7,h8⟩:=h6 es he;exact⟨s,dE,cut,dF,z',aQ,y,n,h3,h7,hs.up _ _ hy,hn,by omega,h2.elim (λh2=>.inl (h8▸h2.step h4 h5)) (λh2=>.inr ⟨by omega,h2.2⟩)⟩
 |pr k i off ext=>
  obtain⟨s,st,cut,fr,z,es,y,n,id,cs,aB,mn,h1,he,hy,hn,hl,hx,h6,h7,h8⟩:=h;obtain⟨⟨dE,dF,z',h3,h9⟩,h4,h5⟩:=hs.row k _ _ _ _ _ h1 bu;obtain⟨aQ,Hi,Hj⟩:=h9 es he;obtain⟨cY,si,g1,g2,g3⟩:=h5 id cs aB mn h6 h7;exact⟨s,dE,cut,dF,z',aQ,y,n,id,cY,aB,si,h3,Hi,hs.up _ _ hy,hn,by omega,hx,by rw[h4];exact h6,g1,h8⟩
 |mp k=>
  obtain⟨id,kt,es,h1,h2,h3⟩:=h;obtain⟨⟨aQ,h4⟩,h5⟩:=hs.map k kt es h2;exact⟨id,kt,aQ,by rw[h5];exact h1,h4,h3⟩
 |nl b s=>exact h
 |yl k=>
  obtain⟨id,c,st,snap,h1,h2,h3⟩:=h;obtain⟨⟨c',dE,zk,h4⟩,h5⟩:=hs.lp k c st snap h2;exact⟨id,c',dE,zk,by rw[h5];exact h1,h4,h3⟩
 |fn f bs=>
  rcases h with h|⟨ys,h1,h2⟩
  .exact .inl h
  .refine .inr ⟨ys,h1,h2.mono λy p ⟨id,cs,h3,h4,h5⟩=>?_⟩;obtain⟨⟨cY,h6⟩,h7⟩:=hs.var p.1 cs h4;exact⟨id,cY,by rw[h7];exact h3,h6,h5⟩
def PV.ok(bad:Nat->Prop):PV O->Prop
 |.one c=>c.ok bad
 |.ag cs=>∀c∈cs,c.ok bad
 |.tu vs=>∀p∈vs,∀c∈p.2,c.ok bad
theorem VR.step(hs:la ev jX R X L Y R' aN L' al bad){x:IV}{c:PV O}(bu:c.ok bad)(h:VR ev R X L Y x c):VR jX R' aN L' al x c:=by
 cases c with
 |one c=>exact cZ.step hs bu h
 |ag cs=>
  obtain⟨xs,h1,h2⟩:=h;exact⟨xs,h1,h2.zX λa b hb cn=>cZ.step hs (bu b hb) cn⟩
 |tu vs=>
  obtain⟨xs,h1,h2⟩:=h;refine⟨xs,h1,h2.zX λa p hp cn=>?_⟩;unfold wA at cn⊢;split at cn
  .rename_i hb;rw[if_pos hb];obtain⟨ys,h3,h4⟩:=cn;exact⟨ys,h3,h4.zX λa b hb cn=>cZ.step hs (bu p hp b hb) cn⟩
  .rename_i hb;rw[if_neg hb];obtain⟨c,h3,h4⟩:=cn;exact⟨c,h3,cZ.step hs (bu p hp c (by rw[h3];simp)) h4⟩
theorem PV.yk{bad:Nat->Prop}{p:PV O}(h:p.qN=ab):p.ok bad:=by
 cases p with
 |one c=>exact Cl.yk h
 |ag cs=>exactλc hc=>Cl.yk (ayP.1 h c hc)
 |tu vs=>exactλp hp c hc=>Cl.yk (ayP.1 (ayP.1 h p hp) c hc)
def LO.ok(bad:Nat->Prop):LO O->Prop
 |.var cs=>∀c∈cs,c.ok bad
 |_=>True
theorem OR.step(hs:la ev jX R X L Y R' aN L' al bad){k:Nat}{o:LO O}(my:aN k=X k)(aK:∀id,X k=aa id->al.at id=Y.at id/\R' id=R id)(bu:o.ok bad)(h:OR Cx ev R X L Y k o):OR Cx jX R' aN L' al k o:=by
 cases o with
 |var cs=>
  obtain⟨id,c7,h1,h2,h3,h4⟩:=h;obtain⟨h6,h7⟩:=aK id h1;exact⟨id,c7,by rw[my];exact h1,by rw[h7];exact h2,by rw[h6];exact h3,h4.zX λa b hb cn=>cZ.step hs (bu b hb) cn⟩
 |row s st cut fr z=>
  obtain⟨h1,es,h2,h3,h4⟩:=h;refine⟨h1,es,hs.up _ _ h2,h3,?_⟩;rcases h4 with⟨h4,h5⟩|⟨id,cs,aB,mn,h4,h5,h6,h7,h8,h9,Hi⟩
  .exact .inl ⟨by rw[my];exact h4,h5⟩
  .obtain⟨ha,hb⟩:=aK id h4;exact .inr ⟨id,cs,aB,mn,by rw[my];exact h4,by rw[ha];exact h5,h6,h7,by rw[hb];exact h8,h9,λj x d hx hd=>(Hi j x d hx hd).mono hs.grow⟩
 |mp kt z=>
  rw[ti]at h⊢;by_cases hk:sS kt=ab
  .rw[if_pos hk]at h⊢;obtain⟨h0,id,ba,p,h1,h2,h3,h4⟩:=h
   .obtain⟨h6,h7⟩:=aK id h2;exact⟨h0,id,ba,p,hs.up _ _ h1,by rw[my];exact h2,by rw[h7];exact h3,by rw[h6];exact h4⟩
  .rw[if_neg hk]at h⊢;obtain⟨id,es,clock,ds,h1,h2,h3,h4,h5⟩:=h;obtain⟨h6,h7⟩:=aK id h2;exact⟨id,es,clock,ds,hs.up _ _ h1,by rw[my];exact h2,by rw[h7];exact h3,by rw[h6];exact h4,h5.1.mono λa d ⟨z,h8,h9⟩=>⟨z,h8,h9.mono hs.grow⟩,h5.2⟩
 |lp c st snap=>
  obtain⟨id,rc,tm,fV,s,p,f,h1,h2,h3,h4,h5,h6⟩:=h;obtain⟨h7,h8⟩:=aK id h1;exact⟨id,rc,tm,fV,s,p,f,by rw[my];exact h1,by rw[h8];exact h2,h3,by rw[h7];exact h4,h5,λq hq=>⟨(h6 q hq).1,(h6 q hq).2.step hs (PV.yk (h6 q hq).1)⟩⟩
 |dead=>trivial
variable{Γ Jy:Gm O}{E:Nat->Env}
def ly(E:Nat->Env)(d:Nat)(e:Env):Nat->Env:=λj=>if j=d then e else E j
@[simp] theorem bO(E:Nat->Env)(d:Nat)(e:Env):ly E d e d=e:=by simp[ly]
theorem abV(E:Nat->Env)(d:Nat)(e e':Env):ly (ly E d e) d e'=ly E d e':=by
 funext j;unfold ly;split<;>rfl
def E4(d t:Nat):List (Nat×Nat×PV O)->List (Nat×Nat×PV O)
 |[]=>[]
 |(d',t',pv)::g=>if(ayI d d'&&ayI t t')=ab then E4 d t g else(d',t',pv)::E4 d t g
theorem Km{d t d' t':Nat}{pv:PV O}:∀(g:List (Nat×Nat×PV O)),cN d' t' (E4 d t g)=aa pv->¬(d'=d/\t'=t)/\cN d' t' g=aa pv:=by
 intro g;induction g with
 |nil=>intro h;cases h
 |cons p g ih=>
  obtain⟨a,b,q⟩:=p;intro h;unfold E4 at h;split at h
  .rename_i cn;simp only[ayz,azc]at cn;obtain⟨h1,h2⟩:=ih h;refine⟨h1,?_⟩;unfold cN;rw[if_neg]
   .exact h2
   .simp only[ayz,azc];rintro⟨rfl,rfl⟩;exact h1 ⟨cn.1.symm,cn.2.symm⟩
  .rename_i cn;simp only[ayz,azc]at cn;unfold cN at h⊢;split at h
   .rename_i hc;rw[if_pos hc];simp only[ayz,azc]at hc;obtain⟨rfl,rfl⟩:=hc;exact⟨λhh=>cn ⟨hh.1.symm,hh.2.symm⟩,h⟩
   .rename_i hc;rw[if_neg hc];exact ih h
def Nw(d t:Nat)(pv:PV O)(g:List (Nat×Nat×PV O)):List (Nat×Nat×PV O):=(d,t,pv)::E4 d t g
theorem l9{d t a b:Nat}{q pv:PV O}{g:List (Nat×Nat×PV O)}(h:cN d t ((a,b,q)::g)=aa pv):(d=a/\t=b/\pv=q)\/(¬(d=a/\t=b)/\cN d t g=aa pv):=by
 unfold cN at h;split at h
 .rename_i hc;simp only[ayz,azc]at hc;cases h;exact .inl ⟨hc.1,hc.2,rfl⟩
 .rename_i hc;simp only[ayz,azc]at hc;exact .inr ⟨hc,h⟩
theorem GK(e:Env)(dst:Option Nat)(x:IV)(t:Nat)(h:dst≠aa t):(e.put dst x).at t=e.at t:=by
 cases dst with
 |none=>rfl
 |some d=>rw[Env.dv,if_neg (λhc=>h (by rw[hc.2]))]
theorem J.ZE(h:J Cx ev R X Γ L E Y)(d:Nat)(dst:Option Nat)(x:IV)(fN:∀t,dst=aa t->Jy=E4 d t Γ)(hn:dst=ah->Jy=Γ):J Cx ev R X Jy L (ly E d ((E d).put dst x)) Y:=by
 refine{h with slot:=λd' t' pv hg=>?_}
 have hold:¬(d'=d/\dst=aa t')/\cN d' t' Γ=aa pv:=by
  cases hd:dst with
  |none=>rw[hn hd]at hg;exact⟨λhh=>(by cases hh.2),hg⟩
  |some t=>
   rw[fN t hd]at hg;obtain⟨h1,h2⟩:=Km Γ hg;exact⟨λhh=>h1 ⟨hh.1,(by injection hh.2 with hh;exact hh.symm)⟩,h2⟩
 have:=h.slot d' t' pv hold.2;unfold ly;split
 .rename_i hd;subst hd;rw[GK _ _ _ _ (λhh=>hold.1 ⟨rfl,hh⟩)];exact this
 .exact this
theorem J.put(h:J Cx ev R X Γ L E Y)(d:Nat){t:Nat}(ht:t<(E d).n){x:IV}{pv:PV O}(hx:VR ev R X L Y x pv):J Cx ev R X (Nw d t pv Γ) L (ly E d ((E d).put (aa t) x)) Y:=by
 have hb:=h.ZE (Jy:=E4 d t Γ) d (aa t) x (λt' h=>by cases h;rfl) (λh=>by cases h);refine{hb with slot:=λd' t' GL hg=>?_};rcases l9 hg with⟨rfl,rfl,rfl⟩|⟨_,h2⟩
 .rw[bO,Env.dv,if_pos ⟨ht,rfl⟩];exact hx
 .exact hb.slot d' t' GL h2
theorem J.less(h:J Cx ev R X Γ L E Y)(hs:∀d t pv,cN d t Jy=aa pv->cN d t Γ=aa pv):J Cx ev R X Jy L E Y:={h with slot:=λd t pv ht=>h.slot d t pv (hs d t pv ht)}
end Go.Ev
namespace Go.Ev
section
variable{Cx:Cs}
variable{P:Program}{Y al:St}{R R':Rs}{X aN:Ph}{O:Type}{ev jX:O->Option IV}{L L':List (LO O)}{bad:Nat->Prop}{Γ Jy:Gm O}{E:Nat->Env}
theorem J.sV(h:J Cx ev R X Γ L E Y):R Y.n=ah:=by
 cases hr:R Y.n with
 |none=>rfl
 |some m=>exact absurd (h.qO _ _ hr) (aDR _)
theorem du{O:Type}{l:List O}{i:Nat}{a:O}(h:l[i]?=aa a):i<l.length:=(ayw.1 h).1
def cA(X:Ph)(k id:Nat):Ph:=λj=>if j=k then aa id else X j
theorem PR(h:J Cx ev R X Γ L E Y)(ob:Ob):ji R Y R (Y.add ob):=by
 refine⟨λ_ m h=>⟨m,h,ayA _⟩,λid m cs aB mn hR aK=>⟨cs,aB,?_,ayA _,λ_ _=>rfl⟩,λid m cs aB mn hR aK=>?_⟩
 .have:=h.qO _ _ hR;rw[St.gz,if_neg ai];exact aK
 .have:=h.qO _ _ hR;rw[St.gz,if_neg ai]at aK;exact h.fits _ _ _ _ _ hR aK
theorem D3(h:J Cx ev R X Γ L E Y)(ob:Ob)(lo:LO O):la ev ev R X L Y R (cA X L.length Y.n) (L++[lo]) (Y.add ob) (λ_=>False):=by
 have hL:∀k o,L[k]?=aa o->(L++[lo])[k]?=aa o/\cA X L.length Y.n k=X k:=λk o hk=>by
  have:=du hk;exact⟨by rw[ayK this];exact hk,by simp[cA,show k≠L.length by omega]⟩
 refine .mk' (λ_ _ h=>h) (PR h ob) (λk cs hk=>⟨⟨cs,(hL k _ hk).1⟩,(hL k _ hk).2⟩) (λk kt es hk=>⟨⟨es,(hL k _ hk).1⟩,(hL k _ hk).2⟩) (λk s st cut fr z hk _=>⟨⟨st,(hL k _ hk).1⟩,(hL k _ hk).2,λid hid=>?_⟩) (λk c st snap hk=>⟨⟨c,st,snap,(hL k _ hk).1⟩,(hL k _ hk).2⟩);have:=(h.lt _ _ hid).2;rw[St.gz,if_neg ai]
theorem Cl.a_(c:Cl O):c.ok (λ_=>False):=by cases c<;>simp[Cl.ok]
theorem PV.a_(c:PV O):c.ok (λ_=>False):=by
 cases c with
 |one c=>exact c.a_
 |ag cs=>exactλc _=>c.a_
 |tu vs=>exactλ_ _ c _=>c.a_
theorem LO.a_(o:LO O):o.ok (λ_=>False):=by
 cases o with
 |var cs=>exactλc _=>c.a_
 |_=>trivial
theorem J.AB(h:J Cx ev R X Γ L E Y)(ob:Ob)(lo:LO O)(ho:OR Cx ev R (cA X L.length Y.n) (L++[lo]) (Y.add ob) L.length lo):J Cx ev R (cA X L.length Y.n) Γ (L++[lo]) E (Y.add ob):=by
 have hs:=D3 h ob lo;refine⟨λd t pv hg=>(h.slot d t pv hg).step hs pv.a_,λk o hk=>?_,λk k' id h1 h2=>?_,λk id hk=>?_,λid m hR=>?_,hs.grow.fits,h.wf.set _ _,λid hid=>?_⟩
 .by_cases lH:k<L.length
  .rw[ayK lH]at hk;refine(h.obj k o hk).step hs (by simp[cA,show k≠L.length by omega]) (λid hid=>⟨?_,rfl⟩) o.a_;have:=(h.lt _ _ hid).2;rw[St.gz,if_neg ai]
  .have:k=L.length:=by have:=du hk;simp at this;omega
   subst this;simp at hk;subst hk;exact ho
 .unfold cA at h1 h2;split at h1<;>split at h2
  .omega
  .cases h1;have:=(h.lt _ _ h2).2;omega
  .cases h2;have:=(h.lt _ _ h1).2;omega
  .exact h.inj k k' id h1 h2
 .unfold cA at hk;split at hk
  .cases hk;simp[St.add];omega
  .have:=h.lt _ _ hk;simp[St.add];omega
 .have:=h.qO _ _ hR;simp[St.add];omega
 .have gX:Y.n+1<=id:=hid;rw[St.gz,if_neg ai];exact h.top id ai
theorem J.up(h:J Cx ev R X Γ L E Y)(fD:∀e z,ev e=aa z->jX e=aa z):J Cx jX R X Γ L E Y:=by
 have hs:la ev jX R X L Y R X L Y (λ_=>False):=(.mk' fD (ji.refl h.fits) (λk cs hk=>⟨⟨cs,hk⟩,rfl⟩) (λk kt es hk=>⟨⟨es,hk⟩,rfl⟩) (λk s st cut fr z hk _=>⟨⟨st,hk⟩,rfl,λ_ _=>rfl⟩) (λk c st snap hk=>⟨⟨c,st,snap,hk⟩,rfl⟩));exact{h with slot:=λd t pv hg=>(h.slot d t pv hg).step hs pv.a_,obj:=λk o hk=>(h.obj k o hk).step hs rfl (λ_ _=>⟨rfl,rfl⟩) o.a_}
theorem VR.up{x:IV}{pv:PV O}(h:J Cx ev R X Γ L E Y)(hx:VR ev R X L Y x pv)(fD:∀e z,ev e=aa z->jX e=aa z):VR jX R X L Y x pv:=
 hx.step (bad:=λ_=>False) (.mk' fD (ji.refl h.fits) (λk cs hk=>⟨⟨cs,hk⟩,rfl⟩) (λk kt es hk=>⟨⟨es,hk⟩,rfl⟩) (λk s st cut fr z hk _=>⟨⟨st,hk⟩,rfl,λ_ _=>rfl⟩) (λk c st snap hk=>⟨⟨c,st,snap,hk⟩,rfl⟩)) pv.a_
def Cl.drop(k:Nat):Cl O->Cl O
 |.sr k'=>if ayI k' k=ab then .un else .sr k'
 |.sv k' lo=>if ayI k' k=ab then .un else .sv k' lo
 |.pr k' i off ext=>if ayI k' k=ab then .un else .pr k' i off ext
 |c=>c
def PV.drop(k:Nat):PV O->PV O
 |.one c=>.one (c.drop k)
 |.ag cs=>.ag (cs.map (Cl.drop k))
 |.tu vs=>.tu (vs.map λp=>(p.1,p.2.map (Cl.drop k)))
def LO.drop(k:Nat):LO O->LO O
 |.var cs=>.var (cs.map (Cl.drop k))
 |o=>o
def LN(k:Nat):List (Nat×Nat×PV O)->List (Nat×Nat×PV O)
 |[]=>[]
 |(d,t,pv)::g=>(d,t,pv.drop k)::LN k g
theorem Cl.oP(k:Nat)(c:Cl O):(c.drop k).ok (·=k):=by
 cases c<;>simp only[Cl.drop]<;>first|trivial|(split<;>first|trivial|(rename_i hh;simpa[Cl.ok,azc]using hh))
theorem PV.oP(k:Nat)(c:PV O):(c.drop k).ok (·=k):=by
 cases c with
 |one c=>exact c.oP k
 |ag cs=>intro c hc;simp at hc;obtain⟨a,_,rfl⟩:=hc;exact a.oP k
 |tu vs=>intro p hp c hc;obtain⟨q,_,rfl⟩:=List.mem_map.1 hp;simp at hc;obtain⟨a,_,rfl⟩:=hc;exact a.oP k
theorem LO.oP(k:Nat)(o:LO O):(o.drop k).ok (·=k):=by
 cases o with
 |var cs=>intro c hc;simp at hc;obtain⟨a,_,rfl⟩:=hc;exact a.oP k
 |_=>trivial
theorem cZ.drop{x:IV}{c:Cl O}(k:Nat)(h:cZ ev R X L Y x c):cZ ev R X L Y x (c.drop k):=by
 cases c<;>simp only[Cl.drop]<;>first|exact h|(split<;>first|trivial|exact h)
theorem VR.drop{x:IV}{c:PV O}(k:Nat)(h:VR ev R X L Y x c):VR ev R X L Y x (c.drop k):=by
 cases c with
 |one c=>exact cZ.drop k h
 |ag cs=>
  obtain⟨xs,h1,h2⟩:=h;exact⟨xs,h1,h2.map λa b cn=>cn.drop k⟩
 |tu vs=>
  obtain⟨xs,h1,h2⟩:=h;refine⟨xs,h1,h2.map λa p cn=>?_⟩;unfold wA at cn⊢;split at cn
  .rename_i hb;rw[if_pos hb];obtain⟨ys,h3,h4⟩:=cn;exact⟨ys,h3,h4.map λa b cn=>cn.drop k⟩
  .rename_i hb;rw[if_neg hb];obtain⟨c,h3,h4⟩:=cn;exact⟨c.drop k,by simp[h3],h4.drop k⟩
theorem Kn(h:J Cx ev R X Γ L E Y)(k:Nat):la ev ev R X L Y R X (L.map (LO.drop k)) Y (λ_=>False):=by
 refine .mk' (λ_ _ h=>h) (ji.refl h.fits) (λj cs hj=>⟨⟨cs.map (Cl.drop k),?_⟩,rfl⟩) (λj kt es hj=>⟨⟨es,?_⟩,rfl⟩) (λj s st cut fr z hj _=>⟨⟨st,?_⟩,rfl,λ_ _=>rfl⟩) (λj c st snap hj=>⟨⟨c,st,snap,?_⟩,rfl⟩)<;>simp[ayR,hj,LO.drop]
theorem Hl{d t k:Nat}{pv:PV O}:∀(g:Gm O),cN d t (LN k g)=aa pv->∃q,cN d t g=aa q/\pv=q.drop k:=by
 intro g;induction g with
 |nil=>intro h;cases h
 |cons p g ih=>
  obtain⟨a,b,q⟩:=p;intro h;rcases l9 h with⟨rfl,rfl,rfl⟩|⟨h1,h2⟩
  .exact⟨q,by simp[cN],rfl⟩
  .obtain⟨q',h3,h4⟩:=ih h2;refine⟨q',?_,h4⟩;unfold cN;rw[if_neg]
   .exact h3
   .simpa[azc]using h1
theorem J.ZF(h:J Cx ev R X Γ L E Y)(k:Nat):J Cx ev R X (LN k Γ) (L.map (LO.drop k)) E Y:=by
 have hs:=Kn h k;refine{h with slot:=λd t pv hg=>?_,obj:=λj o hj=>?_,lt:=λj id hj=>by simpa using h.lt j id hj}
 .obtain⟨q,h1,rfl⟩:=Hl Γ hg;exact((h.slot d t q h1).drop k).step hs (PV.a_ _)
 .rw[ayR]at hj;obtain⟨o',h1,rfl⟩:=ayG.1 hj;have ho:=(h.obj j o' h1).step hs rfl (λ_ _=>⟨rfl,rfl⟩) (LO.a_ _);cases o' with
  |var cs=>
   obtain⟨id,c7,a,b,c,d⟩:=ho;exact⟨id,c7,a,b,c,d.map λ_ _ cn=>cn.drop k⟩
  |row=>exact ho
  |mp=>exact ho
  |lp=>exact ho
  |dead=>exact ho
theorem J.vu(h:J Cx ev R X Γ L E Y){k id:Nat}{lo lg:LO O}{fK:Ob}(hid:X k=aa id)(hk:L[k]?=aa lo)(hR:∀j,j≠id->R' j=R j)
 (hle:∀m,R id=aa m->∃m',R' id=aa m'/\m<=m')
 (By:∀m cs aB mn,R id=aa m->Y.at id=aa (.cells cs aB mn)->∃cY kg,fK=.cells cY kg mn/\aB<=kg/\∀j,j<m->cY[j]?=cs[j]?)
 (zl:∀m cs aB mn,R' id=aa m->fK=.cells cs aB mn->m<=cs.length)
 (hv:∀cs,lo=.var cs->∃cY,lg=.var cY)(hm:∀kt es,lo=.mp kt es->∃aQ,lg=.mp kt aQ)(hr:∀s st cut fr z,lo=.row s st cut fr z->bad k)
 (PS:∀d t pv,cN d t Γ=aa pv->pv.ok bad)(hL:∀j o,L[j]?=aa o->j≠k->o.ok bad)
 (ho:la ev ev R X L Y R' X (L.set k lg) (Y.put id fK) bad->OR Cx ev R' X (L.set k lg) (Y.put id fK) k lg)
 (GM:∀c st snap,lo=.lp c st snap->∃c' dE zk,lg=.lp c' dE zk:=by intro _ _ _ h;cases h):
 la ev ev R X L Y R' X (L.set k lg) (Y.put id fK) bad/\J Cx ev R' X Γ (L.set k lg) E (Y.put id fK):=by
 have lH:=du hk;have bt:∀j,j≠k->(L.set k lg)[j]?=L[j]? :=λj hj=>aAo (λhc=>hj hc.symm);have bG:(L.set k lg)[k]?=aa lg:=by simp[lH]
 have Nx:∀j bz,j≠k->X j=aa bz->bz≠id:=λj bz hj ni hc=>hj (h.inj j k id (by rw[<-hc];exact ni) hid)
 have rm:ji R Y R' (Y.put id fK):=by
  refine⟨λbz m hm=>?_,λbz m cs aB mn hm aK=>?_,λbz m cs aB mn hm aK=>?_⟩
  .by_cases hc:bz=id
   .subst hc;exact hle m hm
   .exact⟨m,by rw[hR bz hc];exact hm,ayA _⟩
  .by_cases hc:bz=id
   .subst hc;obtain⟨cY,kg,h1,h2,h3⟩:=By m cs aB mn hm aK;exact⟨cY,kg,by rw[St.dv,if_pos rfl,h1],h2,h3⟩
   .exact⟨cs,aB,by rw[St.dv,if_neg (λhh=>hc hh.symm)];exact aK,ayA _,λ_ _=>rfl⟩
  .by_cases hc:bz=id
   .subst hc;rw[St.dv,if_pos rfl]at aK;exact zl m cs aB mn hm (by injection aK)
   .rw[St.dv,if_neg (λhh=>hc hh.symm)]at aK;exact h.fits bz m cs aB mn (by rw[<-hR bz hc];exact hm) aK
 have hs:la ev ev R X L Y R' X (L.set k lg) (Y.put id fK) bad:=by
  refine .mk' (λ_ _ h=>h) rm (λj cs hj=>?_) (λj kt es hj=>?_) (λj s st cut fr z hj hb=>?_) (λj c st snap hj=>?_)
  .by_cases bB:j=k
   .subst bB;rw[hk]at hj;injection hj with hj
    obtain⟨cY,h1⟩:=hv cs hj;exact⟨⟨cY,by rw[bG,h1]⟩,rfl⟩
   .exact⟨⟨cs,by rw[bt j bB];exact hj⟩,rfl⟩
  .by_cases bB:j=k
   .subst bB;rw[hk]at hj;injection hj with hj
    obtain⟨cY,h1⟩:=hm kt es hj;exact⟨⟨cY,by rw[bG,h1]⟩,rfl⟩
   .exact⟨⟨es,by rw[bt j bB];exact hj⟩,rfl⟩
  .by_cases bB:j=k
   .subst bB;rw[hk]at hj;injection hj with hj
    exact absurd (hr _ _ _ _ _ hj) hb
   .exact⟨⟨st,by rw[bt j bB];exact hj⟩,rfl,λbz gX=>by rw[St.dv,if_neg (λhc=>Nx j bz bB gX hc.symm)]⟩
  .by_cases bB:j=k
   .subst bB;rw[hk]at hj;injection hj with hj
    obtain⟨c',dE,zk,h1⟩:=GM c st snap hj;exact⟨⟨c',dE,zk,by rw[bG,h1]⟩,rfl⟩
   .exact⟨⟨c,st,snap,by rw[bt j bB];exact hj⟩,rfl⟩
 refine⟨hs,⟨λd t pv hg=>(h.slot d t pv hg).step hs (PS d t pv hg),λj o hj=>?_,h.inj,λj bz hj=>by simpa[St.put]using h.lt j bz hj,λbz m hm=>?_,rm.fits,h.wf.set _ _,λbz gX=>?_⟩⟩
 .by_cases bB:j=k
  .subst bB;rw[bG]at hj;cases hj;exact ho hs
  .rw[bt j bB]at hj;exact(h.obj j o hj).step hs rfl (λbz gX=>⟨by rw[St.dv,if_neg (λhc=>Nx j bz bB gX hc.symm)],hR _ (Nx j bz bB gX)⟩) (hL j o hj bB)
 .by_cases hc:bz=id
  .subst hc;exact(h.lt _ _ hid).2
  .rw[hR bz hc]at hm;exact h.qO _ _ hm
 .have:=(h.lt _ _ hid).2;have Rf:Y.n<=bz:=gX;rw[St.dv,if_neg ai];exact h.top bz Rf
theorem J.akm(h:J Cx ev R X Γ L E Y){k:Nat}{lo lg:LO O}{fK:Ob}(hk:L[k]?=aa lo)(hR:∀j,j≠Y.n->R' j=R j)
 (zl:∀m cs aB mn,R' Y.n=aa m->fK=.cells cs aB mn->m<=cs.length)
 (hr:∃s st cut fr z,lo=.row s st cut fr z)(hb:bad k)
 (PS:∀d t pv,cN d t Γ=aa pv->pv.ok bad)(hL:∀j o,L[j]?=aa o->j≠k->o.ok bad)
 (ho:la ev ev R X L Y R' (cA X k Y.n) (L.set k lg) (Y.add fK) bad->OR Cx ev R' (cA X k Y.n) (L.set k lg) (Y.add fK) k lg):
 la ev ev R X L Y R' (cA X k Y.n) (L.set k lg) (Y.add fK) bad/\J Cx ev R' (cA X k Y.n) Γ (L.set k lg) E (Y.add fK):=by
 have lH:=du hk;have bt:∀j,j≠k->(L.set k lg)[j]?=L[j]? :=λj hj=>aAo (λhc=>hj hc.symm);have bG:(L.set k lg)[k]?=aa lg:=by simp[lH]
 have my:∀j,j≠k->cA X k Y.n j=X j:=λj hj=>by simp[cA,hj]
 have rm:ji R Y R' (Y.add fK):=by
  refine⟨λbz m hm=>?_,λbz m cs aB mn hm aK=>?_,λbz m cs aB mn hm aK=>?_⟩
  .have:=h.qO _ _ hm;exact⟨m,by rw[hR bz ai];exact hm,ayA _⟩
  .have:=h.qO _ _ hm;exact⟨cs,aB,by rw[St.gz,if_neg ai];exact aK,ayA _,λ_ _=>rfl⟩
  .by_cases hc:bz=Y.n
   .subst hc;rw[St.gz,if_pos rfl]at aK;exact zl m cs aB mn hm (by injection aK)
   .rw[St.gz,if_neg (λhh=>hc hh.symm)]at aK;exact h.fits bz m cs aB mn (by rw[<-hR bz hc];exact hm) aK
 have hs:la ev ev R X L Y R' (cA X k Y.n) (L.set k lg) (Y.add fK) bad:=by
  obtain⟨s,st,cut,fr,z,rfl⟩:=hr;refine .mk' (λ_ _ h=>h) rm (λj cs hj=>?_) (λj kt es hj=>?_) (λj s st cut fr z hj o8=>?_) (λj c st snap hj=>?_)
  .by_cases bB:j=k
   .subst bB;rw[hk]at hj;cases hj
   .exact⟨⟨cs,by rw[bt j bB];exact hj⟩,my j bB⟩
  .by_cases bB:j=k
   .subst bB;rw[hk]at hj;cases hj
   .exact⟨⟨es,by rw[bt j bB];exact hj⟩,my j bB⟩
  .by_cases bB:j=k
   .subst bB;exact absurd hb o8
   .exact⟨⟨st,by rw[bt j bB];exact hj⟩,my j bB,λbz gX=>by have:=(h.lt _ _ gX).2;rw[St.gz,if_neg ai]⟩
  .by_cases bB:j=k
   .subst bB;rw[hk]at hj;cases hj
   .exact⟨⟨c,st,snap,by rw[bt j bB];exact hj⟩,my j bB⟩
 refine⟨hs,⟨λd t pv hg=>(h.slot d t pv hg).step hs (PS d t pv hg),λj o hj=>?_,λj j' bz h1 h2=>?_,λj bz hj=>?_,λbz m hm=>?_,rm.fits,h.wf.set _ _,λbz gX=>?_⟩⟩
 .by_cases bB:j=k
  .subst bB;rw[bG]at hj;cases hj;exact ho hs
  .rw[bt j bB]at hj;refine(h.obj j o hj).step hs (my j bB) (λbz gX=>?_) (hL j o hj bB);have:=(h.lt _ _ gX).2;exact⟨by rw[St.gz,if_neg ai],hR _ ai⟩
 .unfold cA at h1 h2;split at h1<;>split at h2
  .omega
  .cases h1;have:=(h.lt _ _ h2).2;omega
  .cases h2;have:=(h.lt _ _ h1).2;omega
  .exact h.inj j j' bz h1 h2
 .unfold cA at hj;split at hj
  .cases hj;rename_i hh;subst hh;simp[St.add];omega
  .have:=h.lt _ _ hj;simp[St.add];omega
 .by_cases hc:bz=Y.n
  .simp[St.add];omega
  .rw[hR bz hc]at hm;have:=h.qO _ _ hm;simp[St.add];omega
 .have Rf:Y.n+1<=bz:=gX;rw[St.gz,if_neg ai];exact h.top bz ai
end
section
variable{P:Program}{N:Nat}{Z:Io}{w:World}{Y al:St}{e:Env}{rd:Option Nat}{fn:FuncId}{df:List Df}
def E5(B:Nat)(Z:Io)(w:World)(Y:St)(id:Nat):Prop:=∃l,Z id 0=aa l/\Y.at id=ah/\id<Y.n/\B<=l.b/\w.heap[l.b]?=aa (.deferred (aa []))
def yY(B:Nat)(Z:Io)(w:World)(Y:St)(df:List Df)(xs:List Deferred):Prop:=B<=w.heap.size/\∃ids:List Nat,lD Z (ids.map .wI++df) xs/\(∀id∈ids,E5 B Z w Y id)/\ids.Nodup
theorem E5.step{B ro id:Nat}{aJ:Io}{w':World}(hi:Inv N Z Y w)(hl:Le ro Z w Y aJ w' al)(h:E5 B Z w Y id):E5 B aJ w' al id:=by
 obtain⟨l,h1,h2,h3,h4,h5⟩:=h;refine⟨l,hl.ext _ _ _ h1,hl.dead id h2 (.inl h3),Nat.lt_of_lt_of_le h3 hl.yJ,h4,?_⟩;rw[hl.frame l.b (azj.1 h5).1 λbz gX=>.inr ?_]
 .exact h5
 .rw[hi.inj bz id l.b gX ⟨0,l,h1,rfl⟩];exact h2
theorem yY.step{B ro:Nat}{aJ:Io}{w':World}{xs:List Deferred}(hi:Inv N Z Y w)(hl:Le ro Z w Y aJ w' al)(h:yY B Z w Y df xs):yY B aJ w' al df xs:=by
 obtain⟨h0,ids,h1,h2,h3⟩:=h;exact⟨ayU h0 hl.size,ids,h1.mono hl.ext,λid hid=>(h2 id hid).step hi hl,h3⟩
theorem yY.start:yY w.heap.size Z w Y [] []:=⟨ayA _,[],trivial,λ_ h=>(by cases h),List.nodup_nil⟩
def xl(B N ro:Nat)(Z:Io)(w:World)(Y:St)(cr:CR)(Q:Exit->Act->World->Prop):Prop:=
 ∀a' w' aJ ch,Inv N aJ cr.Y w'->Le ro Z w Y aJ w' cr.Y->dc aJ cr.e a'.tmps->yY B aJ w' cr.Y cr.df a'.defers->Sr aJ ch cr.ex->Q (G_ ch cr.ex) a' w'
theorem xl.from{B ro:Nat}{cr:CR}{Q:Exit->Act->World->Prop}{bX:Io}{w1:World}{au:St}(h:xl B N ro Z w Y cr Q)(hi:Inv N Z Y w)(hl:Le ro Z w Y bX w1 au)(hn:au.n<=N):xl B N ro bX w1 au cr Q:=
 λa' w' aJ ch h1 h2 h3 h4 h5=>h a' w' aJ ch h1 (Le.trans (λid h1 h2=>hi.fresh id h1 ai) hl h2) h3 h4 h5
theorem Hm{B:Nat}{fn:Func}{ts:Array Value}{R:Ending->World->Prop}{m:Option IV}{u:FrameMode}(hu:pj Z m u):∀{ids:List Nat} {ds:List Deferred} {w:World},lD Z (ids.map .wI++df) ds->(∀id∈ids,E5 B Z w Y id)->ids.Nodup->Inv N Z Y w->
 (∀w' sg,lD Z df sg->Inv N Z Y w'->(∀ro gl w0 eG,w0.heap.size<=B->Le ro gl w0 eG Z w Y->Le ro gl w0 eG Z w' Y)->LeavesInM ay8 0 P fn ts R sg u w')->LeavesInM ay8 0 P fn ts R ds u w
 |[],ds,w,hd,_,_,hi,hQ=>hQ w ds hd hi λ_ _ _ _ _ h=>h
 |id::ids,d::ds,w,hd,Rg,uK,hi,hQ=>by
  obtain⟨⟨l,hl,rfl⟩,Hc⟩:=hd;obtain⟨l',cH,aK,aj,hB,hh⟩:=Rg id ax;rw[hl]at cH;cases cH;have bf:=(azj.1 hh).1
  have bt:∀b,b≠l.b->(w.heap.setIfInBounds l.b (.deferred ah))[b]?=w.heap[b]? :=λb hb=>by
   rw[Array.getElem?_setIfInBounds,if_neg (λh=>hb h.symm)]
  have jI:∀bz b,Own Z bz b->bz≠id->b≠l.b:=λbz b ho bt hb=>bt (hi.inj bz id l.b (hb▸ho) ⟨0,l,hl,rfl⟩)
  have i1:Inv N Z Y {w with heap:=w.heap.setIfInBounds l.b (.deferred ah)}:=by
   refine⟨λb c hb=>?_,hi.sep,λbz b ho=>by simpa using hi.jy bz b ho,hi.fresh,hi.inj,λbz o ho=>?_,hi.wf⟩
   .obtain⟨e,f,h⟩:=hi.mem b c hb;exact⟨e,f,by rw[bt b (λhc=>hi.sep b c id hb ⟨0,l,hl,hc.symm⟩)];exact h⟩
   .have hid:bz≠id:=λhc=>by rw[hc,aK]at ho;cases ho
    exact(hi.obj bz o ho).tV (Ext.refl _) (λ_=>rfl) λb hb=>bt b (jI bz b hb hid)
  have akn:∀bz∈ids,E5 B Z {w with heap:=w.heap.setIfInBounds l.b (.deferred ah)} Y bz:=λbz gX=>by
   obtain⟨l',a1,a2,a3,a4,a5⟩:=Rg bz (by simp[gX]);have:bz≠id:=λhc=>by subst hc;exact(aAC.1 uK).1 gX
   exact⟨l',a1,a2,a3,a4,by rw[bt _ (jI bz l'.b ⟨0,l',a1,rfl⟩ this)];exact a5⟩
  refine⟨Nj hu,.inl ⟨l.b,_,rfl,?_,Hm hu Hc akn (aAC.1 uK).2 i1 λw' sg SP iw hw=>hQ w' sg SP iw λro gl w0 eG h0 hle=>hw ro gl w0 eG h0 ?_⟩⟩
  .simp only[Instr.takeDeferred,Sem.run_bind,dW (P:=P) hh ax,Result.andThen_ok,ic (P:=P) hh ax,Sem.run_pure]
  .exact{hle with os:=hle.os,tape:=hle.tape,output:=hle.output,size:=by simpa using hle.size,frame:=λb hb hc=>by rw[bt b ai];exact hle.frame b hb hc}
 |_::_,[],_,h,_,_,_,_=>h.elim
abbrev lP:=Ex->Env->St->Prop
def dg(P:Program)(N:Nat)(rd:Option Nat)(c:Code)(e:Env)(df:List Df)(Y:St)(CW:lP):Prop:=
 ∀B F Z a w Q,kN F rd Z->Inv N Z Y w->dc Z e a.tmps->yY B Z w Y df a.defers->(∀ex e' al,CW ex e' al->xl B N 0 Z w Y ⟨ex,e',df,al⟩ Q)->c.wpIn F 0 P Q a w
def qe(P:Program)(N:Nat)(rd:Option Nat)(j:Nat)(c:Code)(e:Env)(df:List Df)(Y:St)(CW:lP):Prop:=
 ∀B F Z a w Q,kN F rd Z->Inv N Z Y w->dc Z e a.tmps->yY B Z w Y df a.defers->(∀ex e' al,CW ex e' al->xl B N 0 Z w Y ⟨ex,e',df,al⟩ Q)->Code.roundsIn F 0 P c Q j a w
def eU(P:Program)(N:Nat)(rd:Option Nat)(ops:Array Oper)(l:List Oper)(e:Env)(df:List Df)(Y:St)(CW:lP):Prop:=
 ∀B F Z a w Q k,ops.toList.drop k=l->kN F rd Z->Inv N Z Y w->dc Z e a.tmps->yY B Z w Y df a.defers->(∀ex e' al,CW ex e' al->xl B N 0 Z w Y ⟨ex,e',df,al⟩ Q)->
  wpOpsIn F 0 P ops Q (az3 k l.length) a w
def dM(P:Program)(N:Nat)(f:FuncId)(args:List IV)(Y:St)(RW:IV->St->Prop):Prop:=
 ∀Z us w,Inv N Z Y w->aG Z args us->CallsIn ay8 0 P f us.toArray w (λed w'=>∃v al,RW v al/\zh N 0 Z w Y v al ed w')
variable{CW CW':lP}
theorem AD{ex:Ex}{a:Act}{Q:Exit->Act->World->Prop}(hi:Inv N Z Y w)(he:dc Z e a.tmps){B:Nat}(hd:yY B Z w Y df a.defers)(hQ:xl B N 0 Z w Y ⟨ex,e,df,Y⟩ Q)(hp:Sr Z [] ex):Q (G_ [] ex) a w:=
 hQ a w Z [] hi (Le.refl _ _ _ _) he hd hp
theorem dg.skip(h:CW .normal e Y):dg P N rd .skip e df Y CW:=
 λ_ _ Z a w _ _ hi he hd hQ=>wpIn_skip (AD hi he hd (hQ _ _ _ h) trivial)
theorem dg.label{l:Nat}(h:CW .normal e Y):dg P N rd (.label l) e df Y CW:=
 λ_ _ Z a w _ _ hi he hd hQ=>wpIn_label (AD hi he hd (hQ _ _ _ h) trivial)
theorem dg.exit{id:Nat}(h:CW (.exit id) e Y):dg P N rd (.exit id) e df Y CW:=
 λ_ _ Z a w _ _ hi he hd hQ=>wpIn_exit (AD hi he hd (hQ _ _ _ h) trivial)
theorem dg.ret(h:CW .ret e Y):dg P N rd .ret e df Y CW:=
 λ_ _ Z a w _ _ hi he hd hQ=>wpIn_ret (AD hi he hd (hQ _ _ _ h) trivial)
def ym(N:Nat)(next:Env->St->Prop)(CW:lP):lP:=λex e1 au=>au.n<=N/\(ex=.normal->next e1 au)/\(ex≠.normal->CW ex e1 au)
theorem dg.seq{x y:Code}(h:dg P N rd x e df Y (ym N (λe1 au=>dg P N rd y e1 df au CW) CW)):dg P N rd (.seq x y) e df Y CW:=by
 intro B F Z a w Q hF hi he hd hQ;refine wpIn_seq (h B F Z a w _ hF hi he hd λex e1 au hc=>?_);obtain⟨hn,h1,h2⟩:=hc;intro a1 w1 bX fB i1 l1 dB d1 p1;cases ex with
 |normal=>
  refine h1 rfl B F bX a1 w1 Q (hF.mono l1.ext) i1 dB d1 λex e' al hc=>(hQ ex e' al hc).from hi l1 hn
 |exit id=>exact hQ _ _ _ (h2 ax) a1 w1 bX fB i1 l1 dB d1 p1
 |goto l=>exact hQ _ _ _ (h2 ax) a1 w1 bX fB i1 l1 dB d1 p1
 |ret=>exact hQ _ _ _ (h2 ax) a1 w1 bX fB i1 l1 dB d1 p1
 |cw v=>exact hQ _ _ _ (h2 ax) a1 w1 bX fB i1 l1 dB d1 p1
theorem dg.cond{c:Operand}{x y:Code}{t:Bool}(hc:aC e c=.raw (.bool t))(h:dg P N rd (if t then x else y) e df Y CW):dg P N rd (.cond c x y) e df Y CW:=
 λB F Z a w Q hF hi he hd hQ=>wpIn_cond (Kb hc (he.eval c)) (h B F Z a w Q hF hi he hd hQ)
theorem dg.block{id:Nat}{x:Code}(h:dg P N rd x e df Y (λex e1 au=>CW (match ex with|.exit i=>if i=id then .normal else .exit i|ex=>ex) e1 au)):dg P N rd (.block id x) e df Y CW:=by
 intro B F Z a w Q hF hi he hd hQ;refine wpIn_block (h B F Z a w _ hF hi he hd λex e1 au hc=>?_);intro a1 w1 bX fB i1 l1 dB d1 p1;cases ex with
 |exit i=>
  simp only[G_,Exit.inBlock];simp only at hc;split
  .rename_i hh;rw[if_pos hh]at hc;exact hQ _ _ _ hc a1 w1 bX fB i1 l1 dB d1 trivial
  .rename_i hh;rw[if_neg hh]at hc;exact hQ _ _ _ hc a1 w1 bX fB i1 l1 dB d1 trivial
 |normal=>exact hQ _ _ _ hc a1 w1 bX fB i1 l1 dB d1 p1
 |goto l=>exact hQ _ _ _ hc a1 w1 bX fB i1 l1 dB d1 p1
 |ret=>exact hQ _ _ _ hc a1 w1 bX fB i1 l1 dB d1 p1
 |cw v=>exact hQ _ _ _ hc a1 w1 bX fB i1 l1 dB d1 p1
theorem dg.scope{x:Code}(h:dg P N rd x e df Y (λex e1 au=>(∀l,ex≠.goto l)/\CW ex e1 au)):dg P N rd (.scope x) e df Y CW:=by
 intro B F Z a w Q hF hi he hd hQ;refine LC (h B F Z a w _ hF hi he hd λex e1 au hc=>?_);obtain⟨hx,hc⟩:=hc;intro a1 w1 bX fB i1 l1 dB d1 p1;have:=hQ _ _ _ hc a1 w1 bX fB i1 l1 dB d1 p1;cases hh:ex<;>rw[hh]at this<;>first|exact absurd hh (hx _)|exact this
theorem qe.succ{x:Code}{j:Nat}(h:dg P N rd x e df Y (ym N (λe1 au=>qe P N rd j x e1 df au CW) CW)):qe P N rd (j+1) x e df Y CW:=by
 intro B F Z a w Q hF hi he hd hQ;rw[roundsIn_succ];refine h B F Z a w _ hF hi he hd λex e1 au hc=>?_;obtain⟨hn,h1,h2⟩:=hc;intro a1 w1 bX fB i1 l1 dB d1 p1;cases ex with
 |normal=>
  refine h1 rfl B F bX a1 w1 Q (hF.mono l1.ext) i1 dB d1 λex e' al hc=>(hQ ex e' al hc).from hi l1 hn
 |exit id=>exact hQ _ _ _ (h2 ax) a1 w1 bX fB i1 l1 dB d1 p1
 |goto l=>exact hQ _ _ _ (h2 ax) a1 w1 bX fB i1 l1 dB d1 p1
 |ret=>exact hQ _ _ _ (h2 ax) a1 w1 bX fB i1 l1 dB d1 p1
 |cw v=>exact hQ _ _ _ (h2 ax) a1 w1 bX fB i1 l1 dB d1 p1
theorem dg.loop{x:Code}{j:Nat}(h:qe P N rd j x e df Y CW):dg P N rd (.loop x) e df Y CW:=
 λB F Z a w Q hF hi he hd hQ=>wpIn_loop_rounds j (h B F Z a w Q hF hi he hd hQ)
theorem dg.region{id:Nat}{ops:Array Oper}(h:eU P N rd ops ops.toList e df Y CW):dg P N rd (.region id ops af) e df Y CW:=by
 intro B F Z a w Q hF hi he hd hQ;refine wpIn_region ?_;have:=h B F Z a w Q 0 ax hF hi he hd hQ;rw[List.range_eq_range'];simpa using this
theorem dg.W7{c:Code}{x:Ex}{e':Env}(h:∀df,gu P 0 rd fn c e df Y ⟨x,e',df,al⟩)(hn:al.n<=N)(hc:CW x e' al):dg P N rd c e df Y CW:=by
 intro B F Z a w Q hF hi he hd hQ;obtain⟨hB,ids,h1,h2,uK⟩:=hd;refine(h (ids.map .wI++df)).wp hn hF hi he h1 ?_;intro a' w' aJ ch i1 l1 e1 d1 p1;exact hQ _ _ _ hc a' w' aJ ch i1 l1 e1 ⟨ayU hB l1.size,ids,d1,λid hid=>(h2 id hid).step hi l1,uK⟩ p1
variable{ops:Array Oper}{o:Oper}{l:List Oper}
theorem eU.nil(h:CW .normal e Y):eU P N rd ops [] e df Y CW:=
 λ_ _ Z a w _ _ _ _ hi he hd hQ=>AD hi he hd (hQ _ _ _ h) trivial
theorem eU.cons(hw:aT o ops e=ab)
 (h:∀B F Z a w Q k,ops.toList.drop (k+1)=l->kN F rd Z->Inv N Z Y w->dc Z e a.tmps->yY B Z w Y df a.defers->(∀ex e' al,CW ex e' al->xl B N 0 Z w Y ⟨ex,e',df,al⟩ Q)->
  o.wpIn F 0 P a w (wpOpsIn F 0 P ops Q (az3 (k+1) l.length)) Q):eU P N rd ops (o::l) e df Y CW:=by
 intro B F Z a w Q k hl hF hi he hd hQ
 have ia:ops.toList.drop (k+1)=l:=by
  rw[<-aAG (i:=1) (j:=k),hl];rfl
 have bu:ops[k]?=aa o:=by
  have:(ops.toList.drop k)[0]?=aa o:=by rw[hl];rfl
  simpa using this
 simp only[ay6,aAX];rw[wpOpsIn_cons];unfold wpOpIn;rw[bu];simp only;rw[uE he,if_pos hw];exact h B F Z a w Q k ia hF hi he hd hQ
theorem eU.skip(hw:aT o ops e=af)(h:eU P N rd ops l (e.put o.dst .undef) df Y CW):eU P N rd ops (o::l) e df Y CW:=by
 intro B F Z a w Q k hl hF hi he hd hQ
 have ia:ops.toList.drop (k+1)=l:=by
  rw[<-aAG (i:=1) (j:=k),hl];rfl
 have bu:ops[k]?=aa o:=by
  have:(ops.toList.drop k)[0]?=aa o:=by rw[hl];rfl
  simpa using this
 simp only[ay6,aAX];rw[wpOpsIn_cons];unfold wpOpIn;rw[bu];simp only;rw[uE he,hw,if_neg ax];exact⟨λf _=>hF.fn f,h B F Z _ w Q (k+1) ia hF hi (he.put tY _) (by cases o.dst<;>exact hd) hQ⟩
theorem eU.val{v:IV}{au:St}(hw:aT o ops e=ab)(hv:aA P 0 (aC e) o Y=aa (.val v au))(hn:au.n<=N)(h:eU P N rd ops l (e.put o.dst v) df au CW):eU P N rd ops (o::l) e df Y CW:=by
 refine .cons hw λB F Z a w Q k hl hF hi he hd hQ=>?_;refine⟨λf _=>hF.fn f,?_⟩;rw[aAn _ _ _ (jg hv ax)];obtain⟨u,w',aJ,hr,h2,h3,h4⟩:=qv hi he.eval hv hn
 have key:wpOpsIn F 0 P ops Q (az3 (k+1) l.length) (a.put o.dst u) w':=
  h B F aJ _ w' Q (k+1) hl (hF.mono h4.ext) h3 ((he.mono h4.ext).put h2 _) (by have:=hd.step hi h4;cases o.dst<;>exact this) (λex e' al hc=>(hQ ex e' al hc).from hi h4 hn)
 rcases hr with hr|⟨hr,rfl⟩
 .rw[hr,Oper.uponIn_value];exact key
 .rw[hr,Oper.uponIn_skip];exact key
theorem eU.call{f:FuncId}{args:List IV}{RW:IV->St->Prop}(hw:aT o ops e=ab)(hv:aA P 0 (aC e) o Y=aa (.enter f args))(hc:dM P N f args Y RW)
 (h:∀v au,RW v au->au.n<=N/\eU P N rd ops l (e.put o.dst v) df au CW):eU P N rd ops (o::l) e df Y CW:=by
 refine .cons hw λB F Z a w Q k hl hF hi he hd hQ=>?_;refine⟨λf _=>hF.fn f,?_⟩;rw[aAn _ _ _ (jg hv ax)];obtain⟨us,hr,h3⟩:=qv hi he.eval hv;rw[hr,aB1];refine⟨hF.depth,(hF.calls (hc Z us w hi h3)).mono λed w' hR=>?_⟩;obtain⟨v,au,sW,hR⟩:=hR;obtain⟨hn,h⟩:=h v au sW;cases ed with
 |returned u=>
  obtain⟨aJ,h2,h3,h4⟩:=hR;exact h B F aJ _ w' Q (k+1) hl (hF.mono h4.ext) h3 ((he.mono h4.ext).put h2 _) (by have:=hd.step hi h4;cases o.dst<;>exact this) (λex e' al hc=>(hQ ex e' al hc).from hi h4 hn)
 |outgrown=>exact hR.elim
 |panicked chain=>exact hR.elim
theorem dM.W7{f:FuncId}{args:List IV}{v:IV}(h:jN P 0 f args Y v al)(hn:al.n<=N):dM P N f args Y (λv1 au=>v1=v/\au=al):=
 λZ us w hi hr=>(h.2 N hn Z us w hi hr).mono λed w' hR=>⟨v,al,⟨rfl,rfl⟩,hR⟩
theorem dM.body{f:FuncId}{fn:Func}{c:Code}{args:List IV}{RW:IV->St->Prop}(cL:P.funcs[f]?=aa fn)(hb:fn.body=aa c)(hlen:args.length<=fn.ntmps)
 (h:dg P N ah c (dL args fn.ntmps) [] Y (λex e1 au=>(ex=.normal\/ex=.ret)/\au.n<=N/\∃v,cC P fn e1 au=aa v/\RW v au)):dM P N f args Y RW:=by
 intro Z us w hi hr;refine callsIn_of_wp_marks cL hb trivial ?_;refine h w.heap.size ay8 Z {tmps:=us.toArray++azy (fn.ntmps- us.toArray.size) Go.undef,defers:=[]} w _ (.inl ⟨rfl,rfl⟩) hi (Av hr hlen) yY.start λex e1 au hc=>?_;obtain⟨hex,hn,v,hv,sW⟩:=hc;intro a1 w1 bX fB i1 l1 dB d1 p1;obtain⟨_,ids,W8,W9,W_⟩:=d1
 have:∀u,pj bX ah u->LeavesInM ay8 0 P fn a1.tmps (λed w'=>∃v al,RW v al/\zh N 0 Z w Y v al ed w') a1.defers u w1:=λu hu=>
  Hm hu W8 W9 W_ i1 λw2 ds2 Jq i2 l2=>by
   obtain rfl:=Jq.nil;rw[show u=_ from hu];obtain⟨u,k1,k2⟩:=vg hv i2 dB;exact⟨u,k1,v,au,sW,bX,k2,i2,l2 _ _ _ _ (ayA _) l1⟩
 rcases hex with rfl|rfl
 .exact this _ rfl
 .exact this _ rfl
def vv(P:Program)(N:Nat)(f:FuncId)(args:List IV)(Y:St)(RW PW:IV->St->Prop):Prop:=
 ∀Z us w,Inv N Z Y w->aG Z args us->CallsIn ay8 0 P f us.toArray w (λed w'=>(∃v al,RW v al/\zh N 0 Z w Y v al ed w')\/(∃v al,PW v al/\Q9 N 0 Z w Y v al ed w'))
theorem dM.toX{f:FuncId}{args:List IV}{RW PW:IV->St->Prop}(h:dM P N f args Y RW):vv P N f args Y RW PW:=
 λZ us w hi hr=>(h Z us w hi hr).mono λ_ _ hR=>.inl hR
theorem vv.toW{f:FuncId}{args:List IV}{RW PW:IV->St->Prop}(h:vv P N f args Y RW PW)(hp:∀v al,¬PW v al):dM P N f args Y RW:=
 λZ us w hi hr=>(h Z us w hi hr).mono λ_ _ hR=>hR.elim id λ⟨v,al,h,_⟩=>absurd h (hp v al)
theorem eU.panic{v:IV}(hw:aT o ops e=ab)(hv:aA P 0 (aC e) o Y=aa (.cw v))(h:CW (.cw v) e Y):eU P N rd ops (o::l) e df Y CW:=by
 refine .cons hw λB F Z a w Q k hl hF hi he hd hQ=>?_;refine⟨λf _=>hF.fn f,?_⟩;rw[aAn _ _ _ (jg hv ax)];obtain⟨u,hr,h3⟩:=qv hi he.eval hv;rw[hr,Oper.uponIn_panic];exact hQ _ _ _ h a w Z [{v:=u,recovered:=af}] hi (Le.refl _ _ _ _) he hd ⟨u,rfl,h3⟩
theorem eU.ZH{f:FuncId}{args:List IV}{RW PW:IV->St->Prop}(hw:aT o ops e=ab)(hv:aA P 0 (aC e) o Y=aa (.enter f args))(hc:vv P N f args Y RW PW)
 (h:∀v au,RW v au->au.n<=N/\eU P N rd ops l (e.put o.dst v) df au CW)(hp:∀v au,PW v au->CW (.cw v) e au):eU P N rd ops (o::l) e df Y CW:=by
 refine .cons hw λB F Z a w Q k hl hF hi he hd hQ=>?_;refine⟨λf _=>hF.fn f,?_⟩;rw[aAn _ _ _ (jg hv ax)];obtain⟨us,hr,h3⟩:=qv hi he.eval hv;rw[hr,aB1];refine⟨hF.depth,(hF.calls (hc Z us w hi h3)).mono λed w' hR=>?_⟩;rcases hR with⟨v,au,sW,hR⟩|⟨v,au,hpw,hR⟩
 .obtain⟨hn,h⟩:=h v au sW;cases ed with
  |returned u=>
   obtain⟨aJ,h2,h3,h4⟩:=hR;exact h B F aJ _ w' Q (k+1) hl (hF.mono h4.ext) h3 ((he.mono h4.ext).put h2 _) (by have:=hd.step hi h4;cases o.dst<;>exact this) (λex e' al hc=>(hQ ex e' al hc).from hi h4 hn)
  |outgrown=>exact hR.elim
  |panicked chain=>exact hR.elim
 .cases ed with
  |returned u=>exact hR.elim
  |outgrown=>exact hR.elim
  |panicked chain=>
   obtain⟨aJ,h4,h5,h6⟩:=hR;exact hQ _ _ _ (hp v au hpw) a w' aJ chain h5 h6 (he.mono h6.ext) (hd.step hi h6) h4
def zY(Y:St)(id:Nat)(x:IV):St:=((Y.add (.cells [.int 0] 0 0)).put Y.n (.cells [x] 0 0)).put id (.cells [x] 0 0)
def Hn(P:Program)(g:FuncId)(t:TypeId):Prop:=
 ∀(N:Nat) (cl:IV) (f:FuncId) (as:List IV) (Y:St) (RW PW Xa:IV->St->Prop),gT P cl []=aa (.enter f as)->Y.n+1<=N->vv P N f as (Y.add (.cells [.int 0] 0 0)) RW PW->
  (∀v cU,RW v cU->cU.at Y.n=aa (.cells [.int 0] 0 0)/\cU.n<=N/\Xa (.int 0) (cU.put Y.n (.cells [.int 0] 0 0)))->
  (∀v cU,PW v cU->∃u,v=.dR t (.agg [.raw u])/\ao (.raw u)=ab/\cU.at Y.n=aa (.cells [.int 0] 0 0)/\cU.n+1<=N/\Y.n<cU.n/\Xa (.raw u) (zY cU Y.n (.raw u)))->dM P N g [cl] Y Xa
theorem vv.body{f:FuncId}{fn:Func}{c:Code}{args:List IV}{RW PW:IV->St->Prop}(cL:P.funcs[f]?=aa fn)(hb:fn.body=aa c)(hlen:args.length<=fn.ntmps)
 (h:dg P N ah c (dL args fn.ntmps) [] Y (λex e1 au=>au.n<=N/\(((ex=.normal\/ex=.ret)/\∃v,cC P fn e1 au=aa v/\RW v au)\/∃v,ex=.cw v/\PW v au))):vv P N f args Y RW PW:=by
 intro Z us w hi hr;refine callsIn_of_wp_marks cL hb trivial ?_;refine h w.heap.size ay8 Z {tmps:=us.toArray++azy (fn.ntmps- us.toArray.size) Go.undef,defers:=[]} w _ (.inl ⟨rfl,rfl⟩) hi (Av hr hlen) yY.start λex e1 au hc=>?_;obtain⟨hn,hc⟩:=hc;intro a1 w1 bX fB i1 l1 dB d1 p1;obtain⟨_,ids,W8,W9,W_⟩:=d1;rcases hc with⟨hex,v,hv,sW⟩|⟨v,rfl,hpw⟩
 .have:∀u,pj bX ah u->LeavesInM ay8 0 P fn a1.tmps (λed w'=>(∃v al,RW v al/\zh N 0 Z w Y v al ed w')\/(∃v al,PW v al/\Q9 N 0 Z w Y v al ed w')) a1.defers u w1:=λu hu=>
   Hm hu W8 W9 W_ i1 λw2 ds2 Jq i2 l2=>by
    obtain rfl:=Jq.nil;rw[show u=_ from hu];obtain⟨u,k1,k2⟩:=vg hv i2 dB;exact⟨u,k1,.inl ⟨v,au,sW,bX,k2,i2,l2 _ _ _ _ (ayA _) l1⟩⟩
  rcases hex with rfl|rfl
  .exact this _ rfl
  .exact this _ rfl
 .have:∀u,pj bX (aa v) u->LeavesInM ay8 0 P fn a1.tmps (λed w'=>(∃v al,RW v al/\zh N 0 Z w Y v al ed w')\/(∃v al,PW v al/\Q9 N 0 Z w Y v al ed w')) a1.defers u w1:=λu hu=>
   Hm hu W8 W9 W_ i1 λw2 ds2 Jq i2 l2=>by
    obtain rfl:=Jq.nil;obtain⟨x,rfl,hx⟩:=hu;exact .inr ⟨v,au,hpw,bX,⟨x,rfl,hx⟩,i2,l2 _ _ _ _ (ayA _) l1⟩
  obtain⟨u,rfl,hu⟩:=p1;exact this _ ⟨u,rfl,hu⟩
theorem dX.Jz{new:Bool}{f:FuncId}{xs:List IV}{z:IV}{RW:IV->St->Prop}{N:Nat}(h:dM P N f xs ⟨0,.lf⟩ RW)(hc:∀v al,RW v al->Can (!new) al v z):dX P af new f xs z:=by
 intro M w us hM hr;refine(h (fW M) us w (Iy hM) hr).mono λe w' hR=>?_;obtain⟨v,al,sW,hR⟩:=hR;cases e with
 |returned u=>
  obtain⟨aJ,h1,h2,h3⟩:=hR;exact⟨rfl,W1 hM (hc v al sW) h1 h2 h3⟩
 |panicked ch=>exact hR.elim
 |outgrown=>exact hR.elim
end
section
attribute [local instance] akj
variable{P:Program}{ro:Nat}{Y:St}{ρ:Operand->IV}{o:Oper}{out:gq}
structure lh where
 nt:Nat
 cP:List Nat
 emp:List Nat
 tg:List (Nat×Nat):=[]
 ld:List (Nat×Nat×Nat×Nat):=[]
def yL(l:List Nat)(t:Nat):Bool:=l.any (ayI t)
def IA(l:List Nat):Operand->Bool
 |.tmp t=>yL l t
 |_=>af
def lh.del(T:lh):Option Nat->lh
 |some d=>⟨T.nt,T.cP.filter (λt=> !ayI t d),T.emp.filter (λt=> !ayI t d),T.tg.filter (λp=> !ayI p.1 d),T.ld.filter (λp=> !ayI p.2.1 d&& !ayI p.2.2.1 d)⟩
 |none=>T
def D4(o:Oper):Option Operand:=
 match o.op with
 |.move x=>aa x
 |.nilCheck x=>aa x
 |_=>ah
def SQ(T:lh)(o:Oper):lh:=
 let D:=T.del o.dst
 match o.dst with
 |some d=>if !azp d T.nt then D else match o.op with
  |.fieldAddr _ x _=>if IA T.cP x then{D with cP:=d::D.cP}else D
  |.buildSlice _ 0 _=>if o.guard.isNone then{D with emp:=d::D.emp}else D
  |_=>match D4 o with
   |some x=>if IA T.cP x then{D with cP:=d::D.cP}else D
   |none=>D
 |_=>D
def E6(l:List (Nat×Nat))(t:Nat):Option Nat:=
 match l with
 |[]=>ah
 |(a,h)::l=>if ayI a t then aa h else E6 l t
def SR(T:lh)(o:Oper):List (Nat×Nat):=
 match o.guard,o.dst,o.op with
 |none,aa d,.fieldAddr _ (.tmp x) _=>(match E6 T.tg x with
  |some h=>if azp d T.nt then(d,h)::(T.del o.dst).tg else(T.del o.dst).tg
  |none=>(T.del o.dst).tg)
 |none,aa d,_=>(match D4 o with
  |some (.tmp x)=>(match E6 T.tg x with
   |some h=>if azp d T.nt then(d,h)::(T.del o.dst).tg else(T.del o.dst).tg
   |none=>(T.del o.dst).tg)
  |_=>(T.del o.dst).tg)
 |_,_,_=>(T.del o.dst).tg
def SU(T:lh)(o:Oper)(j:Nat):List (Nat×Nat×Nat×Nat):=
 match dy o with
 |.pure=>(T.del o.dst).ld
 |.load=>(match o.guard,o.dst,o.op with
  |none,aa d,.load _ (.tmp a)=>(match E6 T.tg a with
   |some h=>if azp d T.nt&& !ayI a d then(j,a,d,h)::(T.del o.dst).ld else(T.del o.dst).ld
   |none=>(T.del o.dst).ld)
  |_,_,_=>(T.del o.dst).ld)
 |_=>[]
def JA(T:lh)(o:Oper)(j:Nat):lh:={SQ T o with tg:=SR T o,ld:=SU T o j}
def Ko(pl:eJ)(j:Nat):Bool:=
 (azR j).all λi=>ayY (pl.cJ.getD j 0) i||(match pl.kinds.getD i .effect with|.alloc|.effect|.call=>af|_=>ab)
def ako(pl:eJ)(j:Nat):Bool:=
 (azR j).all λi=>ayY (pl.cJ.getD j 0) i||(match pl.kinds.getD i .effect with|.effect=>af|_=>ab)
def E7(pl:eJ)(j:Nat):Bool:=
 (azR j).all λi=>ayY (pl.cJ.getD j 0) i||(match pl.kinds.getD i .effect with|.pure=>ab|_=>af)
def Ny(o:Oper):Option Operand:=
 match o.op with
 |.call {callee:=.builtin .append,args,.. }=>args.toList.head?
 |_=>ah
def Nz(P:Program)(o:Oper):Bool:=
 match o.op with
 |.call {callee:=.builtin .len,argTypes,.. }=>match(argTypes[0]?).bind P.underlying with
  |some (.slice _)|some .string=>ab
  |_=>af
 |_=>af
def Ho(pl:eJ)(T:lh)(o:Oper)(j:Nat):Bool:=
 match o.guard,o.op with
 |none,.store _ (.tmp a) _=>(match E6 T.tg a with
  |some g=>Ko pl j&&(azR j).all λi=>ayY (pl.cJ.getD j 0) i||(match pl.kinds.getD i .effect with
   |.load=>T.ld.any λp=>ayI p.1 i&& !ayI p.2.2.2 g
   |.effect=>af
   |_=>ab)
  |none=>af)
 |_,_=>af
def mJ(P:Program)(pl:eJ)(T:lh)(o:Oper)(j:Nat):Bool:=
 match pl.kinds.getD j .effect with
 |.pure=>dy o==.pure
 |.alloc=>dy o==.alloc&&ab
 |.load=>dy o==.load&&(Ko pl j||(ako pl j&&(Nz P o||match o.op with|.load _ a=>IA T.cP a|_=>af)))
 |.call=>dy o==.call&&Ko pl j&&(D2 o||(match Ny o with|some a=>IA T.emp a|none=>af))
 |.effect=>E7 pl j||Ho pl T o j
def lI(P:Program)(pl:eJ):List (Oper×Nat)->lh->Bool
 |[],_=>ab
 |(o,j)::l,T=>mJ P pl T o j&&lI P pl l (JA T o j)
def aer(n0:Nat)(x:IV):Prop:=(∃id off ep ext,x=.ptr id off ep ext/\id<n0)\/(∃cs,x=.m5 cs)\/x=.undef
structure m7(n0:Nat)(e:Env)(T:lh):Prop where
 n:e.n=T.nt
 cP:∀t,yL T.cP t=ab->aer n0 (e.at t)
 emp:∀t,yL T.emp t=ab->e.at t=.emp
theorem Dc{l:List Nat}{d t:Nat}(h:yL (l.filter λt=> !ayI t d) t=ab):yL l t=ab/\t≠d:=by
 unfold yL at h⊢;rw[aB_]at h⊢;obtain⟨x,hx,hxt⟩:=h;obtain⟨h1,h2⟩:=azC.1 hx;have:=ayH hxt;subst this;exact⟨⟨t,h1,by simp⟩,λh=>by subst h;simp at h2⟩
theorem uL{l:List Nat}{d t:Nat}(h:yL (d::l) t=ab):t=d\/yL l t=ab:=by
 unfold yL at h⊢;simp only[List.any_cons,azf]at h;exact h.imp (λh=>ayH h) id
theorem gd{e:Env}{d t:Nat}{v:IV}(h:t≠d):(e.put (aa d) v).at t=e.at t:=by
 unfold Env.put Env.at;simp only;split
 .rw[T.gV,if_neg (Ne.symm h)]
 .rfl
theorem dG{e:Env}{d:Nat}{v:IV}(h:d<e.n):(e.put (aa d) v).at d=v:=by
 unfold Env.put Env.at;simp only;rw[if_pos (by simpa using h),T.gV,if_pos rfl];rfl
theorem akp(e:Env)(d:Option Nat)(v:IV):(e.put d v).n=e.n:=by
 unfold Env.put;split
 .rfl
 .split<;>rfl
theorem m7.del{n0:Nat}{e:Env}{T:lh}(h:m7 n0 e T)(d:Option Nat)(v:IV):m7 n0 (e.put d v) (T.del d):=by
 cases d with
 |none=>exact h
 |some d=>
  refine⟨by rw[akp];exact h.n,λt ht=>?_,λt ht=>?_⟩
  .obtain⟨h1,h2⟩:=Dc ht;rw[gd h2];exact h.cP t h1
  .obtain⟨h1,h2⟩:=Dc ht;rw[gd h2];exact h.emp t h1
theorem Hp{n0:Nat}{e:Env}{T:lh}(h:m7 n0 e T){x:Operand}(hx:IA T.cP x=ab):aer n0 (aC e x):=by
 cases x with
 |tmp t=>exact h.cP t hx
 |_=>cases hx
theorem abW{n0:Nat}{e:Env}{T:lh}(h:m7 n0 e T){x:Operand}(hx:IA T.emp x=ab):aC e x=.emp:=by
 cases x with
 |tmp t=>exact h.emp t hx
 |_=>cases hx
theorem JB{x:Operand}(h:D4 o=aa x):dy o=.pure:=by
 unfold D4 at h;unfold dy;split at h<;>first|(cases h;done)|(rename_i ho;rw[ho])
theorem Xb{x:Operand}(h:D4 o=aa x){ρ:Operand->IV}{v:IV}{au:St}(hv:aA P ro ρ o Y=aa (.val v au)):v=ρ x:=by
 unfold D4 at h;unfold aA at hv;split at h<;>try (cases h;done)
 .rename_i ho;cases h;rw[ho]at hv;dsimp only at hv;have:=aX hv;cases this;rfl
 .rename_i ho;cases h;rw[ho]at hv;dsimp only at hv
  repeat' split at hv
  all_goals try (cases hv;done)
  all_goals (rename_i he;have:=aX hv;cases this;exact he.symm)
theorem m7.aoJ{n0:Nat}{e:Env}{T:lh}{v:IV}{au:St}(h:m7 n0 e T)(hv:aA P ro (aC e) o Y=aa (.val v au)):m7 n0 (e.put o.dst v) (SQ T o):=by
 have hd:=h.del o.dst v;unfold SQ;simp only;split
 .rename_i d fN;split
  .exact hd
  .rename_i aj;have iN:d<e.n:=by rw[h.n];simpa using aj
   split
   .rename_i s x f ho;split
    .rename_i hx;refine⟨hd.n,λt ht=>?_,hd.emp⟩;rcases uL ht with rfl|ht
     .rw[fN,dG iN];have ho:=Hp h hx;unfold aA at hv;rw[‹o.op=_›]at hv;dsimp only at hv
      repeat' split at hv
      all_goals try (cases hv;done)
      .rename_i he _;rcases ho with⟨bz,Nb,ep',ext',h1,h2⟩|⟨cs,h1⟩|h1
       .rw[he]at h1;cases h1;have:=aX hv;cases this;exact .inl ⟨_,_,_,_,rfl,h2⟩
       .rw[he]at h1;cases h1
       .rw[he]at h1;cases h1
      .have:=aX hv;cases this;exact .inr (.inl ⟨_,rfl⟩)
     .exact hd.cP t ht
    .exact hd
   .rename_i t0 parts ho;split
    .refine⟨hd.n,hd.cP,λt ht=>?_⟩;rcases uL ht with rfl|ht
     .rw[fN,dG iN];unfold aA at hv;rw[ho]at hv;dsimp only at hv
      repeat' split at hv
      all_goals try (cases hv;done)
      all_goals first|(have:=aX hv;cases this;rfl)|(exfalso;omega)|skip
     .exact hd.emp t ht
    .exact hd
   .split
    .rename_i x hp;split
     .rename_i hx;refine⟨hd.n,λt ht=>?_,hd.emp⟩;rcases uL ht with rfl|ht
      .rw[fN,dG iN,Xb hp hv];exact Hp h hx
      .exact hd.cP t ht
     .exact hd
    .exact hd
 .exact hd
theorem m7.aoK{n0:Nat}{e:Env}{T:lh}{v:IV}{ops:Array Oper}(h:m7 n0 e T)(hw:(aT o ops e=af/\v=.undef)\/dy o=.call\/dy o=.effect):m7 n0 (e.put o.dst v) (SQ T o):=by
 have hd:=h.del o.dst v;unfold SQ;simp only;split
 .rename_i d fN;split
  .exact hd
  .rename_i aj;have iN:d<e.n:=by rw[h.n];simpa using aj
   rcases hw with⟨hw,rfl⟩|hw
   .split
    .split
     .refine⟨hd.n,λt ht=>?_,hd.emp⟩;rcases uL ht with rfl|ht
      .rw[fN,dG iN];exact .inr (.inr rfl)
      .exact hd.cP t ht
     .exact hd
    .split
     .rename_i hg;unfold aT at hw;rw[Option.isNone_iff_eq_none.1 hg]at hw;cases hw
     .exact hd
    .split
     .split
      .refine⟨hd.n,λt ht=>?_,hd.emp⟩;rcases uL ht with rfl|ht
       .rw[fN,dG iN];exact .inr (.inr rfl)
       .exact hd.cP t ht
      .exact hd
     .exact hd
   .unfold dy at hw;split
    .rename_i ho;rw[ho]at hw;rcases hw with hw|hw<;>cases hw
    .rename_i ho;rw[ho]at hw;rcases hw with hw|hw<;>cases hw
    .split
     .rename_i hp;have hk:=JB hp;unfold dy at hk;rw[hk]at hw;rcases hw with hw|hw<;>cases hw
     .exact hd
 .exact hd
theorem ZI{n0:Nat}{e:Env}{t:TypeId}{a:Operand}{v:IV}{au:St}(ho:o.op=.load t a)(ha:aer n0 (aC e a))(hv:aA P ro (aC e) o Y=aa (.val v au)){al:St}(LL:∀id,id<n0->al.at id=Y.at id)(gO:Nat):
 aA P gO (aC e) o al=aa (.val v al):=by
 unfold aA at hv⊢;rw[ho]at hv⊢;dsimp only at hv⊢;rcases ha with⟨id,off,ep,ext,h1,h2⟩|⟨cs,h1⟩|h1
 .rw[h1]at hv⊢;dsimp only at hv⊢;rw[LL id h2]
  repeat' split at hv
  all_goals try (cases hv;done)
  have:=aX hv;cases this
  simp_all[ret]
 .rw[h1]at hv⊢;dsimp only at hv⊢
  repeat' split at hv
  all_goals try (cases hv;done)
  have:=aX hv;cases this
  simp_all[ret]
 .rw[h1]at hv;simp only[IV.undef]at hv
  repeat' split at hv
  all_goals try (cases hv;done)
theorem aes{e:Env}{v:IV}{au:St}(h:Nz P o=ab)(hv:aA P ro (aC e) o Y=aa (.val v au))(gO:Nat)(al:St):aA P gO (aC e) o al=aa (.val v al):=by
 unfold Nz at h;split at h<;>try (cases h;done)
 rename_i args ats ho
 have hl:∀x τ τ' u,qj P ats x τ=aa u->qj P ats x τ'=aa u:=by
  intro x τ τ' u hu;unfold qj at hu⊢;cases hq:(ats[0]?).bind P.underlying with
  |none=>rw[hq]at h;cases h
  |some td=>
   cases td<;>rw[hq]at h hu<;>try (cases h;done)
   all_goals
    cases x<;>first|exact hu|skip
    rename_i v;cases v<;>first|exact hu|(rename_i a b c;cases a<;>exact hu)
 simp only[aA,ho,fx]at hv⊢;split at hv<;>try (cases hv;done)
 obtain⟨u,hu,hv⟩:=ayG.1 hv;cases hv;rw[hl _ _ al _ hu];rfl
theorem akq{e:Env}{a:Operand}{v:IV}{au:St}(hb:Ny o=aa a)(ha:aC e a=.emp)(hv:aA P ro (aC e) o Y=aa (.val v au)):(∀gO,aA P gO (aC e) o Y=aa (.val v au))/\(au=Y\/∃ob,au=Y.add ob):=by
 unfold Ny at hb;split at hb<;>try (cases hb;done)
 rename_i args ats jz;unfold aA at hv⊢;rw[jz]at hv⊢;dsimp only at hv⊢;unfold fx at hv⊢;split at hv
 .split at hv<;>try (cases hv;done)
  rename_i s x bE
  have hs:s=.emp:=by
   cases hl:args.toList with
   |nil=>rw[hl]at hb;cases hb
   |cons y l=>
    rw[hl]at hb bE;simp only[List.head?_cons,ayB]at hb;subst hb;simp only[List.map_cons,aAa]at bE;rw[<-bE.1,ha]
  subst hs;unfold mh at hv⊢
  repeat' split at hv
  all_goals try (cases hv;done)
  simp only[*];unfold fw at hv⊢;simp only at hv⊢;split at hv
  .have:=aX hv;cases this;refine⟨λ_=>?_,.inl rfl⟩
   simp_all
  .refine⟨λ_=>by simp_all,?_⟩;unfold f_ at hv
   repeat' split at hv
   all_goals try (cases hv;done)
   have:=aX hv;cases this;exact .inr ⟨_,rfl⟩
 all_goals (first|(exfalso;simp_all;done)|(simp_all;done))
theorem m7.step{n0:Nat}{e:Env}{T:lh}{v:IV}{au:St}(j:Nat)(h:m7 n0 e T)(hv:aA P ro (aC e) o Y=aa (.val v au)):m7 n0 (e.put o.dst v) (JA T o j):=
 have:=h.aoJ hv
 ⟨this.n,this.cP,this.emp⟩
theorem m7.skip{n0:Nat}{e:Env}{T:lh}{v:IV}{ops:Array Oper}(j:Nat)(h:m7 n0 e T)(hw:(aT o ops e=af/\v=.undef)\/dy o=.call\/dy o=.effect):m7 n0 (e.put o.dst v) (JA T o j):=
 have:=h.aoK hw
 ⟨this.n,this.cP,this.emp⟩
structure uc(P:Program)(ops:Array Oper)(θ:Nat->Option Nat)(e:Env)(Y:St)(T:lh):Prop where
 tg:∀t h,(t,h)∈T.tg->∃id off ep ext,θ h=aa id/\e.at t=.ptr id off ep ext
 ld:∀i a d h,(i,a,d,h)∈T.ld->∃p ty id off ep ext,ops[i]?=aa p/\p.op=.load ty (.tmp a)/\p.dst=aa d/\θ h=aa id/\e.at a=.ptr id off ep ext/\aA P 0 (aC e) p Y=aa (.val (e.at d) Y)
theorem yn:∀{l:List (Nat×Nat)} {t h:Nat},E6 l t=aa h->(t,h)∈l
 |[],_,_,h=>by cases h
 |(a,q)::l,t,h,hh=>by
  unfold E6 at hh;split at hh
  .rename_i hb;have:=ayH hb;cases hh;subst this;simp
  .exact azA _ (yn hh)
theorem SV{p:Oper}{ty:TypeId}{a:Operand}(hp:p.op=.load ty a){ρ DW:Operand->IV}(h:ρ a=DW a)(ro:Nat)(Y:St):aA P ro ρ p Y=aA P ro DW p Y:=by
 simp only[aA,hp,h]
theorem aet{p:Oper}{ty:TypeId}{a:Operand}(hp:p.op=.load ty a){ρ:Operand->IV}{id off ep ext:Nat}{v:IV}{au:St}(ha:ρ a=.ptr id off ep ext)(hv:aA P ro ρ p Y=aa (.val v au)){al:St}(LL:al.at id=Y.at id)(gO:Nat):aA P gO ρ p al=aa (.val v al):=by
 unfold aA at hv⊢;rw[hp]at hv⊢;dsimp only at hv⊢;rw[ha]at hv⊢;dsimp only at hv⊢;rw[LL]
 repeat' split at hv
 all_goals try (cases hv;done)
 have:=aX hv;cases this
 simp_all[ret]
theorem akr{T:lh}{dst:Option Nat}{t h:Nat}(hm:(t,h)∈(T.del dst).tg):(t,h)∈T.tg/\dst≠aa t:=by
 cases dst with
 |none=>exact⟨hm,by simp⟩
 |some d=>
  obtain⟨h1,h2⟩:=azC.1 hm;exact⟨h1,λhe=>by cases he;simp at h2⟩
theorem aks{T:lh}{dst:Option Nat}{i a d h:Nat}(hm:(i,a,d,h)∈(T.del dst).ld):(i,a,d,h)∈T.ld/\dst≠aa a/\dst≠aa d:=by
 cases dst with
 |none=>exact⟨hm,by simp,by simp⟩
 |some q=>
  obtain⟨h1,h2⟩:=azC.1 hm;exact⟨h1,λhe=>by cases he;simp at h2,λhe=>by cases he;simp at h2⟩
theorem Bz{e:Env}{dst:Option Nat}{v:IV}{t:Nat}(h:dst≠aa t):(e.put dst v).at t=e.at t:=by
 cases dst with
 |none=>rfl
 |some d=>exact gd λhe=>h (by rw[he])
theorem uc.Dd{ops:Array Oper}{θ:Nat->Option Nat}{e:Env}{T:lh}(h:uc P ops θ e Y T)(dst:Option Nat)(v:IV):∀t q,(t,q)∈(T.del dst).tg->∃id off ep ext,θ q=aa id/\(e.put dst v).at t=.ptr id off ep ext:=by
 intro t q hm;obtain⟨h1,h2⟩:=akr hm;rw[Bz h2];exact h.tg t q h1
theorem uc.Kp{ops:Array Oper}{θ:Nat->Option Nat}{e:Env}{T:lh}(h:uc P ops θ e Y T)(dst:Option Nat)(v:IV):∀i a d q,(i,a,d,q)∈(T.del dst).ld->∃p ty id off ep ext,ops[i]?=aa p/\p.op=.load ty (.tmp a)/\p.dst=aa d/\θ q=aa id/\(e.put dst v).at a=.ptr id off ep ext/\aA P 0 (aC (e.put dst v)) p Y=aa (.val ((e.put dst v).at d) Y):=by
 intro i a d q hm;obtain⟨h1,h2,h3⟩:=aks hm;obtain⟨p,ty,id,off,ep,ext,g1,g2,g3,g4,g5,g6⟩:=h.ld i a d q h1;refine⟨p,ty,id,off,ep,ext,g1,g2,g3,g4,by rw[Bz h2];exact g5,?_⟩;rw[Bz h3,<-g6];exact SV g2 (by show(e.put dst v).at a=e.at a;exact Bz h2) _ _
theorem uc.step{ops:Array Oper}{θ:Nat->Option Nat}{n0:Nat}{e:Env}{T:lh}{v:IV}{au:St}{j:Nat}(hj:ops[j]?=aa o)(h:uc P ops θ e Y T)(hT:m7 n0 e T)(hv:aA P ro (aC e) o Y=aa (.val v au)):uc P ops θ (e.put o.dst v) au (JA T o j):=by
 refine⟨λt q hm=>?_,λi a d q hm=>?_⟩
 .have hm:(t,q)∈SR T o:=hm;unfold SR at hm;split at hm
  .rename_i d s x f hg fN jz;split at hm
   .rename_i hh Kq;split at hm
    .rename_i aj;rcases ayN.1 hm with he|hm
     .cases he;obtain⟨id,off,ep,ext,g1,g2⟩:=h.tg _ _ (yn Kq);have hx:aC e (.tmp x)=.ptr id off ep ext:=g2;have iN:t<e.n:=by rw[hT.n];simpa using aj
      rw[fN,dG iN];unfold aA at hv;rw[jz]at hv;dsimp only at hv
      repeat' split at hv
      all_goals try (cases hv;done)
      .rename_i he _;rw[hx]at he;cases he;have:=aX hv;cases this;exact⟨_,_,_,_,g1,rfl⟩
      .rename_i he _;rw[hx]at he;cases he
     .exact h.Dd _ _ t q hm
    .exact h.Dd _ _ t q hm
   .exact h.Dd _ _ t q hm
  .rename_i d hg fN jz;split at hm
   .rename_i x hp;split at hm
    .rename_i hh Kq;split at hm
     .rename_i aj;rcases ayN.1 hm with he|hm
      .cases he;obtain⟨id,off,ep,ext,g1,g2⟩:=h.tg _ _ (yn Kq);have iN:t<e.n:=by rw[hT.n];simpa using aj
       rw[fN,dG iN,Xb hp hv];exact⟨id,off,ep,ext,g1,g2⟩
      .exact h.Dd _ _ t q hm
     .exact h.Dd _ _ t q hm
    .exact h.Dd _ _ t q hm
   .exact h.Dd _ _ t q hm
  .exact h.Dd _ _ t q hm
 .have hm:(i,a,d,q)∈SU T o j:=hm;unfold SU at hm;split at hm
  .rename_i hk;obtain⟨rfl,_⟩:=Hg hk hv;exact h.Kp _ _ i a d q hm
  .rename_i hk;obtain⟨rfl,pq⟩:=Hh hk hv;split at hm
   .rename_i d' ty a' hg fN jz;split at hm
    .rename_i hh Kq;split at hm
     .rename_i hc;rcases ayN.1 hm with he|hm
      .cases he;simp only[ayz,azn]at hc;have bt:a≠d:=λhe=>by subst he;simp at hc
       have iN:d<e.n:=by rw[hT.n];simpa using hc.1
       obtain⟨id,off,ep,ext,g1,g2⟩:=h.tg _ _ (yn Kq);have ha:(e.put o.dst v).at a=e.at a:=by rw[fN];exact gd bt
       refine⟨o,ty,id,off,ep,ext,hj,jz,fN,g1,by rw[ha];exact g2,?_⟩;rw[SV jz (DW:=aC e) (show(e.put o.dst v).at a=e.at a from ha),pq 0,fN,dG iN]
      .exact h.Kp _ _ i a d q hm
     .exact h.Kp _ _ i a d q hm
    .exact h.Kp _ _ i a d q hm
   .exact h.Kp _ _ i a d q hm
  .cases hm
theorem uc.skip{ops:Array Oper}{θ:Nat->Option Nat}{e:Env}{T:lh}{v:IV}{au:St}{j:Nat}(h:uc P ops θ e Y T)(hw:(aT o ops e=af/\au=Y)\/dy o=.call\/dy o=.effect):uc P ops θ (e.put o.dst v) au (JA T o j):=by
 have Hq:(aT o ops e=af/\au=Y)->o.guard≠ah:=λhw hg=>by
  have:=hw.1;unfold aT at this;rw[hg]at this;cases this
 refine⟨λt q hm=>?_,λi a d q hm=>?_⟩
 .have hm:(t,q)∈SR T o:=hm;unfold SR at hm;split at hm
  .rename_i d s x f hg fN jz;rcases hw with hw|hw
   .exact absurd hg (Hq hw)
   .unfold dy at hw;rw[jz]at hw;rcases hw with hw|hw<;>cases hw
  .rename_i d hg fN jz;split at hm
   .rename_i x hp;rcases hw with hw|hw
    .exact absurd hg (Hq hw)
    .rw[JB hp]at hw;rcases hw with hw|hw<;>cases hw
   .exact h.Dd _ _ t q hm
  .exact h.Dd _ _ t q hm
 .have hm:(i,a,d,q)∈SU T o j:=hm;unfold SU at hm;split at hm
  .rename_i hk;rcases hw with⟨_,rfl⟩|hw
   .exact h.Kp _ _ i a d q hm
   .rw[hk]at hw;rcases hw with hw|hw<;>cases hw
  .rename_i hk;rcases hw with hw|hw
   .obtain⟨_,rfl⟩:=id hw;split at hm
    .rename_i hg _ _;exact absurd hg (Hq hw)
    .exact h.Kp _ _ i a d q hm
   .rw[hk]at hw;rcases hw with hw|hw<;>cases hw
  .cases hm
theorem abX{ty:TypeId}{a x:Operand}(ho:o.op=.store ty a x){ρ:Operand->IV}{id off ep ext:Nat}(ha:ρ a=.ptr id off ep ext){v:IV}{au:St}(hv:aA P ro ρ o Y=aa (.val v au)):au.n=Y.n/\∀bz,bz≠id->au.at bz=Y.at bz:=by
 unfold aA at hv;rw[ho]at hv;dsimp only at hv;rw[ha]at hv;dsimp only at hv
 repeat' split at hv
 all_goals try (cases hv;done)
 all_goals
  have:=aX hv;cases this;exact⟨rfl,λbz bt=>by rw[St.dv,if_neg (Ne.symm bt)]⟩
theorem abY{pl:eJ}{T:lh}{j:Nat}(h:Ho pl T o j=ab):Ko pl j=ab:=by
 unfold Ho at h;split at h<;>try (cases h;done)
 split at h<;>try (cases h;done)
 simp only[ayz]at h;exact h.1
theorem IB{pl:eJ}{j i:Nat}(h:Ko pl j=ab)(hi:i<j)(hk:bw pl i=.alloc\/bw pl i=.effect\/bw pl i=.call):ayY (pl.cJ.getD j 0) i=ab:=by
 have:=ayP.1 h i (aAv.2 hi);simp only[azf]at this;refine this.resolve_right λhh=>?_;unfold bw at hk;rcases hk with hk|hk|hk<;>rw[hk]at hh<;>cases hh
theorem aip{pl:eJ}{j i:Nat}(h:ako pl j=ab)(hi:i<j)(hk:bw pl i=.effect):ayY (pl.cJ.getD j 0) i=ab:=by
 have:=ayP.1 h i (aAv.2 hi);simp only[azf]at this;refine this.resolve_right λhh=>?_;unfold bw at hk;rw[hk]at hh;cases hh
theorem Xc{pl:eJ}{j i:Nat}(h:E7 pl j=ab)(hi:i<j)(hk:bw pl i≠.pure):ayY (pl.cJ.getD j 0) i=ab:=by
 have:=ayP.1 h i (aAv.2 hi);simp only[azf]at this;refine this.resolve_right λhh=>hk ?_;unfold bw;split at hh
 .assumption
 .cases hh
theorem Hr:∀(l:List Piece) (b:T Ob),(∀p∈l,p.hi<=p.lo)->l.foldl dU b=b
 |[],_,_=>rfl
 |p::l,b,h=>by
  rw[aze,mv b p (h p (aAR ..))];exact Hr l b λq hq=>h q (azA _ hq)
theorem Hs{n0:Nat}:∀(l:List Piece) (b:T Ob),(∀p∈l,n0<=p.lo)->∀id,id<n0->(l.foldl dU b).get id=b.get id
 |[],_,_,_,_=>rfl
 |p::l,b,h,id,hid=>by
  rw[aze,Hs l _ (λq hq=>h q (azA _ hq)) id hid,l7,if_neg];have:=h p (aAR ..);omega
structure oQ(pl:eJ)(n0 j:Nat)(d:DS)(e:Env)(Y:St):Prop where
 e:d.e=e
 n:d.n=Y.n
 le:n0<=Y.n
 bs:∃i b rest,d.bs=(i,b)::rest/\(rest=[]\/(i<j/\bw pl i=.effect))/\d.aM.foldl dU b=Y.t/\b.WF
 aM:∀p∈d.aM,(p.hi<=p.lo\/(p.j<j/\(bw pl p.j=.alloc\/bw pl p.j=.call)))/\p.hi<=d.n/\n0<=p.lo
variable{ops:Array Oper}{pl:eJ}{d:DS}{e e':Env}{al:St}{j n0:Nat}
theorem wN{b:T Ob}(hs:oQ pl n0 j d e Y)(eg:d.aM.foldl dU b=Y.t)(ho:Ko pl j=ab):seen d.aM (pl.cJ.getD j 0) b=Y.t:=by
 unfold seen;rw[vq _ _ λp hp=>?_,eg];rcases(hs.aM p hp).1 with h|⟨h1,h2⟩
 .exact .inr h
 .exact .inl (IB ho h1 (h2.elim .inl λh=>.inr (.inr h)))
theorem abZ(h:E7 pl j=ab):Ko pl j=ab:=by
 refine ayP.2 λi hi=>?_;have:=ayP.1 h i hi;simp only[azf]at this⊢;refine this.imp id λh=>?_;split at h
 .rename_i hk;rw[hk]
 .cases h
theorem JC{bits:Nat}{e:Env}{n:Nat}{aM:List Piece}{b:T Ob}{l:List (Oper×Nat)}(h:∀p i,(p,i)∈l->bw pl i=.load->ayY bits i=ab):recheck P pl ops bits e n aM b l=ab:=by
 unfold recheck;rw[ayP];rintro⟨p,q⟩ Az;simp only;split
 .rename_i wx;rw[h p q Az wx];rfl
 .rfl
theorem BA{U:Self}{au:St}{v:IV}(hs:oQ pl n0 j d e Y)(hk:bw pl j=.effect)(hw:aT o ops e=ab)(iF:∀p i,(p,i)∈ops.toList.zipIdx.take j->(p,i)∈ops.toList.zipIdx/\i<j)(hA:E7 pl j=ab)
 (hx:kY P U ro e o Y=aa (v,au))(mu:au.t.WF)(hn:Y.n<=au.n):∃d1,ct P U pl ro ops o j d=aa d1/\oQ pl n0 (j+1) d1 (e.put o.dst v) au:=by
 obtain⟨i,b,rest,da,eR,eg,k_⟩:=hs.bs;have oB:=wN hs eg (abZ hA);have bI:(⟨d.n,seen d.aM (pl.cJ.getD j 0) b⟩:St)=Y:=by rw[oB,hs.n]
 refine⟨⟨e.put o.dst v,au.n,(j,au.t)::d.bs,d.aM.filter λp=> !ayY (pl.cJ.getD j 0) p.j⟩,?_,⟨rfl,rfl,ayU hs.le hn,⟨j,au.t,d.bs,rfl,.inr ⟨by omega,hk⟩,?_,mu⟩,λp hp=>?_⟩⟩
 .unfold ct;rw[da];simp only;rw[hs.e,hw,if_pos rfl];have dq:pl.kinds.getD j .effect=.effect:=hk;rw[dq];simp only;rw[bI,hx];simp only;rw[if_pos (JC λp q Az wx=>Xc hA (iF p q Az).2 (by rw[wx];simp))]
 .refine Bu _ _ λp hp hf=>?_;rcases(hs.aM p hp).1 with h|⟨h1,h2⟩
  .exact h
  .rw[IB (abZ hA) h1 (h2.elim .inl λh=>.inr (.inr h))]at hf;cases hf
 .have va:=(azC.1 hp).1;obtain⟨h1,h2,h3⟩:=hs.aM p va;exact⟨h1.imp id (λh=>⟨by omega,h.2⟩),by rw[hs.n]at h2;exact ayU h2 hn,h3⟩
theorem ab0{T:lh}{θ:Nat->Option Nat}(SX:∀k k' id,θ k=aa id->θ k'=aa id->k=k')(hL:uc P ops θ e Y T){U:Self}{au:St}{v:IV}(hs:oQ pl n0 j d e Y)(hk:bw pl j=.effect)(hw:aT o ops e=ab)(iF:∀p i,(p,i)∈ops.toList.zipIdx.take j->(p,i)∈ops.toList.zipIdx/\i<j)(hX:Ho pl T o j=ab)
 (hv:aA P ro (aC e) o Y=aa (.val v au))(mu:au.t.WF)(hn:Y.n<=au.n):∃d1,ct P U pl ro ops o j d=aa d1/\oQ pl n0 (j+1) d1 (e.put o.dst v) au:=by
 obtain⟨i,b,rest,da,eR,eg,k_⟩:=hs.bs;have oB:=wN hs eg (abY hX);have bI:(⟨d.n,seen d.aM (pl.cJ.getD j 0) b⟩:St)=Y:=by rw[oB,hs.n]
 have hx:kY P U ro e o Y=aa (v,au):=by unfold kY;rw[hv]
 have aec:∀p∈(d.aM.filter λp=> !ayY (pl.cJ.getD j 0) p.j),p.hi<=p.lo:=λp hp=>by
  obtain⟨oK,hp2⟩:=azC.1 hp;rcases(hs.aM p oK).1 with h|⟨h1,h2⟩
  .exact h
  .rw[IB (abY hX) h1 (h2.elim .inl λh=>.inr (.inr h))]at hp2;cases hp2
 refine⟨⟨e.put o.dst v,au.n,(j,au.t)::d.bs,d.aM.filter λp=> !ayY (pl.cJ.getD j 0) p.j⟩,?_,⟨rfl,rfl,ayU hs.le hn,⟨j,au.t,d.bs,rfl,.inr ⟨by omega,hk⟩,?_,mu⟩,λp hp=>?_⟩⟩
 .unfold ct;rw[da];simp only;rw[hs.e,hw,if_pos rfl];have dq:pl.kinds.getD j .effect=.effect:=hk;rw[dq];simp only;rw[bI,hx];simp only;rw[if_pos];unfold recheck;rw[ayP];rintro⟨p,q⟩ Az;simp only;split
  .rename_i wx;obtain⟨at1,hqj⟩:=iF p q Az;unfold Ho at hX;split at hX<;>try (cases hX;done)
   rename_i ty a x hg jz;split at hX<;>try (cases hX;done)
   rename_i g Kq;simp only[ayz,ayP]at hX;have hq:=hX.2 q (aAv.2 hqj);rw[azf]at hq;rcases hq with hq|hq
   .rw[hq];rfl
   .rw[wx]at hq;simp only[aB_,ayz,azn]at hq;obtain⟨⟨i',a',d',h'⟩,hm,cX,bt⟩:=hq;have:=ayH cX;simp only at this;subst this;obtain⟨p',ty',id,off,ep,ext,g1,g2,g3,g4,g5,g6⟩:=hL.ld _ _ _ _ hm
    have hpp:p=p':=by
     have:=az6.1 at1;rw[aAz]at this;rw[g1]at this;cases this;rfl
    subst hpp;obtain⟨id2,ayh,ep2,ayi,f1,f2⟩:=hL.tg _ _ (yn Kq);obtain⟨e1,e2⟩:=abX jz (show aC e (.tmp a)=_ from f2) hv
    have aoL:id≠id2:=λhe=>by
     subst he;have:=SX _ _ _ g4 f1;subst this;simp at bt
    have aoM:=aet g2 (show aC e (.tmp a')=_ from g5) g6 (e2 id aoL) au.n
    have hse:seen (d.aM.filter λp=> !ayY (pl.cJ.getD j 0) p.j) (pl.cJ.getD i' 0) au.t=au.t:=by
     unfold seen;exact Hr _ _ λp hp=>aec p (azC.1 hp).1
    rw[g3];simp only;unfold loadAt;rw[hse,aoM];simp[Sm.sm]
  .rfl
 .exact Hr _ _ aec
 .have va:=(azC.1 hp).1;obtain⟨h1,h2,h3⟩:=hs.aM p va;exact⟨h1.imp id (λh=>⟨by omega,h.2⟩),by rw[hs.n]at h2;exact ayU h2 hn,h3⟩
theorem noX{T:lh}(h:Ho pl T o j=ab)(hn:(∃ro ρ f args,aA P ro ρ o Y=aa (.enter f args))\/aT o ops e=af):False:=by
 unfold Ho at h;split at h<;>try (cases h;done)
 rename_i ty a x hg jz;rcases hn with⟨ro,ρ,f,args,hn⟩|hn
 .unfold aA at hn;rw[jz]at hn;dsimp only at hn
  repeat' split at hn
  all_goals try (cases hn;done)
  all_goals (have:=aX hn;cases this)
 .unfold aT at hn;rw[hg]at hn;cases hn
theorem LP{fr:Bool}{l:List (Oper×Nat)}{θ:Nat->Option Nat}(SX:∀k k' id,θ k=aa id->θ k'=aa id->k=k')(h:gE P ro ops pl fr l e Y e' al):
 ∀(k:Nat) (d:DS) (T:lh),ops.toList.zipIdx.drop k=l->oQ pl n0 k d e Y->lI P pl l T=ab->m7 n0 e T->uc P ops θ e Y T->
  ∃SF:Nat->Self,(∀i,np P (SF i))/\∃d',j_ P SF pl ro ops l d=aa d'/\d'.e=e'/\d'.n=al.n/\∃i b rest,d'.bs=(i,b)::rest/\d'.aM.foldl dU b=al.t:=by
 have dt:∀{o:Oper} {j:Nat} {l:List (Oper×Nat)} {k:Nat},ops.toList.zipIdx.drop k=(o,j)::l->j=k/\ops.toList.zipIdx.drop (k+1)=l/\
  (∀p i,(p,i)∈ops.toList.zipIdx.take j->(p,i)∈ops.toList.zipIdx/\i<j)/\(∀o' i,(o',i)∈l->i≠j)/\ops[j]?=aa o:=by
  intro o j l k h;have h1:(ops.toList.zipIdx.drop k)[0]?=aa (o,j):=by rw[h];rfl
  rw[List.getElem?_drop,Nat.add_zero]at h1;rw[List.getElem?_zipIdx]at h1
  have hj:j=k:=by
   cases hk:ops.toList[k]? with
   |none=>rw[hk]at h1;cases h1
   |some o'=>rw[hk]at h1;simp at h1;omega
  have Ar:ops.toList.zipIdx.drop (k+1)=l:=by rw[<-aAG (i:=1) (j:=k),h];rfl
  have mj:ops[j]?=aa o:=by
   rw[hj];cases hk:ops.toList[k]? with
   |none=>rw[hk]at h1;cases h1
   |some o'=>
    rw[hk]at h1;simp at h1;rw[aAz]at hk;rw[hk,h1.1]
  refine⟨hj,Ar,λp i hp=>⟨List.mem_of_mem_take hp,?_⟩,λo' i hi=>?_,mj⟩
  .obtain⟨m,hm,he⟩:=aBI hp;rw[List.length_take]at hm;rw[List.getElem_take,aBJ]at he;cases he;omega
  .rw[<-Ar]at hi;obtain⟨m,hm,he⟩:=aBI hi;rw[List.getElem_drop,aBJ]at he;cases he;omega
 induction h with
 |nil e Y=>
  intro k d T _ hs _ _ _;obtain⟨i,b,rest,h1,_,h3,_⟩:=hs.bs;exact⟨λ_=>Self.none,λ_=>qd,d,rfl,hs.e,hs.n,i,b,rest,h1,h3⟩
 | @skip o j l e Y e' al hw h ih=>
   intro k d T hl hs hc hT BB;obtain⟨rfl,hd,iF,aj,mj⟩:=dt hl;simp only[lI,ayz]at hc;obtain⟨cd,lE⟩:=hc;obtain⟨i,b,rest,da,eR,eg,k_⟩:=hs.bs;have kf:∀p∈d.aM,(p.hi<=p.lo\/(p.j<j+1/\(bw pl p.j=.alloc\/bw pl p.j=.call)))/\p.hi<=d.n/\n0<=p.lo:=λp hp=>⟨(hs.aM p hp).1.imp id (λh=>⟨by omega,h.2⟩),(hs.aM p hp).2⟩
   have key:∃U,np P U/\∃d1,ct P U pl ro ops o j d=aa d1/\oQ pl n0 (j+1) d1 (e.put o.dst .undef) Y:=by
    refine⟨Self.none,qd,?_⟩;by_cases hk:bw pl j=.effect
    .refine⟨⟨d.e.put o.dst .undef,d.n,(j,b)::d.bs,d.aM⟩,?_,⟨by rw[hs.e],hs.n,hs.le,⟨j,b,d.bs,rfl,.inr ⟨by omega,hk⟩,eg,k_⟩,kf⟩⟩;unfold ct;rw[da];simp only;rw[hs.e,hw,if_neg ax];have dq:pl.kinds.getD j .effect=.effect:=hk;have hA:E7 pl j=ab:=by unfold mJ at cd;rw[dq,azf]at cd;exact cd.elim id λh=>(noX (P:=P) (Y:=Y) h (.inr hw)).elim
     rw[dq];simp only;rw[if_pos (JC λp q Az wx=>Xc hA (iF p q Az).2 (by rw[wx];simp))]
    .refine⟨{d with e:=d.e.put o.dst .undef},?_,⟨by rw[hs.e],hs.n,hs.le,⟨i,b,rest,da,eR.imp id (λh=>⟨by omega,h.2⟩),eg,k_⟩,kf⟩⟩;unfold ct;rw[da];simp only;rw[hs.e,hw,if_neg ax];have dq:pl.kinds.getD j .effect≠.effect:=hk;cases hq:pl.kinds.getD j .effect<;>first|exact absurd hq dq|simp only
   obtain⟨U,hU,d1,h1,h2⟩:=key;obtain⟨SF,kz,d',h3,h4⟩:=ih (j+1) d1 (JA T o j) hd h2 lE (hT.skip j (.inl ⟨hw,rfl⟩)) (BB.skip (.inl ⟨hw,rfl⟩));obtain⟨qL,h5,h6⟩:=nq hU kz h1 h3 aj;exact⟨qL,h5,d',h6,h4⟩
 | @val o j l e Y e' al v au hw hv h ih=>
   intro k d T hl hs hc hT BB;obtain⟨rfl,hd,iF,aj,mj⟩:=dt hl;simp only[lI,ayz]at hc;obtain⟨cd,lE⟩:=hc;obtain⟨i,b,rest,da,eR,eg,k_⟩:=hs.bs;have qM:Y.t.WF:=eg▸mw _ k_;have kf:∀p∈d.aM,(p.hi<=p.lo\/(p.j<j+1/\(bw pl p.j=.alloc\/bw pl p.j=.call)))/\p.hi<=d.n/\n0<=p.lo:=λp hp=>⟨(hs.aM p hp).1.imp id (λh=>⟨by omega,h.2⟩),(hs.aM p hp).2⟩
   have one:∀(t:Go.Ev.T Ob),((au=Y)\/∃ob,au=Y.add ob/\t.get Y.n=aa ob)->(bw pl j=.alloc\/bw pl j=.call)->
    oQ pl n0 (j+1) ⟨d.e.put o.dst v,au.n,d.bs,⟨j,d.n,au.n,t⟩::d.aM⟩ (e.put o.dst v) au:=by
    intro t vd hk;refine⟨by rw[hs.e],rfl,ayU hs.le (nS hv),⟨i,b,rest,da,eR.imp id (λh=>⟨by omega,h.2⟩),?_,k_⟩,λp hp=>?_⟩
    .simp only[aze];rcases vd with rfl|⟨ob,rfl,ht⟩
     .rw[mv _ _ (by simp[hs.n]),eg]
     .refine Go.Ev.T.WF.ext (mw _ (zj k_ _)) (qM.set _ _) λid=>?_
      have:=Bv (n:=Y.n) (ob:=ob) d.aM (dU b ⟨j,d.n,(Y.add ob).n,t⟩) b (λp hp=>by rw[<-hs.n];exact(hs.aM p hp).2.1) (λid=>by
       rw[l7,Go.Ev.T.gV];simp only[hs.n,St.kB];by_cases hid:Y.n=id
       .subst hid;simp[ht]
       .rw[if_neg ai,if_neg hid]) id
      rw[this,eg];rfl
    .rcases ayN.1 hp with rfl|hp
     .exact⟨.inr ⟨by simp,hk⟩,ayA _,by show n0<=d.n;rw[hs.n];exact hs.le⟩
     .obtain⟨h1,h2,h3⟩:=kf p hp;exact⟨h1,by have:=nS hv;rw[hs.n]at h2;exact ayU h2 this,h3⟩
   have key:∃U,np P U/\∃d1,ct P U pl ro ops o j d=aa d1/\oQ pl n0 (j+1) d1 (e.put o.dst v) au:=by
    refine⟨Self.none,qd,?_⟩;cases hk:bw pl j with
    |pure=>
     have dq:pl.kinds.getD j .effect=.pure:=hk;unfold mJ at cd;rw[dq]at cd;have l8:dy o=.pure:=by simpa using cd
     obtain⟨rfl,pq⟩:=Hg l8 hv;refine⟨{d with e:=d.e.put o.dst v},?_,⟨by rw[hs.e],hs.n,hs.le,⟨i,b,rest,da,eR.imp id (λh=>⟨by omega,h.2⟩),eg,k_⟩,kf⟩⟩;unfold ct;rw[da];simp only;rw[hs.e,hw,if_pos rfl];rw[dq];simp only;rw[pq 0 ⟨0,.lf⟩];simp
    |alloc=>
     have dq:pl.kinds.getD j .effect=.alloc:=hk;unfold mJ at cd;rw[dq]at cd;simp only[ayz,beq_iff_eq]at cd;obtain⟨t,pq,vd⟩:=LM cd.1 hv;refine⟨⟨d.e.put o.dst v,au.n,d.bs,⟨j,d.n,au.n,t⟩::d.aM⟩,?_,one t (vd.imp (λh=>h.1) λ⟨ob,h1,h2⟩=>⟨ob,h1,by rw[h2,Go.Ev.T.gV,if_pos rfl]⟩) (.inl hk)⟩;unfold ct;rw[da];simp only;rw[hs.e,hw,if_pos rfl];rw[dq];simp only;rw[hs.n,pq 0]
    |load=>
     have dq:pl.kinds.getD j .effect=.load:=hk;unfold mJ at cd;rw[dq]at cd;simp only[ayz,beq_iff_eq,azf]at cd;obtain⟨l8,cd⟩:=cd;obtain⟨rfl,pq⟩:=Hh l8 hv
     have fD:aA P d.n (aC e) o ⟨d.n,seen d.aM (pl.cJ.getD j 0) b⟩=aa (.val v ⟨d.n,seen d.aM (pl.cJ.getD j 0) b⟩):=by
      rcases cd with ho|⟨_,ho⟩
      .have oB:=wN hs eg ho;have bI:(⟨d.n,seen d.aM (pl.cJ.getD j 0) b⟩:St)=au:=by rw[oB,hs.n]
       rw[bI];exact pq d.n
      .rcases ho with ho|ho
       .exact aes ho hv _ _
       split at ho<;>try (cases ho;done)
       rename_i t a jz;refine ZI jz (Hp hT ho) hv (λid hid=>?_) d.n;show(seen d.aM (pl.cJ.getD j 0) b).get id=au.t.get id;unfold seen;rw[<-eg,Hs _ _ (λp hp=>(hs.aM p (azC.1 hp).1).2.2) id hid,Hs _ _ (λp hp=>(hs.aM p hp).2.2) id hid]
     have ZJ:(ayY (pl.cJ.getD j 0) i||nQ P e o d.n v d.aM (pl.cJ.getD j 0) rest)=ab:=by
      rcases eR with rfl|⟨h1,h2⟩
      .simp[nQ]
      .have:ayY (pl.cJ.getD j 0) i=ab:=by
        rcases cd with ho|⟨ho,_⟩
        .exact IB ho h1 (.inr (.inl h2))
        .exact aip ho h1 h2
       rw[this];rfl
     refine⟨{d with e:=d.e.put o.dst v},?_,⟨by rw[hs.e],hs.n,hs.le,⟨i,b,rest,da,eR.imp id (λh=>⟨by omega,h.2⟩),eg,k_⟩,kf⟩⟩;unfold ct;rw[da];simp only;rw[hs.e,hw,if_pos rfl];rw[dq];simp only;rw[fD];simp only;rw[if_pos ⟨trivial,ZJ⟩]
    |call=>
     have dq:pl.kinds.getD j .effect=.call:=hk;unfold mJ at cd;rw[dq]at cd;simp only[ayz,azf]at cd;obtain⟨⟨_,ho⟩,cd⟩:=cd;rcases cd with cd|cd
     .exact(GI cd hv).elim
     .split at cd<;>try (cases cd;done)
      rename_i a hb;obtain⟨pq,vd⟩:=akq hb (abW hT cd) hv;have oB:=wN hs eg ho;have bI:(⟨d.n,seen d.aM (pl.cJ.getD j 0) b⟩:St)=Y:=by rw[oB,hs.n]
      refine⟨⟨d.e.put o.dst v,au.n,d.bs,⟨j,d.n,au.n,au.t⟩::d.aM⟩,?_,one au.t (vd.imp id λ⟨ob,h1⟩=>⟨ob,h1,by rw[h1];exact(by simp[St.add,Go.Ev.T.gV])⟩) (.inr hk)⟩;unfold ct;rw[da];simp only;rw[hs.e,hw,if_pos rfl];rw[dq];simp only;rw[bI];unfold kY;rw[pq d.n]
    |effect=>
     have dq:pl.kinds.getD j .effect=.effect:=hk;have hA:(E7 pl j||Ho pl T o j)=ab:=by unfold mJ at cd;rw[dq]at cd;exact cd
     rw[azf]at hA;rcases hA with hA|hA
     .refine BA hs hk hw iF hA ?_ (ZB hv qM) (nS hv);unfold kY;rw[hv]
     .exact ab0 SX BB hs hk hw iF hA hv (ZB hv qM) (nS hv)
   obtain⟨U,hU,d1,h1,h2⟩:=key;obtain⟨SF,kz,d',h3,h4⟩:=ih (j+1) d1 (JA T o j) hd h2 lE (hT.step j hv) (BB.step mj hT hv);obtain⟨qL,h5,h6⟩:=nq hU kz h1 h3 aj;exact⟨qL,h5,d',h6,h4⟩
 | @Re o j l e Y e' al f args v hw hv jf h ih=>
   intro k d T hl hs hc hT BB;obtain⟨rfl,hd,iF,aj,mj⟩:=dt hl;simp only[lI,ayz]at hc;obtain⟨cd,lE⟩:=hc;obtain⟨i,b,rest,da,eR,eg,k_⟩:=hs.bs;have qM:Y.t.WF:=eg▸mw _ k_;have kf:∀p∈d.aM,(p.hi<=p.lo\/(p.j<j+1/\(bw pl p.j=.alloc\/bw pl p.j=.call)))/\p.hi<=d.n/\n0<=p.lo:=λp hp=>⟨(hs.aM p hp).1.imp id (λh=>⟨by omega,h.2⟩),(hs.aM p hp).2⟩
   have yj:∀gO,kY P (sB ah f args Y v Y) gO e o Y=aa (v,Y):=by
    intro gO;unfold kY;rw[EY hv gO Y];simp[sB]
   have kP:=vt hv
   have key:∃U,np P U/\∃d1,ct P U pl ro ops o j d=aa d1/\oQ pl n0 (j+1) d1 (e.put o.dst v) Y:=by
    refine⟨sB ah f args Y v Y,vp λgO _=>jf gO,?_⟩;cases hk:bw pl j with
    |pure=>
     have dq:pl.kinds.getD j .effect=.pure:=hk;unfold mJ at cd;rw[dq]at cd;have l8:dy o=.pure:=by simpa using cd
     rw[l8]at kP;rcases kP with kP|kP<;>cases kP
    |alloc=>
     have dq:pl.kinds.getD j .effect=.alloc:=hk;unfold mJ at cd;rw[dq]at cd;simp only[ayz,beq_iff_eq]at cd;rw[cd.1]at kP;rcases kP with kP|kP<;>cases kP
    |load=>
     have dq:pl.kinds.getD j .effect=.load:=hk;unfold mJ at cd;rw[dq]at cd;simp only[ayz,beq_iff_eq]at cd;rw[cd.1]at kP;rcases kP with kP|kP<;>cases kP
    |call=>
     have dq:pl.kinds.getD j .effect=.call:=hk;unfold mJ at cd;rw[dq]at cd;simp only[ayz]at cd;have yf:=wN hs eg cd.1.2;refine⟨⟨d.e.put o.dst v,d.n,d.bs,⟨j,d.n,d.n,seen d.aM (pl.cJ.getD j 0) b⟩::d.aM⟩,?_,⟨by rw[hs.e],hs.n,hs.le,⟨i,b,rest,da,eR.imp id (λh=>⟨by omega,h.2⟩),?_,k_⟩,λp hp=>?_⟩⟩
     .unfold ct;rw[da];simp only;rw[hs.e,hw,if_pos rfl];rw[dq];simp only;have bI:(⟨d.n,seen d.aM (pl.cJ.getD j 0) b⟩:St)=Y:=by rw[yf,hs.n]
      rw[bI,yj,yf];simp only[hs.n]
     .simp only[aze];rw[mv _ _ ax,eg]
     .rcases ayN.1 hp with rfl|hp
      .exact⟨.inl (ayA _),ayA _,by show n0<=d.n;rw[hs.n];exact hs.le⟩
      .exact kf p hp
    |effect=>
     have dq:pl.kinds.getD j .effect=.effect:=hk;have hA:E7 pl j=ab:=by unfold mJ at cd;rw[dq,azf]at cd;exact cd.elim id λh=>(noX (ops:=ops) (e:=e) h (.inl ⟨_,_,_,_,hv⟩)).elim
     exact BA hs hk hw iF hA (yj ro) qM (ayA _)
   obtain⟨U,hU,d1,h1,h2⟩:=key;obtain⟨SF,kz,d',h3,h4⟩:=ih (j+1) d1 (JA T o j) hd h2 lE (hT.skip (ops:=ops) j (.inr kP)) (BB.skip (.inr kP));obtain⟨qL,h5,h6⟩:=nq hU kz h1 h3 aj;exact⟨qL,h5,d',h6,h4⟩
 | @ZC o j l e Y e' al f args v ob hq hw hv jf h ih=>
   intro k d T hl hs hc hT BB;obtain⟨rfl,hd,iF,aj,mj⟩:=dt hl;simp only[lI,ayz]at hc;obtain⟨cd,lE⟩:=hc;obtain⟨i,b,rest,da,eR,eg,k_⟩:=hs.bs;have qM:Y.t.WF:=eg▸mw _ k_;have kf:∀p∈d.aM,(p.hi<=p.lo\/(p.j<j+1/\(bw pl p.j=.alloc\/bw pl p.j=.call)))/\p.hi<=d.n/\n0<=p.lo:=λp hp=>⟨(hs.aM p hp).1.imp id (λh=>⟨by omega,h.2⟩),(hs.aM p hp).2⟩
   have yj:∀gO,kY P (sB ah f args Y v (Y.add ob)) gO e o Y=aa (v,Y.add ob):=by
    intro gO;unfold kY;rw[EY hv gO Y];simp[sB]
   have kP:=vt hv
   have key:∃U,np P U/\∃d1,ct P U pl ro ops o j d=aa d1/\oQ pl n0 (j+1) d1 (e.put o.dst v) (Y.add ob):=by
    refine⟨sB ah f args Y v (Y.add ob),vp λgO _=>jf gO,?_⟩;cases hk:bw pl j with
    |pure=>
     have dq:pl.kinds.getD j .effect=.pure:=hk;unfold mJ at cd;rw[dq]at cd;have l8:dy o=.pure:=by simpa using cd
     rw[l8]at kP;rcases kP with kP|kP<;>cases kP
    |alloc=>
     have dq:pl.kinds.getD j .effect=.alloc:=hk;unfold mJ at cd;rw[dq]at cd;simp only[ayz,beq_iff_eq]at cd;rw[cd.1]at kP;rcases kP with kP|kP<;>cases kP
    |load=>
     have dq:pl.kinds.getD j .effect=.load:=hk;unfold mJ at cd;rw[dq]at cd;simp only[ayz,beq_iff_eq]at cd;rw[cd.1]at kP;rcases kP with kP|kP<;>cases kP
    |call=>
     have dq:pl.kinds.getD j .effect=.call:=hk;unfold mJ at cd;rw[dq]at cd;simp only[ayz]at cd;have yf:=wN hs eg cd.1.2;refine⟨⟨d.e.put o.dst v,(Y.add ob).n,d.bs,⟨j,d.n,(Y.add ob).n,(Y.add ob).t⟩::d.aM⟩,?_,⟨by rw[hs.e],rfl,ayU hs.le ax,⟨i,b,rest,da,eR.imp id (λh=>⟨by omega,h.2⟩),?_,k_⟩,λp hp=>?_⟩⟩
     .unfold ct;rw[da];simp only;rw[hs.e,hw,if_pos rfl];rw[dq];simp only;have bI:(⟨d.n,seen d.aM (pl.cJ.getD j 0) b⟩:St)=Y:=by rw[yf,hs.n]
      rw[bI,yj]
     .simp only[aze];refine Go.Ev.T.WF.ext (mw _ (zj k_ _)) (qM.set _ _) λid=>?_
      have:=Bv (n:=Y.n) (ob:=ob) d.aM (dU b ⟨j,d.n,(Y.add ob).n,(Y.add ob).t⟩) b (λp hp=>by rw[<-hs.n];exact(hs.aM p hp).2.1) (λid=>by
       rw[l7,Go.Ev.T.gV];simp only[hs.n,St.kB];by_cases hid:Y.n=id
       .subst hid;rw[if_pos ai,if_pos rfl];have:(Y.add ob).t.get Y.n=aa ob:=by simpa[St.at]using St.gz Y ob Y.n
        simp[this]
       .rw[if_neg ai,if_neg hid]) id
      rw[this,eg];rfl
     .rcases ayN.1 hp with rfl|hp
      .exact⟨.inr ⟨by simp,.inr hk⟩,ayA _,by show n0<=d.n;rw[hs.n];exact hs.le⟩
      .obtain⟨h1,h2,h3⟩:=kf p hp;exact⟨h1,by rw[hs.n]at h2;simp;omega,h3⟩
    |effect=>
     have dq:pl.kinds.getD j .effect=.effect:=hk;have hA:E7 pl j=ab:=by unfold mJ at cd;rw[dq,azf]at cd;exact cd.elim id λh=>(noX (ops:=ops) (e:=e) h (.inl ⟨_,_,_,_,hv⟩)).elim
     exact BA hs hk hw iF hA (yj ro) (qM.set _ _) ax
   obtain⟨U,hU,d1,h1,h2⟩:=key;obtain⟨SF,kz,d',h3,h4⟩:=ih (j+1) d1 (JA T o j) hd h2 lE (hT.skip (ops:=ops) j (.inr kP)) (BB.skip (.inr kP));obtain⟨qL,h5,h6⟩:=nq hU kz h1 h3 aj;exact⟨qL,h5,d',h6,h4⟩
 | @call o j l e Y e' al f args v au hk hw hv jf mu h ih=>
   intro k d T hl hs hc hT BB;obtain⟨rfl,hd,iF,aj,mj⟩:=dt hl;simp only[lI,ayz]at hc;obtain⟨cd,lE⟩:=hc;obtain⟨i,b,rest,da,eR,eg,k_⟩:=hs.bs;have qM:Y.t.WF:=eg▸mw _ k_;have dq:pl.kinds.getD j .effect=.effect:=hk;have hA:E7 pl j=ab:=by unfold mJ at cd;rw[dq,azf]at cd;exact cd.elim id λh=>(noX (ops:=ops) (e:=e) h (.inl ⟨_,_,_,_,hv⟩)).elim
   obtain⟨d1,h1,h2⟩:=BA (U:=sB (aa ro) f args Y v au) (v:=v) (au:=au) hs hk hw iF hA (by unfold kY;rw[hv];simp[sB]) (mu qM) jf.1;obtain⟨SF,kz,d',h3,h4⟩:=ih (j+1) d1 (JA T o j) hd h2 lE (hT.skip (ops:=ops) j (.inr (vt hv))) (BB.skip (.inr (vt hv)));obtain⟨qL,h5,h6⟩:=nq (vp (R:=aa ro) λgO hR=>by rcases hR with hR|hR<;>cases hR;exact jf) kz h1 h3 aj;exact⟨qL,h5,d',h6,h4⟩
variable{rd:Option Nat}{fn:FuncId}{df:List Df}
theorem gu.ZK{id:Nat}{fr:Bool}{T:lh}(e_:P.follows .mixedOrders=ab)(ir:(cR ops).ok=ab)(bu:lI P (cR ops) ops.toList.zipIdx T=ab)(hT:m7 Y.n e T){θ:Nat->Option Nat}(SX:∀k k' id,θ k=aa id->θ k'=aa id->k=k')(BB:uc P ops θ e Y T)(mu:Y.t.WF)
 (h:gE P ro ops (cR ops) fr ops.toList.zipIdx e Y e' al):gu P ro rd fn (.region id ops ab) e df Y ⟨.normal,e',df,al⟩:=by
 obtain⟨SF,kz,d',h1,h2,h3,i,b,rest,h4,h5⟩:=LP (n0:=Y.n) SX h 0 ⟨e,Y.n,[(0,Y.t)],[]⟩ T ax ⟨rfl,rfl,ayA _,⟨0,Y.t,[],rfl,.inl rfl,rfl,mu⟩,λp hp=>by cases hp⟩ bu hT BB
 have fD:m_ P SF ro ops e df Y=aa ⟨.normal,e',df,al⟩:=by
  unfold m_;simp only;rw[if_pos ir,h1];obtain⟨de,dn,dbs,akk⟩:=d';simp only at h2 h3 h4 h5;subst h2 h4;simp only[h3,h5]
 refine .mk (ES (λi=>(kz i).2.2.1) (λi=>(kz i).2.2.2) fD) ax λN hN F Z a w Q hF hi he hd hQ=>?_;exact Ki e_ (λi=>(kz i).1) (λi=>(kz i).2.1) (λi=>(kz i).2.2.1) (λi=>(kz i).2.2.2) N ro rd ops e df Y _ fD hN F Z a w Q id hF hi he hd hQ
def ZL(P:Program)(ro:Nat)(rd:Option Nat)(ops:Array Oper)(e:Env)(df:List Df)(Y:St)(e':Env)(al:St):Prop:=
 ∀N,al.n<=N->∀F Z a w Q,kN F rd Z->Inv N Z Y w->dc Z e a.tmps->lD Z df a.defers->tZ N ro Z w Y ⟨.normal,e',df,al⟩ Q->wpAnyIn F 0 P .any ops Q ops.size (azy ops.size af) a {w with drawn:=w.drawn+1}
theorem ZL.ZK{fr:Bool}{T:lh}(ir:(cR ops).ok=ab)(bu:lI P (cR ops) ops.toList.zipIdx T=ab)(hT:m7 Y.n e T){θ:Nat->Option Nat}(SX:∀k k' id,θ k=aa id->θ k'=aa id->k=k')(BB:uc P ops θ e Y T)(mu:Y.t.WF)
 (h:gE P ro ops (cR ops) fr ops.toList.zipIdx e Y e' al):ZL P ro rd ops e df Y e' al:=by
 obtain⟨SF,kz,d',h1,h2,h3,i,b,rest,h4,h5⟩:=LP (n0:=Y.n) SX h 0 ⟨e,Y.n,[(0,Y.t)],[]⟩ T ax ⟨rfl,rfl,ayA _,⟨0,Y.t,[],rfl,.inl rfl,rfl,mu⟩,λp hp=>by cases hp⟩ bu hT BB
 have fD:m_ P SF ro ops e df Y=aa ⟨.normal,e',df,al⟩:=by
  unfold m_;simp only;rw[if_pos ir,h1];obtain⟨de,dn,dbs,akk⟩:=d';simp only at h2 h3 h4 h5;subst h2 h4;simp only[h3,h5]
 exactλN hN F Z a w Q hF hi he hd hQ=>PM (λi=>(kz i).1) (λi=>(kz i).2.1) (λi=>(kz i).2.2.1) (λi=>(kz i).2.2.2) N ro rd ops e df Y _ fD hN F Z a w Q hF hi he hd hQ
end
section
variable{P:Program}{N:Nat}{Z:Io}{w:World}{Y al:St}{e:Env}{rd:Option Nat}{fn:FuncId}{df:List Df}{CW:lP}{ops:Array Oper}{F:Fence}{n:Nat}{Q Q':Exit->Act->World->Prop}
theorem mem_ready{listed:Array Bool}{i:Nat}(hi:i<ops.size)(hf:listed[i]?=aa af)(h:∀o,ops[i]?=aa o->∀e∈o.after.toList,azY .any e=ab->gn listed e.on):i∈azz .any ops listed:=by
 unfold azz;rw[azC,aAv];refine⟨hi,?_⟩;rw[azm,hf,ay2 hi];simp only[Option.getD_some,Bool.not_false,Bool.true_and,Option.map_some];rw[Array.all_eq_true'];intro e he;cases hb:azY .any e with
 |false=>rfl
 |true=>
  have:=h _ (ay2 hi) e (by simpa using he) hb;unfold gn at this;rw[azm,this];rfl
theorem Kr{listed:Array Bool}{i:Nat}(hi:i<listed.size)(h:¬gn listed i):listed[i]?=aa af:=by
 unfold gn at h;rw[ay2 hi]at h⊢;cases hx:listed[i]with
 |false=>rfl
 |true=>rw[hx]at h;exact absurd rfl h
abbrev Bf(ops:Array Oper)(j i:Nat):Prop:=ayY ((J6 ops).getD j 0) i=ab
abbrev ZM(ops:Array Oper):Prop:=∀(j:Nat) (o:Oper),ops[j]?=aa o->∀e∈o.after.toList,azY .any e=ab->e.on<j
theorem aoN(hb:ZM ops):∀(j:Nat),j<ops.size->∀i,Bf ops j i->i<j:=by
 intro j;induction j using Nat.strongRecOn with
 |_ j ih=>
  intro hj i kc;have ho:ops[j]?=aa ops[j]:=ay2 hj;obtain⟨e,he,sh,h⟩:=(haveI:=xX;DX ho kc);have aj:=hb j _ ho e he sh;rcases h with rfl|h
  .exact aj
  .have:=ih e.on aj ai i h;omega
theorem aeu(hb:ZM ops){k:Nat}(ht:∀i,k<=i->i<ops.size->∀i',i'<i->Bf ops i i'):∀(r m fuel:Nat) (listed:Array Bool) (a:Act) (w:World),m+r=ops.size->k<=m->r<=fuel->listed.size=ops.size->(∀i,i<ops.size->(gn listed i↔i<m))->
 wpOpsIn F n P ops Q (az3 m r) a w->wpAnyIn F n P .any ops Q fuel listed a w:=by
 intro r;induction r with
 |zero=>
  intro m fuel listed a w hm hk hf bf hl h
  have cS:azz .any ops listed=[]:=by
   cases hr:azz .any ops listed with
   |nil=>rfl
   |cons x xs=>
    obtain⟨h1,h2,_⟩:=qK (show x∈azz .any ops listed by rw[hr];simp);have:=(hl x h1).2 ai;unfold gn at this;rw[this]at h2;cases h2
  cases fuel with
  |zero=>exact⟨cS,h⟩
  |succ fuel=>exact⟨λ_=>h,λi hi=>by rw[cS]at hi;cases hi⟩
 |succ r ih=>
  intro m fuel listed a w hm hk hf bf hl h;cases fuel with
  |zero=>omega
  |succ fuel=>
   have PT:m<ops.size:=ai
   have hmr:m∈azz .any ops listed:=mem_ready PT (Kr ai (λhc=>aDR _ ((hl m PT).1 hc))) λo ho e he sh=>by
    have:=hb m o ho e he sh;exact(hl e.on ai).2 this
   refine⟨λC4=>(by rw[C4]at hmr;cases hmr),λj hj=>?_⟩;obtain⟨SH,jB,o,mj,aeq⟩:=qK hj
   have hjm:m<=j:=aBa λaj=>by
    have:=(hl j SH).2 aj;unfold gn at this;rw[this]at jB;cases jB
   have hje:j=m:=by
    refine Nat.le_antisymm (aBa λaj=>?_) hjm;obtain⟨e,he,sh,hh⟩:=(haveI:=xX;DX mj (ht j ai SH m ai));have hle:=aeq e he sh;have ot:=(hl e.on (by have:=hb j o mj e he sh;omega)).1 hle;rcases hh with hh|hh
    .omega
    .have:=aoN hb e.on ai m hh;omega
   subst hje;rw[aAX,wpOpsIn_cons]at h;refine wpOpIn_mono (λa w h=>?_) h;refine ih (j+1) fuel _ a w ai ai ai (by simp[bf]) (λi hi=>?_) h;rw[zW ai];constructor
   .rintro(h|rfl)
    .have:=(hl i hi).1 h;omega
    .omega
   .intro h;by_cases oM:i=j
    .exact .inr oM
    .exact .inl ((hl i hi).2 ai)
theorem Oper.ZN{o:Oper}{a:Act}{w:World}{K K':Act->World->Prop}(h:∀a w,K a w->K' a w)(hq:∀e a w,e≠.normal->Q' e a w->Q e a w)
 (hh:o.wpIn F n P a w K Q'):o.wpIn F n P a w K' Q:=by
 have lets:LetsOut Q'->LetsOut Q:=λ⟨a,w,h⟩=>⟨a,w,hq _ _ _ ax h⟩;unfold Oper.wpIn at*
 refine⟨hh.1,?_⟩;have hh:=hh.2;generalize(o.semAt F.round a.eval).run P w=r at*
 cases r with
 |ok x w'=>
  cases x<;>simp only[aDZ]at hh⊢<;>
   first
    |exact h _ _ hh
    |exact⟨hh.1,CallsIn.mono hh.2 (λe w'' he=>by cases e<;>first|exact h _ _ he|exact hq _ _ _ ax he|exact lets he)⟩
    |exact⟨hh.1,RowsIn.mono hh.2 (λ_ _ he=>h _ _ he)⟩
    |exact⟨hh.1,RoundIn.mono hh.2 (λe w'' he=>by cases e<;>first|exact h _ _ he|exact hq _ _ _ ax he|exact lets he)⟩
 |halt x w'=>cases x<;>simp only[aDZ]at hh⊢<;>first|exact hh|exact hq _ _ _ ax hh
theorem aiq{pre:Array Oper}(hb:ZM ops){k:Nat}(hk:k<=ops.size)(ht:∀i,k<=i->i<ops.size->∀i',i'<i->Bf ops i i')(lG:pre.size=k)(ye:∀i,i<k->pre[i]?=ops[i]?)(wy:pY pre (cR pre))
 (hg:∀i o,i<k->ops[i]?=aa o->∀j want,o.guard=aa (j,want)->j<k)(hqn:∀a w,Q' .normal a w->wpOpsIn F n P ops Q (az3 k (ops.size- k)) a w)(hq:∀e a w,e≠.normal->Q' e a w->Q e a w):
 ∀(fuel:Nat) (lp l:Array Bool) (a:Act) (w:World),lp.size=k->l.size=ops.size->(∀i,i<k->(gn l i↔gn lp i))->(∀i,k<=i->i<ops.size->¬gn l i)->(∀i,i<k->gn lp i->∀i',Bf ops i i'->gn lp i')->
  wpAnyIn F n P .any pre Q' fuel lp a w->wpAnyIn F n P .any ops Q (fuel+(ops.size- k)) l a w:=by
 have main:∀(fuel:Nat) (lp l:Array Bool) (a:Act) (w:World),lp.size=k->l.size=ops.size->(∀i,i<k->(gn l i↔gn lp i))->(∀i,k<=i->i<ops.size->¬gn l i)->azz .any pre lp=[]->Q' .normal a w->ops.size- k<=fuel->wpAnyIn F n P .any ops Q fuel l a w:=by
  intro fuel lp l a w h1 h2 h3 h4 h5 h6 h7;have cb:=PL wy ai h5;refine aeu hb ht (ops.size- k) k fuel l a w ai (ayA _) h7 h2 (λi hi=>⟨λh=>aAM λhc=>h4 i hc hi h,λh=>(h3 i h).2 (cb i ai)⟩) (hqn _ _ h6)
 intro fuel;induction fuel with
 |zero=>
  intro lp l a w h1 h2 h3 h4 h5 h;exact main _ lp l a w h1 h2 h3 h4 h.1 h.2 ai
 |succ fuel ih=>
  intro lp l a w h1 h2 h3 h4 h5 h;by_cases hr:azz .any pre lp=[]
  .exact main _ lp l a w h1 h2 h3 h4 hr (h.1 hr) ai
  .rw[Nat.add_right_comm]
   have up:∀j,j∈azz .any pre lp->j∈azz .any ops l:=by
    intro j hj;obtain⟨g1,g2,o,g3,g4⟩:=qK hj;have bB:j<k:=ai;rw[ye j bB]at g3;refine mem_ready ai (Kr ai λhc=>?_) λo' RX e he sh=>?_
    .have:=(h3 j bB).1 hc;unfold gn at this;rw[this]at g2;cases g2
    .rw[g3]at RX;cases RX;have:=hb j o g3 e he sh;exact(h3 e.on ai).2 (g4 e he sh)
   refine⟨λC4=>?_,λj hj=>?_⟩
   .cases hx:azz .any pre lp with
    |nil=>exact absurd hx hr
    |cons x xs=>
     have:=up x (by rw[hx];simp);rw[C4]at this;cases this
   .obtain⟨g1,g2,o,g3,g4⟩:=qK hj
    have aev:∀x,x<j->gn l x->x<k/\gn lp x:=λx hx hl=>by
     have:x<k:=aAM λhc=>h4 x hc ai hl;exact⟨this,(h3 x this).1 hl⟩
    by_cases bB:j<k
    .have g3':pre[j]?=aa o:=by rw[ye j bB];exact g3
     have hjp:j∈azz .any pre lp:=by
      refine mem_ready ai (Kr ai λhc=>?_) λo' RX e he sh=>?_
      .have:=(h3 j bB).2 hc;unfold gn at this;rw[this]at g2;cases g2
      .rw[g3']at RX;cases RX;exact(aev e.on (hb j o g3 e he sh) (g4 e he sh)).2
     have hw:=h.2 j hjp
     have hK:∀a w,wpAnyIn F n P .any pre Q' fuel (lp.setIfInBounds j ab) a w->wpAnyIn F n P .any ops Q (fuel+(ops.size- k)) (l.setIfInBounds j ab) a w:=by
      intro a w hh;refine ih _ _ a w (by simp[h1]) (by simp[h2]) (λi hi=>?_) (λi hi cX=>?_) (λi hi hl i' kc=>?_) hh
      .rw[zW ai,zW ai];show(gn l i\/i=j)↔(gn lp i\/i=j);rw[h3 i hi]
      .rw[zW ai];rintro(hc|rfl)
       .exact h4 i hi cX hc
       .omega
      .rw[zW ai]at hl⊢;rcases hl with hl|rfl
       .exact .inl (h5 i hi hl i' kc)
       .obtain⟨e,he,sh,hh⟩:=(haveI:=xX;DX g3 kc);obtain⟨x1,x2⟩:=aev e.on (hb i o g3 e he sh) (g4 e he sh);rcases hh with rfl|hh
        .exact .inl x2
        .exact .inl (h5 e.on x1 x2 i' hh)
     unfold wpOpIn at hw⊢;rw[g3']at hw;rw[g3];simp only at hw⊢
     have hwt:aBy o (yielded pre a.tmps)=aBy o (yielded ops a.tmps):=by
      unfold aBy;cases Hq:o.guard with
      |none=>rfl
      |some p=>
       obtain⟨j',want⟩:=p;simp only[yielded,ye j' (hg j o bB g3 j' want Hq)]
     rw[hwt]at hw;split
     .rename_i hc;rw[if_pos hc]at hw;exact Oper.ZN hK hq hw
     .rename_i hc;rw[if_neg hc]at hw;exact⟨hw.1,hK _ _ hw.2⟩
    .exfalso;apply hr
     have cb:∀i,i<k->gn lp i:=by
      intro i hi;obtain⟨e,he,sh,hh⟩:=(haveI:=xX;DX g3 (ht j ai g1 i ai));obtain⟨x1,x2⟩:=aev e.on (hb j o g3 e he sh) (g4 e he sh);rcases hh with rfl|hh
      .exact x2
      .exact h5 e.on x1 x2 i hh
     cases hx:azz .any pre lp with
     |nil=>rfl
     |cons x xs=>
      obtain⟨q1,q2,_⟩:=qK (show x∈azz .any pre lp by rw[hx];simp);have:=cb x ai;unfold gn at this;rw[this]at q2;cases q2
def Rh(ops:Array Oper)(k:Nat):Bool:=
 azD k ops.size&&(ops.toList.zipIdx.all λp=>(p.1.after.toList.all λe=> !azY .any e||azp e.on p.2)&&
  (if azp p.2 k then(match p.1.guard with|some (j,_)=>azp j k|none=>ab)else(azR p.2).all λi=>ayY ((J6 ops).getD p.2 0) i))
theorem dg.aew{id k:Nat}{e':Env}(e_:P.follows .mixedOrders=ab)(ht:Rh ops k=ab)(wy:(cR (ops.extract 0 k)).ok=ab)(Kh:∀df,ZL P 0 rd (ops.extract 0 k) e df Y e' al)(hn:al.n<=N)
 (h:eU P N rd ops (ops.toList.drop k) e' df al CW):dg P N rd (.region id ops ab) e df Y CW:=by
 unfold Rh at ht;simp only[ayz,Nat.ble_eq,ayP]at ht;obtain⟨hk,ht⟩:=ht
 have aK:∀(i:Nat) (o:Oper),ops[i]?=aa o->(o,i)∈ops.toList.zipIdx:=λi o ho=>by
  rw[az6];simpa using ho
 have ZJ:ZM ops:=λj o ho e he sh=>by
  have:=(ht _ (aK j o ho)).1 e he;rw[sh]at this;simpa using this
 have aoO:∀i,k<=i->i<ops.size->∀i',i'<i->Bf ops i i':=λi hi cX i' aj=>by
  have:=(ht _ (aK i _ (ay2 cX))).2;simp only at this;rw[if_neg (by simp;omega)]at this;exact ayP.1 this i' (aAv.2 aj)
 have hg:∀i o,i<k->ops[i]?=aa o->∀j want,o.guard=aa (j,want)->j<k:=λi o hi ho j want Hq=>by
  have:=(ht _ (aK i o ho)).2;simp only at this;rw[if_pos (by simpa using hi),Hq]at this;simpa using this
 have lG:(ops.extract 0 k).size=k:=by simp;omega
 have ye:∀i,i<k->(ops.extract 0 k)[i]?=ops[i]? :=λi hi=>by
  rw[Array.getElem?_extract];simp;omega
 intro B F Z a w Q hF hi he hd hQ;obtain⟨hB,ids,h1,h2,uK⟩:=hd;refine wpIn_region_any e_ ?_
 have hz:∀m i,¬gn (azy m af) i:=by
  intro m i hx;unfold gn at hx;rw[Array.getElem?_replicate]at hx;split at hx<;>cases hx
 have hp:=Kh (ids.map .wI++df) N hn F Z a w (λex a w=>match ex with
  |.normal=>wpOpsIn F 0 P ops Q (az3 k (ops.size- k)) a w
  |ex=>Q ex a w) hF hi he h1 (by
   intro a' w' aJ ch i1 l1 e1 d1 p1;show wpOpsIn F 0 P ops Q (az3 k (ops.size- k)) a' w';have:=h B F aJ a' w' Q k rfl (hF.mono l1.ext) i1 e1 ⟨ayU hB l1.size,ids,d1,λid hid=>(h2 id hid).step hi l1,uK⟩ (λex e' al hc=>(hQ ex e' al hc).from hi l1 hn);simpa using this)
 rw[lG]at hp
 have:=aiq (Q:=Q) (n:=0) ZJ hk aoO lG ye (haveI:=xX;abM wy) hg (λa w h=>h) (λex a w bt h=>by cases ex<;>first|exact absurd rfl bt|exact h) k (azy k af) (azy ops.size af) a {w with drawn:=w.drawn+1} ax ax
  (λi _=>⟨λh=>absurd h (hz _ i),λh=>absurd h (hz _ i)⟩) (λi _ _=>hz _ i) (λi _ h=>absurd h (hz _ i)) hp
 rwa[show k+(ops.size- k)=ops.size by omega]at this
end
section
inductive SE where
 |var (i:Nat)
 |i (n:Int)
 |k (k:IntKind) (n:Int)
 |b (t:Bool)
 |s (l:List UInt8)
 |raw (v:Value)
 |ok (e:SE)
 |uM (n:Nat) (e:SE)
 |bC (e:SE) (j:Nat)
 |idx (s:Nat) (e i:SE)
 |JD (s:Nat) (e i:SE) (j:Nat)
 |len (e:SE)
 |ud (e:SE)
 |an
 |ac (a r:SE)
 |tr (s:Nat) (r:SE)
 |tp (r:SE)
 |cat (s bytes:Nat) (e f:SE)
 |E8 (s:Nat) (e i x:SE)
 |sub (s:Nat) (e lo hi:SE)
 |proj (e:SE) (j:Nat)
 |bin (op:BinOp) (t:TypeId) (a b:SE)
 |un (op:UnOp) (a:SE)
 |cv (src dst:TypeId) (a:SE)
 |mx (big:Bool) (a b:SE)
 |JE (e i:SE)
 |Ks (e lo hi:SE)
 |rw(e:SE)
 |rws (e:SE)
 |has (kt:TypeId) (m key:SE)
 |get (kt:TypeId) (m key z:SE)
 |ins (kt:TypeId) (m key x:SE)
 |dec (w:Nat) (a p:SE)
 deriving Inhabited
inductive ak where
 |fail (why:Nat)
 |ret (e:SE)
 |test (e:SE) (a b:ak)
 |bind (e:SE) (k:ak)
 |aV (e:SE) (k:ak)
 |call (f:FuncId) (new:Bool) (args:SE) (k:ak)
 |loop (init:SE) (body:ak)
 |BC (body:ak) (m:Nat) (cont:ak)
 |next (lv:Nat) (args:SE)
 |bad (d f id n0 nm:Nat) (hd:List (Nat×Nat×PV SE)) (hl:List (LO SE)) (g:List (Nat×Nat×PV SE)) (l:List (LO SE))
 deriving Inhabited
section eqs
def akt(a b:IntKind):Bool:=a==b
def kQ{O:Type}(f:O->O->Bool):List O->List O->Bool
 |[],[]=>ab
 |a::as,b::bs=>f a b&&kQ f as bs
 |_,_=>af
def SE.eq:SE->SE->Bool
 |.var x,.var y=>ayI x y
 |.i x,.i y=>x==y
 |.k j x,.k j' y=>akt j j'&&x==y
 |.b x,.b y=>x==y
 |.s x,.s y=>kQ (·==·) x y
 |.ok x,.ok y=>x.eq y
 |.bC e j,.bC f j'=>ayI j j'&&e.eq f
 |.idx q e x,.idx q' e' x'=>ayI q q'&&e.eq e'&&x.eq x'
 |.JD q e x j,.JD q' e' x' j'=>ayI q q'&&ayI j j'&&e.eq e'&&x.eq x'
 |.len e,.len f=>e.eq f
 |.ud e,.ud f=>e.eq f
 |.an,.an=>ab
 |.ac a r,.ac a' r'=>a.eq a'&&r.eq r'
 |.tr q r,.tr q' r'=>ayI q q'&&r.eq r'
 |.tp r,.tp r'=>r.eq r'
 |.proj e j,.proj f j'=>ayI j j'&&e.eq f
 |.bin op t x y,.bin op' t' x' y'=>op==op'&&ayI t t'&&x.eq x'&&y.eq y'
 |.un op x,.un op' x'=>op==op'&&x.eq x'
 |.cv q d x,.cv q' d' x'=>ayI q q'&&ayI d d'&&x.eq x'
 |.mx t x y,.mx t' x' y'=>t==t'&&x.eq x'&&y.eq y'
 |.rw x,.rw y=>x.eq y
 |.JE e x,.JE e' x'=>e.eq e'&&x.eq x'
 |.dec w e x,.dec w' e' x'=>ayI w w'&&e.eq e'&&x.eq x'
 |_,_=>af
end eqs
structure SS where
 g:List (Nat×Nat×PV SE)
 l:List (LO SE)
 n:Nat
 lv:Nat
 nt:Nat
 deriving Inhabited
def SS.ln(V:SS):Nat×Nat:=(V.lv,V.nt)
structure Hint where
 d:Nat
 f:Nat
 id:Nat
 LQ:List (Nat×Nat×Nat)
 AE:List (Nat×Nat)
 drop:List (Nat×Nat)
 wO:List (Nat×Nat×Nat)
 deriving Inhabited
structure eS where
 pure:List Nat
 ZO:List Nat
 stop:List Nat
 hints:List Hint
 rows:List Nat
section run
variable(P:Program)(cfg:eS)
def fieldAt(s:TypeId)(f:Nat):Option (Nat×Nat):=
 match P.underlying s with
 |some (.struct fields)=>match fields[f]? with
  |some fd=>match aS P fd.type with
   |some sz=>aa (fd.offset,sz)
   |none=>ah
  |none=>ah
 |_=>ah
def elemOf(t:TypeId):Option TypeId:=
 match P.underlying t with
 |some (.slice e)=>aa e
 |_=>ah
def rp:Nat->TypeId->List TypeId
 |0,_=>[]
 |n+1,t=>match P.underlying t with
  |some (.struct fields)=>fields.toList.flatMap λf=>rp n f.type
  |some (.array m e)=>(ayX m (rp n e)).flatten
  |_=>[t]
def NA(t:TypeId):Bool:=
 match P.underlying t with
 |some .bool|some (.int _)|some .string=>ab
 |_=>af
def AF(t:TypeId):Value->Cl SE
 |.bool b=>.v (.b b)
 |.int .i64 n=>.v (.i n)
 |.int k n=>.v (.k k n)
 |.string b=>.v (.s b.data.toList)
 |.slice ah 0 0=>match(elemOf P t).bind (aS P)with
  |some s=>if ayI s 0 then .v (.raw (.slice ah 0 0))else .nl ab s
  |none=>.v (.raw (.slice ah 0 0))
 |.agg _|.tuple _=>.un
 |v=>.v (.raw v)
def ZP{O β γ:Type}(f:O->β->γ):List O->List β->List γ
 |a::as,b::bs=>f a b::ZP f as bs
 |_,_=>[]
def NB(t:TypeId):Value->PV SE
 |.agg cs=>if ayI (rp P 9 t).length cs.toList.length then .ag (ZP (AF P) (rp P 9 t) cs.toList)else .one .un
 |v=>.one (AF P t v)
def zeroCells(t:TypeId):List (Cl SE):=
 match dj P t with
 |some z=>if ayI (rp P 9 t).length z.cells.toList.length then ZP (AF P) (rp P 9 t) z.cells.toList else z.cells.toList.map λ_=>.un
 |none=>[]
def isAgg(t:TypeId):Bool:=(sx P t)==aa ab
def cg(d:Nat)(V:SS)(t:TypeId):Operand->PV SE
 |.tmp x=>(cN d x V.g).getD (.one .un)
 |.const v=>NB P t v
 |.func f=>.one (.fn f [])
 |.global _=>.one .un
def ft{O:Type}:PV O->List (Cl O)
 |.one c=>[c]
 |.ag cs=>cs
 |.tu _=>[.un]
def vw:List (Cl SE)->Bool
 |[]=>ab
 |.un::_=>af
 |_::cs=>vw cs
def SS.cy(V:SS)(d:Nat)(dst:Option Nat)(pv:PV SE):SS:=
 match dst with
 |none=>V
 |some t=>{V with g:=Nw d t pv V.g}
def SS.lj(V:SS)(d:Nat)(dst:Option Nat):SS:=
 match dst with
 |none=>V
 |some t=>{V with g:=E4 d t V.g}
def SS.uN(V:SS)(k:Nat):SS:={V with g:=LN k V.g,l:=V.l.map (LO.drop k)}
def SS.setObj(V:SS)(k:Nat)(o:LO SE):SS:={V with l:=V.l.set k o}
def fa:List SE->SE
 |[]=>.an
 |a::as=>.ac a (fa as)
def nV(k:Nat)(V:SS):SS:=
 match V.l[k]? with
 |some (.row s af cut fr es)=>V.setObj k (.row s ab cut fr es)
 |_=>V
def yZ(V:SS):Cl SE->Option (Bool×SE×SS)
 |.v z=>aa (ab,z,V)
 |.w fr z=>aa (fr,z,V)
 |.nl _ s=>aa (af,.tr s .an,V)
 |.sr k=>match V.l[k]? with
  |some (.row _ _ _ fr es)=>aa (fr,es,nV k V)
  |_=>ah
 |_=>ah
def wP(V:SS):List (Cl SE)->Option (Bool×List SE×SS)
 |[]=>aa (af,[],V)
 |c::cs=>match yZ V c with
  |some (f1,z,V)=>match wP V cs with
   |some (f2,zs,V)=>aa (f1||f2,z::zs,V)
   |none=>ah
  |none=>ah
def vy(V:SS):PV SE->Option (Bool×SE×SS)
 |.one c=>yZ V c
 |.ag cs=>match wP V cs with
  |some (f,zs,V)=>aa (f,fa zs,V)
  |none=>ah
 |.tu vs=>match SY V vs with
  |some (f,zs,V)=>aa (f,.tp (fa zs),V)
  |none=>ah
where SY (V:SS):List (Bool×List (Cl SE))->Option (Bool×List SE×SS)
 |[]=>aa (af,[],V)
 |(a,cs)::vs=>match wP V cs with
  |some (f1,zs,V)=>match SY V vs with
   |some (f2,ys,V)=>match a,zs with
    |true,zs=>aa (f1||f2,fa zs::ys,V)
    |false,[z]=>aa (f1||f2,z::ys,V)
    |_,_=>ah
   |none=>ah
  |none=>ah
def wQ:List (Cl SE)->Bool
 |[]=>ab
 |.v _::cs=>wQ cs
 |.nl _ _::cs=>wQ cs
 |_::_=>af
def na:PV SE->Bool
 |.one c=>wQ [c]
 |.ag cs=>wQ cs
 |.tu _=>af
def ofType(t:TypeId)(e:SE):PV SE:=
 if isAgg P t then .ag ((azR ((aS P t).getD 0)).map λj=>.v (.bC e j))else .one (.v (.ok e))
def tj(t:TypeId)(e:SE)(k:ak):ak:=if isAgg P t then .aV (.uM ((aS P t).getD 0) e) k else .aV (.ok e) k
def SZ(e:SE):Nat->List TypeId->ak->ak
 |_,[],k=>k
 |j,t::ts,k=>tj P t (.proj e j) (SZ e (j+1) ts k)
def vk(e:SE)(V:SS)(k:PV SE->SS->ak):ak:=.aV e (k (.one (.v e)) V)
def NC(e:SE):Nat->List TypeId->List (Bool×List (Cl SE))
 |_,[]=>[]
 |j,t::ts=>(isAgg P t,ft (ofType P t (.proj e j)))::NC e (j+1) ts
def kF(d:Nat)(V:SS):List Operand->List TypeId->List (PV SE)
 |x::xs,t::ts=>cg P d V t x::kF d V xs ts
 |x::xs,[]=>cg P d V 0 x::kF d V xs []
 |[],_=>[]
def S0(d:Nat)(V:SS):List Operand->Option (List (Nat×Nat))
 |[]=>aa []
 |x::xs=>match cg P d V 0 x with
  |.one (.pt k 0 ext)=>match S0 d V xs with
   |some l=>aa ((k,ext)::l)
   |none=>ah
  |_=>ah
def D5(cells:List (Cl SE))(off:Nat)(new:List (Cl SE)):List (Cl SE):=cells.take off++new++cells.drop (off+new.length)
def pw(get:Nat->Operand->List (Cl SE))(place:Nat->Option (Nat×Nat)):List (Nat×Operand)->List (Cl SE)->Option (List (Cl SE))
 |[],cs=>aa cs
 |(j,x)::ps,cs=>match place j with
  |some (off,sz)=>
   let new:=get j x
   if vw new&&ayI new.length sz&&azD (off+sz) cs.length then pw get place ps (D5 cs off new)else ah
  |none=>ah
def aku(fields:Array Field)(j:Nat):TypeId:=((fields[j]?).map (·.type)).getD 0
def air(fields:Array Field)(j:Nat):Option (Nat×Nat):=(fields[j]?).bind λf=>(aS P f.type).map λs=>(f.offset,s)
def Xd(s j:Nat):Option (Nat×Nat):=aa (j*s,s)
def LR:SE->Bool
 |.i _|.k _ _|.b _|.s _=>ab
 |_=>af
def rdT(V:SS)(c:Cl SE)(t:TypeId):Option (Bool×SE×SS×List SE):=
 match c with
 |.v z=>if NA P t then aa (af,z,V,if LR z then[]else[z])else aa (ab,z,V,[])
 |c=>match yZ V c with
  |some (fr,z,V)=>aa (fr,z,V,[])
  |none=>ah
def ND(V:SS):List (Cl SE)->List TypeId->Option (Bool×List SE×SS×List SE)
 |[],_=>aa (af,[],V,[])
 |c::cs,t::ts=>match rdT P V c t with
  |some (f1,z,V,r1)=>match ND V cs ts with
   |some (f2,zs,V,r2)=>aa (f1||f2,z::zs,V,r1++r2)
   |none=>ah
  |none=>ah
 |_::_,[]=>ah
def AG(s:Nat):Nat->List SE->List SE
 |0,_=>[]
 |n+1,zs=>fa (zs.take s)::AG s n (zs.drop s)
def S1(zero:List (Cl SE)):Nat->List (Cl SE)
 |0=>[]
 |n+1=>zero++S1 zero n
def ab1(ts:List TypeId):Nat->List TypeId
 |0=>[]
 |n+1=>ts++ab1 ts n
def ZQ:List SE->ak->ak
 |[],k=>k
 |e::es,k=>.aV (.rw e) (ZQ es k)
def newVar(V:SS)(e:SE)(k:SE->SS->ak):ak:=.bind e (k (.var V.n) {V with n:=V.n+1})
def newObj(V:SS)(o:LO SE)(k:Nat->SS->ak):ak:=k V.l.length {V with l:=V.l++[o]}
def ZR(t:TypeId)(a:PV SE)(V:SS)(k:PV SE->SS->ak):ak:=
 let ag:=isAgg P t
 match aS P t,sx P t with
 |none,_=>.fail 1
 |_,ah=>.fail 1
 |some s,aa _=>
  let out (cs:List (Cl SE)):ak:=if ag then(if ayI cs.length s then k (.ag cs) V else .fail 2)else match cs with
   |[c]=>k (.one c) V
   |_=>.fail 3
  match a with
  |.one (.pt j off ext)=>match V.l[j]? with
   |some (.var cs)=>if azD s ext&&azD (off+s) cs.length then out ((cs.drop off).take s)else .fail 4
   |_=>.fail 5
  |.one (.tp cs)=>if azD s cs.length then out (((cs.map .v).drop 0).take s)else .fail 4
  |.one (.tw fr cs)=>if azD s cs.length then out (((cs.map (.w fr)).drop 0).take s)else .fail 4
  |.one (.pr j i off ext)=>match V.l[j]? with
   |some (.row sz _ _ fr es)=>if azD s ext then out ((((azR sz).map λq=>.w fr (.JD sz es i q)).drop off).take s)else .fail 4
   |_=>.fail 6
  |_=>.fail 7
def D6(bytes:Nat)(s:Nat)(base:Cl SE)(fr:Bool)(es:SE)(V:SS)(k:PV SE->SS->ak):ak:=
 match base with
 |.nl _ s'=>if ayI s s' then newVar V (.cat s bytes (.tr s .an) es) λz V=>newObj V (.row s af af fr z) λj V=>k (.one (.sr j)) V else .fail 10
 |.sr j=>match V.l[j]? with
  |some (.row s' st cut dF aQ)=>
   if ayI s s'&& !(st&&cut)then newVar V (.cat s bytes aQ es) λz V=>k (.one (.sr j)) (((V.uN j)).setObj j (.row s st cut (fr||dF) z))else .fail 11
  |_=>.fail 12
 |_=>.fail 13
def aoP(j:Nat):Cl SE->Bool
 |.sr j'=> !ayI j j'
 |_=>ab
def rq(V:SS)(et:TypeId)(s:Nat)(base:Cl SE):Cl SE->Option (Bool×SE×Bool)
 |.sr j=>match V.l[j]? with
  |some (.row s' _ _ fr es)=>if ayI s s'&&aoP j base then aa (fr,es,af)else ah
  |_=>ah
 |.nl _ _=>aa (af,.tr s .an,af)
 |.w fr z=>aa (fr,z,af)
 |.v z=>if(rp P 9 et).all (NA P)then aa (af,z,ab)else aa (ab,z,af)
 |_=>ah
def ZS(o:Option (LO SE))(s:Nat)(cut fr:Bool)(es:SE):Bool:=
 match o with
 |some (.row s' af yM dF aQ)=>ayI s s'&&cut==yM&&fr==dF&&es.eq aQ
 |_=>af
def E9(t:TypeId):Option SE:=
 match dj P t with
 |some (.bool b)=>aa (.b b)
 |some (.int q n)=>aa (.k q n)
 |some (.string b)=>aa (.s b.data.toList)
 |_=>ah
def IC:List (Cl SE)->Option (List SE)
 |[]=>aa []
 |.v e::ds=>match IC ds with
  |some es=>aa (e::es)
  |none=>ah
 |_::_=>ah
def yo:List (Cl SE)->Option (List SE)
 |[]=>aa []
 |c::ds=>match c with
  |.v e|.w _ e=>(yo ds).map (e::·)
  |.nl _ s=>(yo ds).map (.tr s .an::·)
  |_=>ah
def Kt:PV SE->Option SE
 |.one (.v e)=>aa e
 |.one (.w _ e)=>aa e
 |.ag cs=>(yo cs).map fa
 |_=>ah
def NF(kt:TypeId)(m key x:PV SE)(V:SS)(k:PV SE->SS->ak):ak:=
 match m,Kt key,Kt x with
 |.one (.mp j),aa ke,aa xe=>match V.l[j]? with
  |some (.mp AH es)=>if ayI kt AH&& !sS kt then newVar V (.ins kt es ke xe) λz V=>k (.one .un) (V.setObj j (.mp kt z))else .fail 63
  |_=>.fail 64
 |_,_,_=>.fail 65
def Xe(kt et:TypeId)(m key:PV SE)(ok:Bool)(V:SS)(k:PV SE->SS->ak):ak:=
 match m,Kt key,E9 P et with
 |.one (.mp j),aa ke,aa z0=>match V.l[j]? with
  |some (.mp AH es)=>if ayI kt AH&& !sS kt then newVar V (.ok (.rw (.get kt es ke z0))) λr V=>
    if ok then newVar V (.has kt es ke) λh V=>k (.tu [(af,[.v r]),(af,[.v h])]) V else k (.one (.v r)) V
   else .fail 67
  |_=>.fail 68
 |_,_,_=>.fail 69
def Ri(t:TypeId):Bool:=
 match dj P t with
 |some (.agg cs)=>cs.toList.isEmpty
 |_=>af
def NG(kt et:TypeId)(m key:PV SE)(ok:Bool)(V:SS)(k:PV SE->SS->ak):ak:=
 match m,Kt key,(match dj P et with|some (.agg _)=>yo (zeroCells P et)|_=>ah),aS P et with
 |.one (.mp j),aa ke,aa zs,aa n=>match V.l[j]? with
  |some (.mp AH es)=>if ayI kt AH&& !sS kt then newVar V (.uM n (.get kt es ke (fa zs))) λr V=>
    let cs:List (Cl SE):=(azR n).map λj=>.w ab (.bC r j)
    if ok then newVar V (.has kt es ke) λh V=>k (.tu [(ab,cs),(af,[.v h])]) V else k (.ag cs) V
   else .fail 67
  |_=>.fail 68
 |_,_,_,_=>.fail 70
def NH(kt:TypeId)(m key:PV SE)(V:SS)(k:PV SE->SS->ak):ak:=
 match m,Kt key with
 |.one (.mp j),aa ke=>match V.l[j]? with
  |some (.mp AH es)=>if ayI kt AH&& !sS kt then .aV (.uM 0 (.get kt es ke .an)) (newVar V (.has kt es ke) λh V=>k (.tu [(ab,[]),(af,[.v h])]) V)else .fail 67
  |_=>.fail 68
 |_,_=>.fail 69
def Ku(d:Nat)(V:SS)(ZT:SE):Option Operand->Option SE
 |none=>aa ZT
 |some o=>match cg P d V 3 o with
  |.one (.v e)=>aa e
  |_=>ah
def stood(V:SS):Cl SE->Bool
 |.sr j=>match V.l[j]? with
  |some (.row _ st _ _ _)=>st
  |_=>af
 |_=>af
def NI(d:Nat)(t:TypeId)(x:PV SE)(lo hi mx:Option Operand)(V:SS)(k:PV SE->SS->ak):ak:=
 match P.underlying t,x,mx with
 |some (.slice el),.one c,ah=>match aS P el with
  |some s=>match c,lo,hi,stood V c with
   |.sr j,aa l,ah,af=>match V.l[j]?,cg P d V 3 l with
    |some (.row s' af cut fr es),.one (.v e)=>if ayI s s' then .aV (.sub s es e (.len es)) (k (.one (.sv j e)) V)else .fail 24
    |_,_=>.fail 25
   |c,lo,hi,_=>match(match c with|.v _|.nl _ _|.sr _=>yZ V c|_=>ah)with
    |some (fr,z,V2)=>match Ku P d V (.i 0) lo,Ku P d V (.len z) hi with
     |some l,aa h=>newVar V2 (.sub s z l h) λy V=>k (.one (.w fr y)) V
     |_,_=>.fail 26
    |none=>.fail 27
  |none=>.fail 28
 |_,_,_=>.fail 29
def ue:PV SE->Option SE
 |.one (.v e)=>aa e
 |.one (.w _ e)=>aa e
 |_=>ah
def mxS(big:Bool)(c8:List (PV SE))(V:SS)(k:PV SE->SS->ak):ak:=
 match c8 with
 |[a,b]=>match ue a,ue b with
  |some a,aa b=>vk (.ok (.rw (.mx big a b))) V k
  |_,_=>.fail 75
 |_=>.fail 76
def isStr(t:TypeId):Bool:=match P.underlying t with
 |some .string=>ab
 |_=>af
def Kv(d:Nat)(x:PV SE)(lo hi mx:Option Operand)(V:SS)(k:PV SE->SS->ak):ak:=
 match ue x,mx with
 |some a,ah=>match Ku P d V (.i 0) lo,Ku P d V (.ud a) hi with
  |some l,aa h=>newVar V (.Ks a l h) λz V=>k (.one (.v z)) V
  |_,_=>.fail 20
 |_,_=>.fail 21
def ZU(d:Nat)(t:TypeId)(l c:Operand)(V:SS)(k:PV SE->SS->ak):ak:=
 match P.underlying t,cg P d V 0 l,ue (cg P d V 0 c)with
 |some (.slice el),.one (.v (.i 0)),aa ce=>match aS P el,dj P el,(P.info? el).map (·.bytes)with
  |some s,aa z,aa bytes=>if !ayI s 0&&ayI z.cells.size s&&azD bytes 1000000&&(z.cells.toList.map IV.raw).all Ev.ao then
    .aV (.dec 7 ce (.b ab)) (newObj V (.row s af af af (.tr s .an)) λj V=>k (.one (.sr j)) V)else .fail 202
  |_,_,_=>.fail 202
 |some (.slice el),pl,aa ce=>match ue pl,aS P el,dj P el,E9 P el,(P.info? el).map (·.bytes)with
  |some le,aa s,aa z,aa ze,aa bytes=>if le.eq ce&&ayI s 1&&azD bytes 1000000&&ayI z.cells.size 1&&(z.cells.toList.map IV.raw).all Ev.ao then
    newVar V (.dec 10 ce ze) λe V=>newObj V (.row 1 af af af e) λj V=>k (.one (.sr j)) V else .fail 202
  |_,_,_,_,_=>.fail 202
 |_,_,_=>.fail 202
def S2(d:Nat)(t:TypeId)(x:PV SE)(lo hi mx:Option Operand)(V:SS)(k:PV SE->SS->ak):Option ak:=
 match P.underlying t,x,lo,hi,mx with
 |some (.slice el),.one c,ah,aa h,ah=>match cg P d V 3 h,aS P el,c with
  |.one (.v (.i 0)),aa s,.nl ab s'=>if ayI s s' then aa (k (.one (.nl ab s)) V)else ah
  |.one (.v (.i 0)),aa s,.sr j=>match V.l[j]? with
   |some (.row s' af _ fr es)=>if ayI s s' then aa (.aV (.idx s es (.i 0)) (k (.one (.sr j)) ((V.uN j).setObj j (.row s af ab fr (.tr s .an)))))else ah
   |_=>ah
  |_,_,_=>ah
 |_,_,_,_,_=>ah
def kh(d:Nat)(o:Oper)(V:SS)(k:PV SE->SS->ak):ak:=
 match o.op with
 |.makeFunc (.func f) first cap=>if first.toList.isEmpty then match S0 P d V cap.toList with
   |some bs=>k (.one (.fn f bs)) V
   |none=>.fail 60
  else .fail 61
 |.makeMap t r=>match r,P.underlying t with
  |none,aa (.map kt _)=>if sS kt then .fail 76 else newObj V (.mp kt (.tp .an)) λj V=>k (.one (.mp j)) V
  |_,_=>.fail 62
 |.makeSlice t l c=>ZU P d t l c V k
 |.mapUpdate t m key x|.insert t m key x=>match P.underlying t with
  |some (.map kt et)=>NF kt (cg P d V t m) (cg P d V kt key) (cg P d V et x) V k
  |_=>.fail 66
 |.lookup t m key ok=>match P.underlying t with
  |some (.map kt et)=>if ok&&Ri P et then NH kt (cg P d V t m) (cg P d V kt key) V k else if isAgg P et then NG P kt et (cg P d V t m) (cg P d V kt key) ok V k else Xe P kt et (cg P d V t m) (cg P d V kt key) ok V k
  |_=>.fail 70
 |.range t x=>match P.underlying t,ue (cg P d V t x)with
  |some .string,aa a=>.aV (.ud a) (newObj V (.mp 0 (.tp (.ac a (.ac (.i 0) .an)))) λj V=>k (.one (.mp j)) V)
  |_,_=>.fail 77
 |.next it ab=>match cg P d V 0 it with
  |.one (.mp j)=>match V.l[j]? with
   |some (.mp kt es)=>if ayI kt 0 then .test (.dec 0 (.proj es 0) (.proj es 1))
     (newVar V (.tp (.ac (.proj es 0) (.ac (.dec 2 (.proj es 0) (.proj es 1)) .an))) λz V=>k (.tu [(af,[.v (.b ab)]),(af,[.v (.proj es 1)]),(af,[.v (.dec 1 (.proj es 0) (.proj es 1))])]) (V.setObj j (.mp 0 z)))
     (k (.tu [(af,[.v (.b af)])]) V)else .fail 78
   |_=>.fail 79
  |_=>.fail 79
 |.index t x ix=>match P.underlying t,ue (cg P d V t x),ue (cg P d V 0 ix)with
  |some .string,aa a,aa b=>vk (.JE a b) V k
  |_,_,_=>.fail 74
 |.slice t x lo hi mx=>match S2 P d t (cg P d V t x) lo hi mx V k with
  |some f=>f
  |none=>if isStr P t then Kv P d (cg P d V t x) lo hi mx V k else NI P d t (cg P d V t x) lo hi mx V k
 |.call c=>match c.callee with
  |.builtin .cap=>match kF P d V c.args.toList c.argTypes.toList,(c.argTypes[0]?).bind P.underlying with
   |[.one (.nl ab _)],aa (.slice _)=>k (.one (.v (.i 0))) V
   |_,_=>.fail 207
  |.builtin .max=>mxS ab (kF P d V c.args.toList c.argTypes.toList) V k
  |_=>.fail 201
 |_=>.fail 200
def ZV(et t1:TypeId)(base x:Cl SE)(V:SS)(k:PV SE->SS->ak):ak:=
 match P.underlying t1,base,x with
 |some (.int _),.nl ab s,.v n=>match aS P et,dj P et,E9 P et,(P.info? et).map (·.bytes)with
  |some s',aa z,aa ze,aa bytes=>if ayI s 1&&ayI s' 1&&azD bytes 1000000&&ayI z.cells.size 1&&(z.cells.toList.map IV.raw).all Ev.ao then
    newVar V (.dec 8 n ze) λe V=>newObj V (.row 1 af af af e) λj V=>k (.one (.sr j)) V else .fail 208
  |_,_,_,_=>.fail 208
 |_,_,_=>.fail 208
def gF(d:Nat)(o:Oper)(V:SS)(k:PV SE->SS->ak):ak:=
 let get (t:TypeId) (x:Operand):PV SE:=cg P d V t x
 match o.op with
 |.move x|.assign x=>k (get o.type x) V
 |.pick c a b=>match get 0 c with
  |.one (.v (.b ab))=>k (get o.type a) V
  |.one (.v (.b af))=>k (get o.type b) V
  |_=>.fail 40
 |.alloc t=>let cs:=zeroCells P t;if(dj P t).isNone then .fail 38 else newObj V (.var cs) λj V=>k (.one (.pt j 0 cs.length)) V
 |.box t x=>let cs:=ft (get t x);if !vw cs then .fail 39 else newObj V (.var cs) λj V=>k (.one (.pt j 0 cs.length)) V
 |.load t a=>ZR P t (get 0 a) V k
 |.store t a x=>match get 0 a with
  |.one (.pt j off ext)=>match V.l[j]? with
   |some (.var cs)=>
    let new:=ft (get t x)
    if vw new&&azD new.length ext&&azD (off+new.length) cs.length&&(aS P t)==aa new.length then k (.one .un) (V.setObj j (.var (D5 cs off new)))else .fail 41
   |_=>.fail 42
  |.one (.pr j i off ext)=>match V.l[j]? with
   |some (.row s af cut fr es)=>
    let new:=ft (get t x)
    if ayI off 0&&ayI new.length s&&ayI s ext&&aS P t==aa s&&vw new&&(isAgg P t||ayI s 1)then
     match wP V new with
     |some (f,zs,V2)=>if ZS V2.l[j]? s cut fr es then newVar V2 (.E8 s es i (if isAgg P t then fa zs else zs.headD .an)) λz V=>k (.one .un) (V.setObj j (.row s af cut (fr||f) z))else .fail 43
     |none=>.fail 43
    else .fail 44
   |_=>.fail 45
  |_=>.fail 46
 |.nilCheck x=>match get 0 x with
  |.one (.pt a b c)=>k (.one (.pt a b c)) V
  |.one (.fn _ _)=>.fail 47
  |.one (.tp a)=>k (.one (.tp a)) V
  |_=>.fail 47
 |.binOp op t x y _=>match get t x,get t y with
  |.ag cs,.ag ds=>match wP V cs,wP V ds with
   |some (_,a,_),aa (_,b,_)=>vk (.ok (.bin op t (fa a) (fa b))) V k
   |_,_=>.fail 48
  |.one (.v a),.one (.v b)=>vk (.ok (.bin op t a b)) V k
  |.one (.w _ a),.one (.v b)=>vk (.ok (.bin op t a b)) V k
  |.one (.v a),.one (.w _ b)=>vk (.ok (.bin op t a b)) V k
  |.one (.w _ a),.one (.w _ b)=>vk (.ok (.bin op t a b)) V k
  |_,_=>.fail 50
 |.unOp op _ x=>match get 0 x with
  |.one (.v (.b t))=>match op with
   |.not=>k (.one (.v (.b (!t)))) V
   |_=>.fail 51
  |.one (.v a)=>vk (.ok (.un op a)) V k
  |.one (.w _ a)=>vk (.ok (.un op a)) V k
  |_=>.fail 52
 |.convert src dst x=>match get src x with
  |.one (.v a)=>vk (.ok (.cv src dst a)) V k
  |.one (.w _ a)=>vk (.ok (.cv src dst a)) V k
  |_=>.fail 53
 |.build t parts=>match P.underlying t with
  |some (.struct fields)=>
   if !(fields.all λf=>(aS P f.type).isSome)||(dj P t).isNone then .fail 53 else
   match pw (λj x=>ft (cg P d V (aku fields j) x)) (air P fields) parts.toList (zeroCells P t)with
   |some cs=>k (.ag cs) V
   |none=>.fail 54
  |some (.array _ et)=>match aS P et with
   |some s=>if(dj P t).isNone then .fail 53 else
    match pw (λ_ x=>ft (cg P d V et x)) (Xd s) parts.toList (zeroCells P t)with
    |some cs=>k (.ag cs) V
    |none=>.fail 55
   |none=>.fail 56
  |_=>.fail 56
 |.buildSlice t len parts=>match elemOf P t with
  |some et=>match aS P et,dj P et with
   |some s,aa z=>if ayI s 0|| !ayI z.cells.size s|| !azD (len*s) 1048576 then .fail 58 else
    if ayI len 0 then(if parts.toList.isEmpty then k (.one (.nl af s)) V else .fail 58)else
    match pw (λ_ x=>ft (cg P d V et x)) (Xd s) parts.toList (S1 (zeroCells P et) len)with
    |some cs=>match ND P V cs (ab1 (rp P 9 et) len)with
     |some (fr,zs,V,rws)=>if !(isAgg P et||ayI s 1)then .fail 57 else
      ZQ (if fr then[]else rws) (newObj V (.row s af af fr (.tr s (fa (if isAgg P et then AG s len zs else zs)))) λj V=>k (.one (.sr j)) V)
     |none=>.fail 57
    |none=>.fail 57
   |_,_=>.fail 58
  |none=>.fail 59
 |.fieldAddr s x f=>match fieldAt P s f with
  |some (fo,sz)=>if ayI sz 0 then .fail 71 else match get 0 x with
   |.one (.pt j off ext)=>if azD (fo+sz) ext then k (.one (.pt j (off+fo) sz)) V else .fail 72
   |.one (.tp cs)=>if azD (fo+sz) cs.length then k (.one (.tp ((cs.drop fo).take sz))) V else .fail 73
   |.one (.tw fr cs)=>if azD (fo+sz) cs.length then k (.one (.tw fr ((cs.drop fo).take sz))) V else .fail 73
   |.one (.pr j i off ext)=>if azD (fo+sz) ext then k (.one (.pr j i (off+fo) sz)) V else .fail 74
   |_=>.fail 75
  |none=>.fail 76
 |.field t x f=>match get t x,fieldAt P t f with
  |.ag cs,aa (fo,sz)=>match P.underlying t with
   |some (.struct fields)=>
    if azD (fo+sz) cs.length&&(sx P ((fields[f]?).map (·.type)|>.getD 0)).isSome then
     if isAgg P ((fields[f]?).map (·.type)|>.getD 0)then(if ayI ((cs.drop fo).take sz).length sz then k (.ag ((cs.drop fo).take sz)) V else .fail 77)else match(cs.drop fo).take sz with
     |[c]=>k (.one c) V
     |_=>.fail 78
    else .fail 79
   |_=>.fail 79
  |_,_=>.fail 80
 |.indexAddr t x ix=>match P.underlying t,get 3 ix,ue (get 3 ix)with
  |some (.slice et),_,aa i=>match aS P et with
   |some s=>match get t x with
    |.one (.v z)=>newVar V (.idx s z i) λe V=>tj P et e (k (.one (.tp (if isAgg P et then(azR s).map (λj=>.bC e j)else[.ok e]))) V)
    |.one (.w fr z)=>newVar V (.idx s z i) λe V=>tj P et e (k (.one (.tw fr (if isAgg P et then(azR s).map (λj=>.bC e j)else[.ok e]))) V)
    |.one (.sr j)=>match V.l[j]? with
     |some (.row s' _ _ _ es)=>if ayI s s' then .aV (.idx s es i) (k (.one (.pr j i 0 s)) V)else .fail 81
     |_=>.fail 82
    |_=>.fail 83
   |none=>.fail 84
  |some (.array n et),.one (.v (.i i)),_=>match aS P et,get t x with
   |some s,.one (.pt j off ext)=>if !ayI s 0&&decide (0<=i)&&azp i.toNat n&&azD (i.toNat*s+s) ext then k (.one (.pt j (off+i.toNat*s) s)) V else .fail 85
   |some s,.one (.tp cs)=>.fail 86
   |_,_=>.fail 87
  |_,_,_=>.fail 88
 |.extract x i=>match get 0 x with
  |.tu vs=>match vs[i]? with
   |some (ab,cs)=>k (.ag cs) V
   |some (af,[c])=>k (.one c) V
   |_=>.fail 93
  |_=>.fail 94
 |.call c=>match c.callee with
  |.builtin b=>match b,kF P d V c.args.toList c.argTypes.toList with
   |.len,[pv]=>match(c.argTypes[0]?).bind P.underlying with
    |some .string=>match pv with
     |.one (.v z)=>vk (.ud z) V k
     |.one (.w _ z)=>vk (.ud z) V k
     |_=>.fail 96
    |some (.slice _)=>match pv with
     |.one (.v z)=>vk (.len z) V k
     |.one (.w _ z)=>vk (.len z) V k
     |.one (.nl _ _)=>k (.one (.v (.i 0))) V
     |.one (.sr j)=>match V.l[j]? with
      |some (.row _ _ _ _ es)=>vk (.len es) V k
      |_=>.fail 95
     |_=>.fail 96
    |some (.map _ _)=>match pv with
     |.one (.mp j)=>match V.l[j]? with
      |some (.mp kt es)=>if sS kt then .fail 95 else vk (.dec 9 es (.b ab)) V k
      |_=>.fail 95
     |_=>.fail 96
    |_=>.fail 96
   |.append,[.one base,.one x]=>match c.argTypes[0]?,c.argTypes[1]? with
    |some t0,aa t1=>match elemOf P t0,elemOf P t1 with
     |some et,aa _=>match aS P et,dj P et,(P.info? et).map (·.bytes)with
      |some s,aa z,aa bytes=>if ayI s 0|| !ayI z.cells.size s then .fail 97 else
       match rq P V et s base x with
       |some (fr,es,raw)=>if raw then .aV (.rws es) (D6 bytes s base fr es V k)else D6 bytes s base fr es V k
       |none=>.fail 98
      |_,_,_=>.fail 101
     |some et,ah=>ZV P et t1 base x V k
     |_,_=>.fail 102
    |_,_=>.fail 102
   |.len,_=>.fail 105
   |.append,_=>.fail 105
   |_,_=>kh P d o V k
  |_=>.fail 106
 |_=>kh P d o V k
inductive yp where
 |normal
 |exit (id:Nat)
 |ret
 |cw (t:TypeId) (pv:PV SE)
abbrev Kx:=TypeId->PV SE->SS->ak
inductive Want where
 |run|skip|test (t:Nat) (e:SE) (want:Bool)|fail
def vz(ops:Array Oper)(d:Nat)(V:SS)(o:Oper):Want:=
 match o.guard with
 |none=>.run
 |some (j,want)=>match(ops[j]?).bind (·.dst)with
  |some t=>if !azp t V.nt then .fail else match cN d t V.g with
   |some (.one (.v (.b x)))=>if x==want then .run else .skip
   |some (.one (.v e))=>.test t e want
   |some (.one (.w _ e))=>.test t e want
   |_=>.fail
  |none=>.fail
def D7(l:List (Nat×Nat×Nat))(d t j:Nat):Bool:=l.any λ(a,b,c)=>ayI a d&&ayI b t&&ayI c j
def oR(l:List (Nat×Nat))(a b:Nat):Bool:=l.any λ(c,d)=>ayI a c&&ayI b d
def akv(ch:Bool)(mode:Nat)(c:Cl SE)(n:Nat)(init:List SE):Cl SE×Nat×List SE:=
 match mode,c with
 |1,.v z=>(.v (.var n),n+1,z::init)
 |1,.nl _ s=>(.v (.var n),n+1,.tr s .an::init)
 |2,.v z=>(.w ab (.var n),n+1,z::init)
 |2,.w _ z=>(.w ab (.var n),n+1,z::init)
 |2,.nl _ s=>(.w ab (.var n),n+1,.tr s .an::init)
 |_,c=>
  if ch then match c with
   |.v z=>(.v (.var n),n+1,z::init)
   |.w fr z=>(.w fr (.var n),n+1,z::init)
   |c=>(c,n,init)
  else(c,n,init)
def Rj(ch:Nat->Bool):Nat->List (Cl SE)->Nat->List SE->List (Cl SE)×Nat×List SE
 |_,[],n,init=>([],n,init)
 |j,c::cs,n,init=>
  let(c,n,init):=akv (ch j) 0 c n init
  let(cs,n,init):=Rj ch (j+1) cs n init
  (c::cs,n,init)
def ab2(h:Hint)(d t:Nat):Nat:=if D7 h.wO d t 2 then 2 else if D7 h.wO d t 1 then 1 else 0
def ags(ch:Nat->Bool):Nat->List (Bool×List (Cl SE))->Nat->List SE->List (Bool×List (Cl SE))×Nat×List SE
 |_,[],n,init=>([],n,init)
 |j,(a,cs)::vs,n,init=>
  let(cs,n,init):=Rj ch j cs n init
  let(vs,n,init):=ags ch (j+cs.length) vs n init
  ((a,cs)::vs,n,init)
def NJ(h:Hint):List (Nat×Nat×PV SE)->Nat->List SE->List (Nat×Nat×PV SE)×Nat×List SE
 |[],n,init=>([],n,init)
 |(d,t,pv)::g,n,init=>
  if oR h.drop d t then NJ h g n init else
  match pv with
  |.one c=>
   let(c,n,init):=akv (D7 h.LQ d t 0) (ab2 h d t) c n init
   let(g,n,init):=NJ h g n init
   ((d,t,.one c)::g,n,init)
  |.ag cs=>
   let(cs,n,init):=Rj (D7 h.LQ d t) 0 cs n init
   let(g,n,init):=NJ h g n init
   ((d,t,.ag cs)::g,n,init)
  |.tu vs=>
   let(vs,n,init):=ags (D7 h.LQ d t) 0 vs n init
   let(g,n,init):=NJ h g n init
   ((d,t,.tu vs)::g,n,init)
def zZ(d t:Nat)(V:SS):SS:=
 match cN d t V.g with
 |some (.one (.sr k))=>match V.l[k]? with
  |some (.row _ _ _ fr es)=>(nV k V).cy d (aa t) (.one (.w fr es))
  |_=>V
 |_=>V
def settle:List (Nat×Nat×Nat)->SS->SS
 |[],V=>V
 |(d,t,m)::ws,V=>settle ws (if ayI m 2 then zZ d t V else V)
def yq(L:List (LO SE)):List (Nat×Nat×PV SE)->SS->SS
 |[],W=>W
 |(d,t,.one (.sr k))::g,W=>yq L g (match L[k]? with
  |some (.row _ ab _ _ _)=>(match cN d t W.g with
   |some (.one (.sr k'))=>nV k' W
   |_=>W)
  |_=>W)
 |_::g,W=>yq L g W
def ID(ws:List (Nat×Nat×Nat))(H W:SS):SS:=yq H.l H.g (settle ws W)
def aex(h:Hint):Nat->List (LO SE)->Nat->List SE->List (LO SE)×Nat×List SE
 |_,[],n,init=>([],n,init)
 |k,o::l,n,init=>
  let(o,n,init):=(match o with
   |.var cs=>
    let(cs,n,init):=Rj (oR h.AE k) 0 cs n init
    (LO.var cs,n,init)
   |.row s st cut fr es=>if oR h.AE k 0 then(.row s (st||oR h.AE k 1) (cut||oR h.AE k 2) (fr||oR h.AE k 3) (.var n),n+1,es::init)else(.row s (st||oR h.AE k 1) (cut||oR h.AE k 2) (fr||oR h.AE k 3) es,n,init)
   |.mp kt es=>if oR h.AE k 0 then(.mp kt (.var n),n+1,es::init)else(.mp kt es,n,init)
   |.lp c st snap=>(.lp c st snap,n,init)
   |.dead=>(.dead,n,init):LO SE×Nat×List SE)
  let(l,n,init):=aex h (k+1) l n init
  (o::l,n,init)
def D8(d t j:Nat)(V:SS):SS:=
 match cN d t V.g with
 |some (.one (.nl _ s))=>if ayI j 0 then{V with l:=V.l++[.row s af af af (.tr s .an)],g:=Nw d t (.one (.sr V.l.length)) V.g}else V
 |some (.ag cs)=>match cs[j]? with
  |some (.nl _ s)=>{V with l:=V.l++[.row s af af af (.tr s .an)],g:=Nw d t (.ag (cs.set j (.sr V.l.length))) V.g}
  |_=>V
 |_=>V
def D9(k j:Nat)(V:SS):SS:=
 match V.l[k]? with
 |some (.var cs)=>match cs[j]? with
  |some (.nl _ s)=>{V with l:=V.l.set k (.var (cs.set j (.sr V.l.length)))++[.row s af af af (.tr s .an)]}
  |_=>V
 |some (.row _ _ _ _ _)=>if ayI j 1 then nV k V else V
 |_=>V
def wR(h:Hint):List (Nat×Nat×Nat)->SS->SS
 |[],V=>V
 |(d,t,j)::l,V=>wR h l (if ayI (ab2 h d t) 0 then D8 d t j V else V)
def wS:List (Nat×Nat)->SS->SS
 |[],V=>V
 |(k,j)::l,V=>wS l (D9 k j V)
def wT(h:Hint)(V:SS):SS:=wS h.AE.reverse (wR h h.LQ.reverse V)
def tn:Cl SE->List Nat
 |.pt k _ _|.sr k|.sv k _|.pr k _ _ _|.mp k|.yl k=>[k]
 |.fn _ bs=>bs.map (·.1)
 |_=>[]
def Ht:PV SE->List Nat
 |.one c=>tn c
 |.ag cs=>cs.flatMap tn
 |.tu vs=>vs.flatMap λp=>p.2.flatMap tn
def reach(l:List (LO SE)):Nat->List Nat->List Nat->List Nat
 |0,_,seen=>seen
 |_,[],seen=>seen
 |n+1,k::ks,seen=>if seen.any (ayI k)then reach l n ks seen else
  match l[k]? with
  |some (.var cs)=>reach l n (cs.flatMap tn++ks) (k::seen)
  |some (.mp kt _)=>reach l n (if azD 1000000 kt then(kt % 1000000)::ks else ks) (k::seen)
  |some (.lp _ _ snap)=>reach l n (snap.flatMap (λq=>Ht q.2)++ks) (k::seen)
  |_=>reach l n ks (k::seen)
def marks(seen:List Nat):Nat->List (LO SE)->List (LO SE)
 |_,[]=>[]
 |k,o::os=>(if seen.any (ayI k)then o else .dead)::marks seen (k+1) os
def Rk:Nat->List (LO SE)->List Nat
 |_,[]=>[]
 |k,.lp _ st _::os=>if azp st 2 then k::Rk (k+1) os else Rk (k+1) os
 |k,_::os=>Rk (k+1) os
def gcS(V:SS):SS:={V with l:=marks (reach V.l 2000 (Rk 0 V.l++V.g.flatMap λp=>Ht p.2.2) []) 0 V.l}
def SE.y6(n:Nat):SE->Bool
 |.var x=>azp x n
 |.i _|.k _ _|.b _|.s _|.raw _|.an=>ab
 |.ok e|.uM _ e|.bC e _|.len e|.ud e|.tr _ e|.tp e|.proj e _|.un _ e|.cv _ _ e|.rw e|.rws e=>e.y6 n
 |.idx _ e f|.JD _ e f _|.ac e f|.cat _ _ e f|.bin _ _ e f|.mx _ e f|.JE e f|.has _ e f|.dec _ e f=>e.y6 n&&f.y6 n
 |.E8 _ e f g|.sub _ e f g|.Ks e f g|.ins _ e f g=>e.y6 n&&f.y6 n&&g.y6 n
 |.get _ e f g=>e.y6 n&&f.y6 n&&g.y6 n
structure Mt where
 args:List (Nat×SE)
 eH:List (Nat×Nat)
def uf{O:Type}(l:List (Nat×O))(k:Nat):Option O:=
 match l with
 |[]=>ah
 |(a,b)::l=>if ayI a k then aa b else uf l k
def BD(n nm:Nat)(h e:SE)(m:Mt):Option Mt:=
 match h with
 |.var i=>if azp i n then(if h.eq e then aa m else ah)else if azD nm i then ah else(match uf m.args i with
  |some e'=>if e'.eq e then aa m else ah
  |none=>aa {m with args:=(i,e)::m.args})
 |h=>if h.y6 n&&h.eq e then aa m else ah
def NK(h e:Nat)(m:Mt):Option Mt:=
 match uf m.eH h with
 |some e'=>if ayI e e' then aa m else ah
 |none=>if m.eH.any (λp=>ayI p.2 e)then ah else aa {m with eH:=(h,e)::m.eH}
def S3(n nm:Nat):List SE->List SE->Mt->Option Mt
 |[],[],m=>aa m
 |a::as,b::bs,m=>match BD n nm a b m with
  |some m=>S3 n nm as bs m
  |none=>ah
 |_,_,_=>ah
def akw:List (Nat×Nat)->List (Nat×Nat)->Mt->Option Mt
 |[],[],m=>aa m
 |(a,x)::as,(b,y)::bs,m=>if ayI x y then(match NK a b m with
  |some m=>akw as bs m
  |none=>ah)else ah
 |_,_,_=>ah
def akx(n nm:Nat)(h e:Cl SE)(m:Mt):Option Mt:=
 match h,e with
 |.un,_=>aa m
 |.v a,.v b=>BD n nm a b m
 |.w f a,.w f' b=>if f|| !f' then BD n nm a b m else ah
 |.w f a,.v b=>if f then BD n nm a b m else ah
 |.v a,.nl _ s=>BD n nm a (.tr s .an) m
 |.w _ a,.nl _ s=>BD n nm a (.tr s .an) m
 |.nl a s,.nl b s'=>if a==b&&ayI s s' then aa m else ah
 |.pt k o x,.pt k' o' x'=>if ayI o o'&&ayI x x' then NK k k' m else ah
 |.tp a,.tp b=>S3 n nm a b m
 |.tw f a,.tw f' b=>if f|| !f' then S3 n nm a b m else ah
 |.sr k,.sr k'=>NK k k' m
 |.mp k,.mp k'=>NK k k' m
 |.yl k,.yl k'=>NK k k' m
 |.fn f a,.fn f' b=>if ayI f f' then akw a b m else ah
 |_,_=>ah
def Rm(n nm:Nat):List (Cl SE)->List (Cl SE)->Mt->Option Mt
 |[],[],m=>aa m
 |a::as,b::bs,m=>match akx n nm a b m with
  |some m=>Rm n nm as bs m
  |none=>ah
 |_,_,_=>ah
def agt(n nm:Nat):List (Bool×List (Cl SE))->List (Bool×List (Cl SE))->Mt->Option Mt
 |[],[],m=>aa m
 |(x,a)::as,(y,b)::bs,m=>if x==y then(match Rm n nm a b m with
  |some m=>agt n nm as bs m
  |none=>ah)else ah
 |_,_,_=>ah
def agu(n nm:Nat)(h e:PV SE)(m:Mt):Option Mt:=
 match h,e with
 |.one a,.one b=>akx n nm a b m
 |.ag as,.ag bs=>Rm n nm as bs m
 |.tu as,.tu bs=>agt n nm as bs m
 |_,_=>ah
def aky(n nm:Nat)(g:List (Nat×Nat×PV SE)):List (Nat×Nat×PV SE)->Mt->Option Mt
 |[],m=>aa m
 |(d,t,pv)::h,m=>match cN d t g with
  |some GL=>match agu n nm pv GL m with
   |some m=>aky n nm g h m
   |none=>ah
  |none=>ah
def agv(n nm:Nat):List (Nat×PV SE)->List (Nat×PV SE)->Mt->Option Mt
 |[],[],m=>aa m
 |p::ps,q::qs,m=>if ayI p.1 q.1 then(match agu n nm p.2 q.2 m with
  |some m=>agv n nm ps qs m
  |none=>ah)else ah
 |_,_,_=>ah
def at2(n nm:Nat)(h e:LO SE)(m:Mt):Option Mt:=
 match h,e with
 |.var cs,.var ds=>Rm n nm cs ds m
 |.row s st cut fr es,.row s' dE yM dF aQ=>if ayI s s'&&st==dE&&(cut|| !yM)&&(fr|| !dF)then BD n nm es aQ m else ah
 |.mp kt es,.mp AH aQ=>if ayI kt AH then BD n nm es aQ m else ah
 |.lp c st sn,.lp c' dE wB=>if ayI c c'&&ayI st dE then agv n nm sn wB m else ah
 |.dead,_=>aa m
 |_,_=>ah
def aey(n nm:Nat)(l:List (LO SE)):Nat->List (LO SE)->Mt->Option Mt
 |_,[],m=>aa m
 |k,o::os,m=>
  match o with
  |.dead=>aey n nm l (k+1) os m
  |o=>match NK k ((uf m.eH k).getD k) m with
  |some m=>match l[(uf m.eH k).getD k]? with
   |some o'=>match at2 n nm o o' m with
    |some m=>aey n nm l (k+1) os m
    |none=>ah
   |none=>ah
  |none=>ah
def S4(n:Nat)(m:Mt):Nat->List SE->Option (List SE)
 |0,acc=>aa acc
 |j+1,acc=>match uf m.args (n+j)with
  |some e=>S4 n m j (e::acc)
  |none=>ah
def isLive(l:List (LO SE))(k:Nat):Bool:=
 match l[k]? with
 |some .dead|none=>af
 |_=>ab
def at3(l:List (LO SE))(k:Nat):Bool:=
 match l[k]? with
 |some (.mp _ _)=>ab
 |_=>af
def Kw(H:SS):Bool:=
 (H.g.all λp=>(Ht p.2.2).all (isLive H.l))&&H.l.all λ|.var cs=>(cs.flatMap tn).all (isLive H.l)|.mp kt _=>azp kt 1000000||at3 H.l (kt % 1000000)|.lp _ _ sn=>(sn.flatMap λq=>Ht q.2).all (isLive H.l)|_=>ab
def xm(n:Nat)(args:List SE)(h e:SE):Bool:=
 match h with
 |.var x=>if azp x n then h.eq e else(match args[x- n]? with
  |some a=>a.eq e
  |none=>af)
 |h=>h.y6 n&&h.eq e
def Hu(eH:List (Nat×Nat))(h e:Nat):Bool:=
 match uf eH h with
 |some e'=>ayI e e'
 |none=>af
def qP(n:Nat)(args:List SE)(eH:List (Nat×Nat))(h e:Cl SE):Bool:=
 match h,e with
 |.un,_=>ab
 |.v a,.v b=>xm n args a b
 |.w f a,.w f' b=>(f|| !f')&&xm n args a b
 |.w f a,.v b=>f&&xm n args a b
 |.v a,.nl _ s=>xm n args a (.tr s .an)
 |.w _ a,.nl _ s=>xm n args a (.tr s .an)
 |.nl a s,.nl b s'=>a==b&&ayI s s'
 |.pt k o x,.pt k' o' x'=>ayI o o'&&ayI x x'&&Hu eH k k'
 |.tp a,.tp b=>kQ (xm n args) a b
 |.sr k,.sr k'=>Hu eH k k'
 |.mp k,.mp k'=>Hu eH k k'
 |.yl k,.yl k'=>Hu eH k k'
 |.fn f a,.fn f' b=>ayI f f'&&kQ (λ(p q:Nat×Nat)=>ayI p.2 q.2&&Hu eH p.1 q.1) a b
 |_,_=>af
def IE(n:Nat)(args:List SE)(eH:List (Nat×Nat))(h e:PV SE):Bool:=
 match h,e with
 |.one a,.one b=>qP n args eH a b
 |.ag as,.ag bs=>kQ (qP n args eH) as bs
 |.tu as,.tu bs=>kQ (λ(p q:Bool×List (Cl SE))=>p.1==q.1&&kQ (qP n args eH) p.2 q.2) as bs
 |_,_=>af
def akz(n:Nat)(args:List SE)(eH:List (Nat×Nat))(g:List (Nat×Nat×PV SE))(h:List (Nat×Nat×PV SE)):Bool:=
 h.all λ(d,t,pv)=>match cN d t g with
  |some GL=>IE n args eH pv GL
  |none=>af
def yN(n:Nat)(args:List SE)(eH:List (Nat×Nat))(h e:LO SE):Bool:=
 match h,e with
 |.var cs,.var ds=>kQ (qP n args eH) cs ds
 |.row s st cut fr es,.row s' dE yM dF aQ=>ayI s s'&&st==dE&&(cut|| !yM)&&(fr|| !dF)&&xm n args es aQ
 |.mp kt es,.mp AH aQ=>ayI kt AH&&xm n args es aQ&&(azp kt 1000000||Hu eH (kt % 1000000) (kt % 1000000))
 |.lp c st sn,.lp c' dE wB=>ayI c c'&&ayI st dE&&kQ (λ(p q:Nat×PV SE)=>ayI p.1 q.1&&p.2.qN&&IE n args eH p.2 q.2) sn wB
 |_,_=>af
def S5(n:Nat)(args:List SE)(eH:List (Nat×Nat))(l:List (LO SE)):Nat->List (LO SE)->Bool
 |_,[]=>ab
 |k,o::os=>(match o with
  |.dead=>ab
  |o=>match uf eH k with
   |some k'=>match l[k']? with
    |some o'=>yN n args eH o o'
    |none=>af
   |none=>af)&&S5 n args eH l (k+1) os
def aez(eH:List (Nat×Nat)):Bool:=eH.all λp=>eH.all λq=> !ayI p.2 q.2||ayI p.1 q.1
def inst(n m:Nat)(H V:SS):Option (List SE×List (Nat×Nat)):=
 if !Kw H then ah else match aky n (n+m) V.g H.g ⟨[],[]⟩with
 |some mt=>match aey n (n+m) V.l 0 H.l mt with
  |some mt=>match S4 n mt m []with
   |some args=>if akz n args mt.eH V.g H.g&&S5 n args mt.eH V.l 0 H.l&&aez mt.eH&&ayI args.length m then aa (args,mt.eH)else ah
   |none=>ah
  |none=>ah
 |none=>ah
def z7:Code->Nat
 |.region id _ _=>id
 |.seq a _=>z7 a
 |.block _ a=>z7 a
 |.loop a=>z7 a
 |.scope a=>z7 a
 |_=>0
abbrev m8:=Bool->Nat->Nat->Code->SS->(yp->SS->ak)->ak
section step
variable(self:m8)(kx:Kx)
def setArgs(d:Nat):Nat->List (PV SE)->List (Nat×Nat×PV SE)
 |_,[]=>[]
 |j,pv::c8=>(d,j,pv)::setArgs d (j+1) c8
def eV(d:Nat):List (Nat×Nat×PV SE)->List (Nat×Nat×PV SE)
 |[]=>[]
 |(d',t,pv)::g=>if ayI d' d=ab then eV d g else(d',t,pv)::eV d g
def S6(t:TypeId)(pa:PV SE)(V:SS):Option (PV SE):=
 match aS P t,sx P t,pa with
 |some s,aa _,.one (.pt j off ext)=>match V.l[j]? with
  |some (.var cs)=>if azD s ext&&azD (off+s) cs.length then(if isAgg P t then aa (.ag ((cs.drop off).take s))else match(cs.drop off).take s with
   |[c]=>aa (.one c)
   |_=>ah)else ah
  |_=>ah
 |_,_,_=>ah
def oS(d:Nat)(V:SS):List ResultVar->Option (List (PV SE))
 |[]=>aa []
 |.tmp t::rs=>match oS d V rs with
  |some c8=>aa ((cN d t V.g).getD (.one .un)::c8)
  |none=>ah
 |.cell a t::rs=>match cN d a V.g with
  |some pa=>match S6 P t pa V,oS d V rs with
   |some pv,aa c8=>aa (pv::c8)
   |_,_=>ah
  |none=>ah
def Hv(c8:List (PV SE)):PV SE:=
 match c8 with
 |[]=>.one .un
 |[pv]=>pv
 |c8=>.tu (c8.map λpv=>match pv with
  |.one c=>(af,[c])
  |.ag cs=>(ab,cs)
  |.tu _=>(af,[.un]))
def oT(d f:Nat)(dst:Option Nat)(g:FuncId)(args:List (PV SE))(V:SS)(k:PV SE->SS->ak):ak:=
 match P.funcs[g]? with
 |some fn=>match fn.body with
  |some body=>
   if cfg.stop.any (ayI g)then .fail 119 else if azD args.length fn.ntmps&&fn.name != "runtime.NumGoroutine" then
    self af (d+1) (f*1000+dst.getD 999+1) body {V with g:=setArgs (d+1) 0 args++eV (d+1) V.g,nt:=fn.ntmps} λex W=>match ex with
     |.exit _=>.fail 111
     |.cw t pv=>kx t pv {W with g:=eV (d+1) W.g,nt:=V.nt}
     |_=>match oS P (d+1) W fn.results.toList with
      |some c8=>k (Hv c8) {W with g:=eV (d+1) W.g,nt:=V.nt}
      |none=>.fail 110
   else .fail 112
  |none=>.fail 113
 |none=>.fail 114
def wU:ak->Option (SS×SS)
 |.test _ a b=>match wU a with
  |some x=>aa x
  |none=>wU b
 |.bind _ k|.aV _ k|.call _ _ _ k|.loop _ k=>wU k
 |.BC a _ b=>match wU a with
  |some x=>aa x
  |none=>wU b
 |.bad 999999 n lv _ _ hg hl g l=>aa (⟨hg,hl,n,lv,0⟩,⟨g,l,n,lv,0⟩)
 |_=>ah
def guardOf(g:FuncId):Option TypeId:=(cfg.rows.find? λn=>azD 1000000 n&&ayI (n % 1000000) g).map λn=>n/1000000- 1
def IF(g:FuncId)(bs:List (Nat×Nat))(args:List (PV SE)):Option (TypeId×FuncId×List (Nat×Nat)):=
 match bs,args with
 |[],[.one (.fn c wC)]=>(guardOf cfg g).map λt=>(t,c,wC)
 |_,_=>ah
def Hw(d:Nat)(V:SS):Option Nat:=
 match cN d 2 V.g with
 |some (.one (.pt j 0 1))=>match V.l[j]? with
  |some (.var [.v (.i z)])=>if z==0 then aa j else ah
  |_=>ah
 |_=>ah
def LS(d f:Nat)(dst:Option Nat)(g:FuncId)(t:TypeId)(c:FuncId)(wC:List (Nat×Nat))(V:SS)(k:PV SE->SS->ak):ak:=
 .call (3*P.funcs.size+g) ab (fa [.i t])<|
  oT P cfg self (λt' pv W=>match pv,Hw (d+1) W with
   |.ag [.v e],aa j=>if ayI t' t then .aV (.rw e) (k (.one (.v e)) {W with g:=eV (d+1) W.g,nt:=V.nt,l:=((W.l++[LO.dead]).set W.l.length LO.dead).set j (.var [.v e])})else .fail 171
   |_,_=>.fail 172) (d+1) (f*1000+dst.getD 999+1) ah c (wC.map λ(k,ext)=>.one (.pt k 0 ext))
   {V with n:=V.n+1,l:=V.l++[.var [.v (.i 0)]],g:=(d+1,2,.one (.pt V.l.length 0 1))::eV (d+1) V.g,nt:=3} λ_ W=>match Hw (d+1) W with
    |some j=>k (.one (.v (.i 0))) {W with g:=eV (d+1) W.g,nt:=V.nt,l:=W.l.set j (.var [.v (.i 0)])}
    |none=>.fail 173
def IG(d f:Nat)(dst:Option Nat)(g:FuncId)(args:List (PV SE))(V:SS)(k:PV SE->SS->ak):ak:=
 match IF cfg g [] args with
 |some (t,c,wC)=>match P.funcs[g]? with
  |some fn=>if fn.body.isSome&&fn.name != "runtime.NumGoroutine" then LS P cfg self d f dst g t c wC V k else .fail 18
  |none=>.fail 18
 |none=>oT P cfg self kx d f dst g args V k
def IH(d f:Nat)(dst:Option Nat)(g:FuncId)(args:List (PV SE))(V:SS)(k:SS->ak):ak:=
 let V1:SS:={V with lv:=V.lv+1}
 match wU (IG P cfg self (λ_ _ _=>.fail 0) d f dst g args V1 λpv W=>let W:=W.cy d dst pv;.bad 999999 W.n W.lv 0 0 W.g W.l W.g W.l)with
 |none=>.fail 150
 |some (V2,_)=>
  let h:=(cfg.hints.find? λh=>ayI h.d d&&ayI h.f f&&ayI h.id (1000000+dst.getD 999)).getD ⟨d,f,1000000+dst.getD 999,[],[],[],[]⟩
  let Vg:=gcS (wT h (settle h.wO V2))
  let(g',n,init):=NJ h Vg.g V.n []
  let(l',n,_):=aex h 0 Vg.l n init
  let H:SS:=⟨g',l',V.n+(n- V.n),V.lv,V.nt⟩
  .BC (IG P cfg self kx d f dst g args V1 λpv W=>
   let W:=wT h (settle h.wO (W.cy d dst pv))
   match inst V.n (n- V.n) H W with
   |some (args,_)=>.next V.lv (fa args)
   |none=>.bad d f (1000000+dst.getD 999) V.n n H.g H.l W.g W.l) (n- V.n) (k H)
def wV(V:SS):List (PV SE)->Option (List SE×SS)
 |[]=>aa ([],V)
 |pv::c8=>match vy V pv with
  |some (_,z,V)=>match wV V c8 with
   |some (zs,V)=>aa (z::zs,V)
   |none=>ah
  |none=>ah
def Ky:List (PV SE)->Bool
 |[]=>ab
 |.tu _::_=>af
 |_::l=>Ky l
def Rn(fn:Func)(V:SS)(r:SE)(k:PV SE->SS->ak):ak:=
 match fn.resultTypes.toList with
 |[t]=>tj P t r (k (ofType P t r) V)
 |ts=>SZ P r 0 ts (k (.tu (NC P r 0 ts)) V)
def II(g:FuncId)(zs:List SE)(j:Nat)(V:SS)(k:PV SE->SS->ak):ak:=
 match V.l[j]? with
 |some (.row s af af _ es)=>if azp g P.funcs.size then .aV (.rws es) (.call (P.funcs.size+g) ab (fa (es::zs)) (k (.one (.sr j)) ((({V with n:=V.n+1}:SS).uN j).setObj j (.row s af af af (.var V.n)))))else .fail 13
 |_=>.fail 14
def uO:List (PV SE)->List (Nat×Nat)×List (PV SE)
 |.one (.pt k 0 ext)::r=>((k,ext)::(uO r).1,(uO r).2)
 |r=>([],r)
def AI(V:SS):List (Nat×Nat)->Option (List (List SE))
 |[]=>aa []
 |(k,n)::l=>match V.l[k]? with
  |some (.var ds)=>if ayI ds.length n then(match IC ds,AI V l with
   |some es,aa r=>aa (es::r)
   |_,_=>ah)else ah
  |_=>ah
def distinct:List Nat->Bool
 |[]=>ab
 |k::l=> !(l.any (ayI k))&&distinct l
def nb(y:SE):Nat->List (Nat×Nat)->List (LO SE)->List (LO SE)
 |_,[],L=>L
 |i,(k,n)::l,L=>nb y (i+1) l (L.set k (.var ((azR n).map λq=>.v (.bC (.proj y (i+1)) q))))
def aeA(g:FuncId)(l:List (Nat×Nat))(rest:List (PV SE))(V:SS)(k:PV SE->SS->ak):ak:=
 match wV V rest,AI V l,P.funcs[g]? with
 |some (zs,_),aa Hx,aa fn=>if !rest.all na then .fail 161 else if !distinct (l.map (·.1))then .fail 162 else match fn.resultTypes.toList with
  |[t]=>.call (2*P.funcs.size+g) ab (.ac (fa (Hx.map fa)) (fa zs)) (tj P t (.proj (.var V.n) 0) (k (ofType P t (.proj (.var V.n) 0)) {V with n:=V.n+1,l:=nb (.var V.n) 0 l V.l}))
  |_=>.fail 163
 |_,_,_=>.fail 164
def S7(g:FuncId)(args:List (PV SE))(V:SS)(k:PV SE->SS->ak):ak:=
 if !(uO args).1.isEmpty then aeA P g (uO args).1 (uO args).2 V k else
 match args with
 |.one c::rest=>match wV V rest with
  |some (zs,_)=>if !rest.all na then .fail 16 else match c with
   |.sr j=>II P g zs j V k
   |.nl _ s=>newObj V (.row s af af af (.tr s .an)) λj V=>II P g zs j V k
   |_=>.fail 17
  |none=>.fail 15
 |_=>.fail 15
def wW(g:FuncId):Bool:=azp g 100000&&cfg.rows.any (ayI (g+500000))
def D_:eS:={cfg with rows:=cfg.rows.filter λn=>azp n 500000||azD 600000 n}
def bY(g:FuncId):Nat:=
 match P.funcs[g]? with
 |some fn=>match fn.resultTypes.toList with
  |[t]=>match P.underlying t with
   |some (.slice el)=>(aS P el).getD 0
   |_=>0
  |_=>0
 |none=>0
def akA(g:FuncId):Bool:=
 match P.funcs[g]? with
 |some fn=>match fn.resultTypes.toList with
  |[t]=>match P.underlying t with
   |some (.slice el)=>(rp P 9 el).all (NA P)
   |_=>ab
  |_=>ab
 |none=>ab
def S8(g:FuncId)(args:List (PV SE))(V:SS)(k:PV SE->SS->ak):ak:=
 match wV V args,P.funcs[g]? with
 |some (zs,V'),aa fn=>if Ky args&&(fn.body.isSome&&fn.name != "runtime.NumGoroutine")then
   if !akA P g then(if args.all na then .call (7*P.funcs.size+g) af (fa zs) (k (.one (.sr V'.l.length)) {V' with n:=V'.n+1,l:=V'.l++[.row (bY P g) af af ab (.var V'.n)]})else .fail 183)else
   .call (4*P.funcs.size+g) ab (fa zs) (k (.one (.sr V'.l.length)) {V' with n:=V'.n+1,l:=V'.l++[.row (bY P g) af af af (.var V'.n)]})else .fail 181
 |_,_=>.fail 181
def p5(d:Nat)(V:SS):List (Nat×PV SE):=V.g.filterMap λp=>if ayI p.1 d then(match cN d p.2.1 V.g with
 |some pv=>if pv.qN then aa (p.2.1,pv)else ah
 |none=>ah)else ah
def LU(d:Nat)(sn:List (Nat×PV SE)):List (Nat×Nat×PV SE):=sn.map λq=>(d,q.1,q.2)
def IJ(d:Nat):List Tmp->List (PV SE)->List (Nat×Nat×PV SE)->List (Nat×Nat×PV SE)
 |p::ps,a::as,g=>IJ d ps as (Nw d p a g)
 |_,_,g=>g
def akB(j c:Nat)(sn:List (Nat×PV SE))(ex:yp)(W:SS)(k:PV SE->SS->ak):ak:=
 match ex with
 |.normal=>k (.one (.v (.b ab))) {W with l:=W.l.set j (.lp c 0 sn)}
 |.ret=>k (.one (.v (.b af))) {W with l:=W.l.set j (.lp c 2 [])}
 |.exit i=>k (.one (.v (.b af))) {W with l:=W.l.set j (.lp c (i+4) [])}
 |.cw _ _=>.fail 192
def S9(pv:PV SE)(j:Nat):Bool:=
 match pv with
 |.one (.yl j')=>ayI j j'
 |_=>af
def S_(Cx:Cs)(d f:Nat)(dst:Option Nat)(fo:Operand)(j:Nat)(args:List (PV SE))(V:SS)(k:PV SE->SS->ak):ak:=
 match V.l[j]? with
 |some (.lp c 0 sn)=>match Cx[c]? with
  |some rc=>if ayI args.length rc.ps.length&&rc.ps.all (λp=>azp p rc.n)then
    self ab (d+1) (f*1000+dst.getD 999+1) rc.gy {V with g:=IJ (d+1) rc.ps args (LU (d+1) sn++eV (d+1) V.g),nt:=rc.n} λex W=>match ex,W.l[j]? with
     |.normal,aa (.lp c1 0 sn1)=>if ayI c c1&&S9 (cg P d W 0 fo) j then
       self ab (d+1) (f*1000+dst.getD 999+1) rc.bd {W with l:=W.l.set j (.lp c 1 sn1)} λex W=>match W.l[j]? with
        |some (.lp c2 1 sn2)=>if ayI c c2&&S9 (cg P d W 0 fo) j then akB j c sn2 ex {W with g:=eV (d+1) W.g,nt:=V.nt} k else .fail 193
        |_=>.fail 193
      else .fail 194
     |_,_=>.fail 194
   else .fail 195
  |none=>.fail 195
 |_=>.fail 196
def akC:Bool:=cfg.hints.any λh=>ayI h.d 999998
def IK(g:FuncId)(args:List (PV SE))(V:SS)(k:PV SE->SS->ak):ak:=
 match args with
 |.one (.nl ab s)::rest=>match wV V rest with
  |some (zs,_)=>if rest.all na&&azp g P.funcs.size&&azp 0 s then .call g af (fa (.raw (.slice ah 0 0)::zs)) (.aV (.dec 11 (.var V.n) (.b ab)) (k (.one (.nl ab s)) {V with n:=V.n+1}))else .fail 16
  |none=>.fail 16
 |_=>S7 P g args V k
variable(Cx:Cs)
def ZW(d f0:Nat)(sX:Bool)(o:Oper)(c:Call)(V:SS)(k:PV SE->SS->ak):ak:=
 match c.callee with
 |.builtin _=>gF P d o V k
 |.value f=>match cg P d V 0 f with
  |.one (.fn g bs)=>
   let args:=kF P d V c.args.toList c.argTypes.toList
   match IF cfg g bs args with
   |some (t,cf,wC)=>match P.funcs[g]? with
    |some fn=>if !sX&&fn.body.isSome&&fn.name != "runtime.NumGoroutine" then LS P cfg self d f0 o.dst g t cf wC V k else .fail 18
    |none=>.fail 18
   |none=>
   if bs.isEmpty&&wW cfg g then S8 P g args V k
   else if bs.isEmpty&&cfg.rows.any (ayI g)then
    match P.funcs[g]? with
    |some fn=>if !sX&&fn.body.isSome&&fn.name != "runtime.NumGoroutine" then(if akC cfg then IK P g args V k else S7 P g args V k)else .fail 18
    |none=>.fail 18
   else if bs.isEmpty&&cfg.pure.any (ayI g)then
    match wV V args,P.funcs[g]? with
    |some (zs,V'),aa fn=>if Ky args&&fn.body.isSome&&fn.name != "runtime.NumGoroutine" then .call g (!args.all na) (fa zs) (Rn P fn {V' with n:=V'.n+1} (.var V'.n) k)else .fail 115
    |_,_=>.fail 115
   else if sX then .fail 116 else oT P cfg self kx d f0 o.dst g (args++bs.map λ(k,ext)=>.one (.pt k 0 ext)) V k
  |.one (.yl j)=>if sX then .fail 116 else S_ P self Cx d f0 o.dst f j (kF P d V c.args.toList c.argTypes.toList) V k
  |_=>.fail 117
 |.invoke .. =>.fail 118
def LV(d f0:Nat)(sX:Bool)(o:Oper)(V:SS)(k:PV SE->SS->ak):ak:=
 match o.op with
 |.call c=>ZW P cfg self kx Cx d f0 sX o c V k
 |_=>gF P d o V k
def Ro:SE->Option IV
 |.i n=>aa (.int n)
 |.b t=>aa (.bool t)
 |_=>ah
def agw:IV->Option SE
 |.raw (.int .i64 n)=>aa (.i n)
 |.raw (.bool b)=>aa (.b b)
 |_=>ah
def Ta(d:Nat)(V:SS)(o:Oper):Option (PV SE):=
 match o.op with
 |.binOp op t x y _=>match cg P d V t x,cg P d V t y with
  |.one (.v a),.one (.v b)=>match Ro a,Ro b with
   |some u,aa v=>((tU P op t x y u v).bind agw).map λe=>.one (.v e)
   |_,_=>ah
  |_,_=>ah
 |.index t x ix=>match P.underlying t,cg P d V t x,cg P d V 0 ix with
  |some (.array n el),.ag cs,.one (.v (.i z))=>match aS P el,sx P el with
   |some s,aa _=>if 0<=z/\z<n/\z.toNat*s+s<=cs.length then(if isAgg P el then aa (.ag ((cs.drop (z.toNat*s)).take s))else match(cs.drop (z.toNat*s)).take s with
    |[c]=>aa (.one c)
    |_=>ah)else ah
   |_,_=>ah
  |_,_,_=>ah
 |_=>ah
def agx:Bool:=cfg.hints.any λh=>ayI h.d 999999
def ZX(d:Nat)(V:SS)(o:Oper):Option (SE×Nat×Cl SE):=
 match o.op with
 |.call c=>match c.callee with
  |.builtin .append=>match kF P d V c.args.toList c.argTypes.toList with
   |[.one base,.one x]=>match c.argTypes[0]?,c.argTypes[1]? with
    |some t0,aa t1=>match elemOf P t0,elemOf P t1 with
     |some et,aa _=>match aS P et,dj P et,(P.info? et).map (·.bytes)with
      |some s,aa z,aa bytes=>if ayI s 0|| !ayI z.cells.size s|| !azD bytes 1000000 then ah else
       match rq P V et s base x,base with
       |some (_,es,_),.nl b w=>aa (es,s,.nl b w)
       |_,_=>ah
      |_,_,_=>ah
     |_,_=>ah
    |_,_=>ah
   |_=>ah
  |_=>ah
 |_=>ah
def E_(d f0:Nat)(sX:Bool)(o:Oper)(V:SS)(k:PV SE->SS->ak):ak:=
 match(if !sX&&akC cfg then ZX P d V o else ah)with
 |some (es,s,c)=>.aV (.sub s es (.len es) (.i 0)) (k (.one c) V)
 |none=>match(if !sX&&agx cfg then Ta P d V o else ah)with
  |some pv=>k pv V
  |none=>LV P cfg self kx Cx d f0 sX o V k
def AJ(d:Nat)(sX:Bool)(o:Oper)(V:SS):Option (FuncId×List (PV SE)):=
 if sX then ah else match o.op with
 |.call c=>match c.callee with
  |.value f=>match cg P d V 0 f with
   |.one (.fn g bs)=>if cfg.ZO.any (ayI g)&& !(bs.isEmpty&&cfg.pure.any (ayI g))then aa (g,kF P d V c.args.toList c.argTypes.toList++bs.map λ(k,ext)=>.one (.pt k 0 ext))else ah
   |_=>ah
  |_=>ah
 |_=>ah
def vA(sk:List Nat):Option Nat->List Nat
 |some t=>sk.filter λx=> !ayI x t
 |none=>sk
def IL(sk:List Nat):Option Nat->List Nat
 |some t=>t::vA sk (aa t)
 |none=>sk
def oU(sk:List Nat)(ops:Array Oper)(o:Oper):Bool:=
 match o.guard with
 |some (j,_)=>match(ops[j]?).bind (·.dst)with
  |some t=>yL sk t
  |none=>af
 |none=>af
def KA(t:TypeId):Bool:=
 match P.underlying t with
 |some (.interface _)=>af
 |some _=>ab
 |none=>af
def ZY(d:Nat)(V:SS)(o:Oper)(rest:List Oper):Option (TypeId×PV SE):=
 match o.op,rest with
 |.makeInterface t x,[p]=>match p.op,o.dst,o.guard,p.guard with
  |.panic (.tmp a),aa b,ah,ah=>if ayI a b&&KA P t then aa (t,cg P d V t x)else ah
  |_,_,_,_=>ah
 |_,_=>ah
def gY(d f0:Nat)(sX:Bool)(ops:Array Oper):List Nat->List Oper->SS->(SS->ak)->ak
 |_,[],V,k=>k V
 |sk,o::rest,V,k=>
  if !(match o.dst with|some t=>azp t V.nt|none=>ab)then .fail 121 else
  match(if sX then ah else ZY P d V o rest)with
  |some (t,pv)=>kx t pv (V.lj d o.dst)
  |none=>
  let run (V:SS):ak:=match AJ P cfg d sX o V with
   |some (g,args)=>IH P cfg self kx d f0 o.dst g args V λV=>gY d f0 sX ops (vA sk o.dst) rest V k
   |none=>E_ P cfg self kx Cx d f0 sX o V λpv V=>gY d f0 sX ops (vA sk o.dst) rest (V.cy d o.dst pv) k
  let skip (V:SS):ak:=gY d f0 sX ops (IL sk o.dst) rest (V.lj d o.dst) k
  match(if oU sk ops o then .skip else vz ops d V o)with
  |.run=>run V
  |.skip=>skip V
  |.test t e want=>.test e ((if want then run else skip) (V.cy d (aa t) (.one (.v (.b ab))))) ((if want then skip else run) (V.cy d (aa t) (.one (.v (.b af)))))
  |.fail=>.fail 120
def Dg(d:Nat)(V:SS):lh:=⟨V.nt,(V.g.filterMap λ(d',t,_)=>if ayI d d' then aa t else ah).filter (λt=>match cN d t V.g with
 |some (.one (.pt _ _ _))=>ab
 |some (.one (.tp _))=>ab
 |_=>af),[],V.g.filterMap λ(d',t,_)=>if ayI d d' then(match cN d t V.g with
  |some (.one (.pt k _ _))=>aa (t,k)
  |_=>ah)else ah,[]⟩
def aoQ(d:Nat)(a:Code)(V:SS):Option Nat:=
 match a with
 |.seq (.region _ ops af) _=>match ops.toList with
  |[o]=>match o.op with
   |.binOp .lss _ (.tmp i) (.const (.int .i64 n)) _=>match cN d i V.g with
    |some (.one (.v (.i z)))=>if z==0&&decide (0<=n)&&decide (n<=4)then aa (n.toNat+1)else ah
    |_=>ah
   |_=>ah
  |_=>ah
 |_=>ah
def NL(jC:Bool)(d f:Nat)(a:Code)(k:yp->SS->ak):Nat->SS->ak
 |0,_=>.fail 180
 |n+1,V=>self jC d f a V λex W=>match ex with
  |.normal=>NL jC d f a k n W
  |ex=>k ex W
def BE(c j:Nat):Nat->List (LO SE)->Bool
 |_,[]=>ab
 |k,.lp c' st _::os=>(ayI k j||azD 2 st||azp c' c)&&BE c j (k+1) os
 |k,_::os=>BE c j (k+1) os
def akD(j c st:Nat)(W:SS)(k:yp->SS->ak):ak:=
 match st with
 |0=>k .normal {W with l:=W.l.set j (.lp c 3 [])}
 |1=>.fail 136
 |2=>k .ret {W with l:=W.l.set j (.lp c 2 [])}
 |3=>.fail 136
 |i+4=>k (.exit i) {W with l:=W.l.set j (.lp c (i+4) [])}
def aoR:Bool:=cfg.hints.any λh=>ayI h.d 999997
def Wq(ops:Array Oper)(f:Operand):Operand:=
 match f with
 |.tmp t=>match ops.toList.find? λo=>match o.dst with|some t'=>ayI t t'|none=>af with
  |some o=>match o.op with
   |.move x=>x
   |_=>f
  |none=>f
 |f=>f
def ais(d:Nat)(V:SS)(ops:Array Oper)(o:Oper):Bool:=
 match o.op with
 |.call c=>match c.callee with
  |.value f=>match cg P d V 0 (Wq ops f)with
   |.one (.yl _)=>ab
   |.one (.fn g bs)=>aoR cfg&& !(bs.isEmpty&&(wW cfg g||cfg.pure.any (ayI g)))
   |_=>af
  |_=>af
 |_=>af
def cutAt(d:Nat)(V:SS)(ops:Array Oper):Option Nat:=ops.toList.findIdx? (ais P cfg d V ops)
variable(jk:Cs->m8)
def nW:m8:=λjC d f c V k=>
 match c with
 |.skip|.label _=>k .normal V
 |.region _ ops draw=>
  if draw then match cutAt P cfg d V ops with
   |some j=>if Rh ops j&&(cR (ops.extract 0 j)).ok&&lI P (cR (ops.extract 0 j)) (ops.extract 0 j).toList.zipIdx (Dg d V)then
     gY P cfg (jk Cx) (λt pv V=>k (.cw t pv) V) Cx d f ab (ops.extract 0 j) [] (ops.extract 0 j).toList V λV=>gY P cfg (jk Cx) (λt pv V=>k (.cw t pv) V) Cx d f af ops [] (ops.toList.drop j) V λV=>k .normal V
    else .fail 130
   |none=>(if(cR ops).ok&&(Iz ops (cR ops)||lI P (cR ops) ops.toList.zipIdx (Dg d V))then gY P (if lI P (cR ops) ops.toList.zipIdx (Dg d V)then cfg else D_ cfg) (jk Cx) (λt pv V=>k (.cw t pv) V) Cx d f ab ops [] ops.toList V λV=>k .normal V else .fail 130)
  else gY P cfg (jk Cx) (λt pv V=>k (.cw t pv) V) Cx d f af ops [] ops.toList V λV=>k .normal V
 |.seq a b=>jk Cx jC d f a V λex V=>match ex with
  |.normal=>jk Cx jC d f b V k
  |ex=>k ex V
 |.cond c a b=>match cg P d V 0 c with
  |.one (.v (.b ab))=>jk Cx jC d f a V k
  |.one (.v (.b af))=>jk Cx jC d f b V k
  |.one (.v e)=>match c with
   |.tmp t=>if !azp t V.nt then .fail 131 else .test e (jk Cx jC d f a (V.cy d (aa t) (.one (.v (.b ab)))) k) (jk Cx jC d f b (V.cy d (aa t) (.one (.v (.b af)))) k)
   |_=>.fail 131
  |.one (.w _ e)=>match c with
   |.tmp t=>if !azp t V.nt then .fail 131 else .test e (jk Cx jC d f a (V.cy d (aa t) (.one (.v (.b ab)))) k) (jk Cx jC d f b (V.cy d (aa t) (.one (.v (.b af)))) k)
   |_=>.fail 131
  |_=>.fail 132
 |.block id a=>jk Cx jC d f a V λex V=>match ex with
  |.exit bz=>if ayI id bz then k .normal V else k (.exit bz) V
  |ex=>k ex V
 |.loop a=>match(if agx cfg then aoQ d a V else ah)with
  |some n=>NL (jk Cx) jC d f a k n V
  |none=>
  let id:=z7 a
  let h:=(cfg.hints.find? λh=>ayI h.d d&&ayI h.f f&&ayI h.id id).getD ⟨d,f,id,[],[],[],[]⟩
  let V0:=wT h (settle h.wO V)
  let Vg:=gcS {V0 with g:=V0.g.filter λp=> !oR h.drop p.1 p.2.1}
  let(g,n,init):=NJ h Vg.g Vg.n []
  let(l,n,_):=aex h 0 Vg.l n init
  let H:SS:=⟨g,l,V0.n+(n- V0.n),V.lv+1,V.nt⟩
  match inst V0.n (n- V0.n) H V0 with
  |some (args,_)=>ak.loop (fa args) (jk Cx jC d f a H λex W=>match ex with
   |.normal=>match inst V0.n (n- V0.n) H (ID h.wO H W)with
    |some (args,_)=>.next V.lv (fa args)
    |none=>.bad d f id V0.n n H.g H.l W.g W.l
   |ex=>k ex W)
  |none=>.bad d f id V0.n n H.g H.l V0.g V0.l
 |.scope a=>jk Cx jC d f a V k
 |.exit id=>k (.exit id) V
 |.ret=>k .ret V
 |.rangeFunc g params assign body=>if jC then .fail 134 else match cg P d V 0 g with
  |.one (.fn F bs)=>
   oT P cfg (jk (Cx++[⟨params.toList,assign,body,V.nt⟩])) (λ_ _ _=>.fail 135) (d+1) (f*1000+800+z7 body % 190) ah F (.one (.yl V.l.length)::bs.map λ(k,ext)=>.one (.pt k 0 ext))
    {V with g:=(d+1,0,.one (.yl V.l.length))::eV (d+1) V.g,l:=V.l++[.lp Cx.length 0 (p5 d V)],nt:=1} λ_ W=>match cN (d+1) 0 W.g,W.l[V.l.length]? with
     |some (.one (.yl j)),aa (.lp c' st _)=>if ayI j V.l.length&&ayI c' Cx.length&&BE Cx.length V.l.length 0 W.l then akD V.l.length Cx.length st {W with g:=eV (d+1) W.g,nt:=V.nt} k else .fail 137
     |_,_=>.fail 137
  |_=>.fail 138
 |_=>.fail 133
end step
def exec(n:Nat):Cs->m8:=aBO (λ_ _ _ _ _ _ _=>.fail 140) (λ_ s Cx=>nW P cfg Cx s) n
def eI:Nat->List TypeId->List (PV SE)
 |_,[]=>[]
 |j,t::ts=>ofType P t (.var j)::eI (j+1) ts
def sY:Nat->List TypeId->ak->ak
 |_,[],k=>k
 |j,t::ts,k=>tj P t (.var j) (sY (j+1) ts k)
def aE(n:Nat)(new:Bool)(f:FuncId):ak:=
 match P.funcs[f]? with
 |some fn=>match fn.body with
  |some c=>
   if azD fn.params.size fn.ntmps then
    sY P 0 fn.params.toList<|exec P cfg n [] af 0 f c ⟨setArgs 0 0 (eI P 0 fn.params.toList),[],fn.params.size,0,fn.ntmps⟩ λex V=>match ex with
     |.exit _=>.fail 141
     |.cw _ _=>.fail 146
     |_=>match oS P 0 V fn.results.toList with
      |some c8=>match vy V (Hv c8)with
       |some (fr,z,_)=>.ret (if new&&fr then .rw z else z)
       |none=>.fail 142
      |none=>.fail 110
   else .fail 143
  |none=>.fail 144
 |none=>.fail 145
end run
end
section
variable(P:Program)
def yr(z:IV):Option IV:=if ao z then aa z else ah
def aF:IV->Bool
 |.raw _=>ab
 |_=>af
def ie:IV->Option Int
 |.raw (.int _ n)=>aa n
 |_=>ah
def cO(op:BinOp)(t:TypeId)(a b:IV):Option IV:=
 match nc a,nc b with
 |some .nilIface,_=>ah
 |some _,aa _=>tU P op t (.func 0) (.func 0) a b
 |_,_=>ah
def Rp(op:UnOp):IV->Option IV
 |.raw v=>(aP P (Op.unary op v)).map lift
 |_=>ah
def Fb(src dst:TypeId):IV->Option IV
 |.raw (.string s)=>match P.underlying src,P.underlying dst with
  |some _,aa .string=>aa (.raw (.string s))
  |_,_=>ah
 |.raw v=>(aP P (convert src dst v)).map lift
 |_=>ah
def cz(s:Nat):IV->IV->Option IV
 |.tree s' es,i=>match ie i with
  |some n=>if s'=s/\0<=n then match es[n.toNat]? with
   |some x=>if(cellsOf x).length=s then aa x else ah
   |none=>ah
   else ah
  |none=>ah
 |_,_=>ah
def iz(s:Nat)(es:List IV):Bool:=es.all λe=>(cellsOf e).length==s&&(cellsOf e).all ao
def dz(s bytes:Nat):IV->IV->Option IV
 |.tree s1 es,.tree s2 fs=>if s1=s/\s2=s/\0<s/\iz s fs=ab/\(4*(es.length+fs.length)+4096)*bytes<=2 ^47/\es.length+fs.length<=2 ^40 then aa (.tree s (es++fs))else ah
 |_,_=>ah
def AK(s:Nat):IV->IV->IV->Option IV
 |.tree s1 es,i,x=>match ie i with
  |some n=>if s1=s/\0<=n/\n.toNat<es.length/\(cellsOf x).length=s then aa (.tree s (es.set n.toNat x))else ah
  |none=>ah
 |_,_,_=>ah
def p6(s:Nat):IV->IV->IV->Option IV
 |.tree s1 es,lo,hi=>match ie lo,ie hi with
  |some l,aa h=>if s1=s/\0<=l/\l.toNat<=h.toNat/\0<=h/\h.toNat<=es.length then aa (.tree s ((es.take h.toNat).drop l.toNat))else ah
  |_,_=>ah
 |_,_,_=>ah
def Hy:IV->Option IV
 |.tree _ es=>aa (.int es.length)
 |_=>ah
def z8:IV->Option IV
 |.raw (.string b)=>aa (.int b.size)
 |_=>ah
def wX:List IV->Option (List Value)
 |[]=>aa []
 |c::cs=>match c with
  |.raw (.int q n)=>(wX cs).map (Value.int q n::·)
  |.raw (.string q)=>(wX cs).map (Value.string q::·)
  |_=>ah
def keyOf:IV->Option Value
 |.raw (.int q n)=>aa (.int q n)
 |.raw (.string q)=>aa (.string q)
 |.agg cs=>(wX cs).map λvs=>.agg vs.toArray
 |_=>ah
def qQ:List IV->Option (List Value)
 |[]=>aa []
 |d::ds=>match d with
  |.aL [k,_]=>match keyOf k,qQ ds with
   |some v,aa vs=>aa (v::vs)
   |_,_=>ah
  |_=>ah
def nowAt(kd:TypeDesc)(k:Value):List Value->Nat->Option (Option Nat)
 |[],_=>aa ah
 |e::es,n=>match Instr.sameNow kd k e with
  |some ab=>aa (aa n)
  |some af=>nowAt kd k es (n+1)
  |none=>ah
def Ea(kt:TypeId):Option TypeDesc:=
 match P.underlying kt with
 |some (.int q)=>aa (.int q)
 |some .string=>aa .string
 |_=>ah
def LW(kt:TypeId)(ks:List Value)(k:Value):Option (Option Nat):=
 match kA P ab kt k (ks.map λe=>(e,.undef,0)),kA P af kt k (ks.map λe=>(e,.undef,0))with
 |some q,aa q'=>if q=q' then(match q with
  |none=>aa ah
  |some j=>match ks[j]? with
   |some e=>if Instr.sameBits 10000 e k then aa (aa j)else ah
   |none=>ah)else ah
 |_,_=>ah
def jl(kt:TypeId)(ds:List IV)(key:IV):Option (Option Nat):=
 match Ea P kt,qQ ds,keyOf key with
 |some kd,aa ks,aa k=>nowAt kd k ks 0
 |none,aa ks,aa k=>LW P kt ks k
 |_,_,_=>ah
def iO(w:Nat):IV->IV->Option IV
 |.raw (.string s),.raw (.int .i64 p)=>if 0<=p then(match w with
  |0=>aa (.raw (.bool (decide (p.toNat<s.size))))
  |1=>aa (.raw (.int .i32 (az_ s p.toNat).1))
  |2=>aa (.raw (.int .i64 ((p.toNat+(az_ s p.toNat).2:Nat))))
  |_=>ah)else ah
 |.raw (.int q c),p=>if w=7/\0<=c/\c<=1000000 then aa (.raw (.int q c))
  else if w=8/\1<=c/\c<=1000000/\(q==IntKind.i64)=ab/\(cellsOf p).length=1 then aa (.tree 1 (ayX c.toNat p))
  else if w=10/\0<=c/\c<=1000000/\(cellsOf p).length=1 then aa (.tree 1 (ayX c.toNat p))else ah
 |.aL ds,_=>if w=9 then aa (.int ds.length)else ah
 |.raw (.slice ah 0 0),_=>if w=11 then aa (.raw (.bool ab))else ah
 |_,_=>ah
def SE.den(G:List IV):SE->Option IV
 |.var x=>G[x]?
 |.i n=>aa (.raw (.int .i64 n))
 |.k q n=>aa (.raw (.int q n))
 |.b t=>aa (.raw (.bool t))
 |.s l=>aa (.raw (.string ⟨l.toArray⟩))
 |.raw v=>aa (.raw v)
 |.ok e=>(e.den G).bind yr
 |.uM n e=>(e.den G).bind λ|.agg cs=>if cs.length=n/\cs.all ao then aa (.agg cs)else ah|_=>ah
 |.bC e j=>(e.den G).bind λ|.agg cs=>(cs[j]?).bind yr|_=>ah
 |.idx q e x=>(e.den G).bind λa1=>(x.den G).bind λb1=>cz q a1 b1
 |.JD q e x j=>(e.den G).bind λa1=>(x.den G).bind λb1=>(cz q a1 b1).bind λy=>((cellsOf y)[j]?).bind yr
 |.len e=>(e.den G).bind Hy
 |.ud e=>(e.den G).bind z8
 |.an=>aa (.agg [])
 |.ac a r=>(a.den G).bind λx=>(r.den G).bind λ|.agg cs=>aa (.agg (x::cs))|_=>ah
 |.tr q r=>(r.den G).bind λ|.agg cs=>if 0<q/\cs.all (λe=>(cellsOf e).length==q)then aa (.tree q cs)else ah|_=>ah
 |.tp r=>(r.den G).bind λ|.agg cs=>aa (.aL cs)|_=>ah
 |.cat q bytes e f=>(e.den G).bind λa1=>(f.den G).bind λb1=>dz q bytes a1 b1
 |.E8 q e x y=>(e.den G).bind λa1=>(x.den G).bind λb1=>(y.den G).bind λc1=>AK q a1 b1 c1
 |.sub q e lo hi=>(e.den G).bind λa1=>(lo.den G).bind λb1=>(hi.den G).bind λc1=>p6 q a1 b1 c1
 |.proj e j=>(e.den G).bind λ|.aL cs=>cs[j]? |_=>ah
 |.bin op t a2 b2=>(a2.den G).bind λx1=>(b2.den G).bind λy1=>cO P op t x1 y1
 |.un op a=>(a.den G).bind (Rp P op)
 |.cv q d a=>(a.den G).bind (Fb P q d)
 |.mx big a2 b2=>(a2.den G).bind λx1=>(b2.den G).bind λy1=>if big then Na P [x1,y1]else ah
 |.JE e x=>(e.den G).bind λa1=>(x.den G).bind λb1=>match a1,b1 with
  |.raw (.string q),.raw (.int _ n)=>if 0<=n then(q.data.toList[n.toNat]?).map λc=>.raw (.int .u8 c.toNat)else ah
  |_,_=>ah
 |.Ks e lo hi=>(e.den G).bind λa1=>(lo.den G).bind λb1=>(hi.den G).bind λc1=>match a1,ie b1,ie c1 with
  |.raw (.string q),aa l,aa h=>if 0<=l/\l.toNat<=h.toNat/\0<=h/\h.toNat<=q.size then aa (.raw (.string ⟨((q.data.toList.drop l.toNat).take (h.toNat- l.toNat)).toArray⟩))else ah
  |_,_,_=>ah
 |.dec w a p=>(a.den G).bind λa1=>(p.den G).bind λb1=>iO w a1 b1
 |.rw e=>(e.den G).bind λz=>if aF z then aa z else ah
 |.rws e=>(e.den G).bind λ|.tree q es=>if es.all (λe=>(cellsOf e).all aF)then aa (.tree q es)else ah|_=>ah
 |.has kt m key=>(m.den G).bind λa1=>(key.den G).bind λk1=>match a1 with
  |.aL ds=>(jl P kt ds k1).map λr=>.bool r.isSome
  |_=>ah
 |.get kt m key z=>(m.den G).bind λa1=>(key.den G).bind λk1=>(z.den G).bind λd1=>match a1 with
  |.aL ds=>match jl P kt ds k1 with
   |some (aa j)=>match ds[j]? with
    |some (.aL [_,y1])=>aa y1
    |_=>ah
   |some ah=>aa d1
   |none=>ah
  |_=>ah
 |.ins kt m key x=>(m.den G).bind λa1=>(key.den G).bind λk1=>(x.den G).bind λy1=>match a1 with
  |.aL ds=>match jl P kt ds k1 with
   |some (aa j)=>aa (.aL (ds.set j (.aL [k1,y1])))
   |some ah=>aa (.aL (ds++[.aL [k1,y1]]))
   |none=>ah
  |_=>ah
theorem SE.dN{G I:List IV}:∀(e:SE) {z:IV},e.den P G=aa z->e.den P (G++I)=aa z:=by
 have hb:∀{o o':Option IV} {f:IV->Option IV} {z:IV},(∀y,o=aa y->o'=aa y)->o.bind f=aa z->o'.bind f=aa z:=by
  intro o o' f z h hz;cases o with
  |none=>cases hz
  |some y=>rw[h y rfl];exact hz
 intro e;induction e with
 |var x=>intro z h;simp only[SE.den]at h⊢;rw[ayK (ayw.1 h).1];exact h
 |i n=>intro z h;exact h
 |k q n=>intro z h;exact h
 |b t=>intro z h;exact h
 |s l=>intro z h;exact h
 |raw v=>intro z h;exact h
 |an=>intro z h;exact h
 |ok e ih=>intro z h;exact hb (λy=>ih) h
 |uM n e ih=>intro z h;exact hb (λy=>ih) h
 |bC e j ih=>intro z h;exact hb (λy=>ih) h
 |ud e ih=>intro z h;exact hb (λy=>ih) h
 |len e ih=>intro z h;exact hb (λy=>ih) h
 |tr q r ih=>intro z h;exact hb (λy=>ih) h
 |tp r ih=>intro z h;exact hb (λy=>ih) h
 |proj e j ih=>intro z h;exact hb (λy=>ih) h
 |un op a ih=>intro z h;exact hb (λy=>ih) h
 |cv q d a ih=>intro z h;exact hb (λy=>ih) h
 |rw e ih=>intro z h;exact hb (λy=>ih) h
 |rws e ih=>intro z h;exact hb (λy=>ih) h
 |idx q e x gG fS|JD q e x j gG fS|ac a r gG fS|cat q by' e f gG fS|bin op t a b gG fS|mx big a b gG fS|JE e x gG fS|has kt m key gG fS|dec w a p gG fS=>
  intro z h;simp only[SE.den,ayV]at h⊢;obtain⟨a,h1,b,h2,h3⟩:=h;exact⟨a,gG h1,b,fS h2,h3⟩
 |E8 q e x y gG fS Hz|sub q e lo hi gG fS Hz|Ks e lo hi gG fS Hz|ins kt m key x gG fS Hz|get kt m key z' gG fS Hz=>
  intro z h;simp only[SE.den,ayV]at h⊢;obtain⟨a,h1,b,h2,c,h3,h4⟩:=h;exact⟨a,gG h1,b,fS h2,c,Hz h3,h4⟩
abbrev Cr:=FuncId->Bool->List IV->IV->Prop
def lQ(G:List IV)(e:SE):Option (List IV):=
 match e.den P G with
 |some (.agg cs)=>aa cs
 |_=>ah
def ak.sat(C:Cr)(Q:IV->Prop):ak->List (List IV->Prop)->List IV->Prop
 |.fail _,_,_=>False
 |.ret e,_,G=>∃z,e.den P G=aa z/\Q z
 |.test e a b,K,G=>(e.den P G=aa (.bool ab)/\a.sat C Q K G)\/(e.den P G=aa (.bool af)/\b.sat C Q K G)
 |.bind e k,K,G=>∃z,e.den P G=aa z/\k.sat C Q K (G++[z])
 |.aV e k,K,G=>(∃z,e.den P G=aa z)/\k.sat C Q K G
 |.call f new args k,K,G=>∃xs z,lQ P G args=aa xs/\C f new xs z/\k.sat C Q K (G++[z])
 |.loop init body,K,G=>∃vs,lQ P G init=aa vs/\∃m:Nat,(aBO (motive:=λ_=>List IV->Prop) (λ_=>False) (λ_ ih vs=>body.sat C Q (K++[ih]) (G++vs)) m) vs
 |.BC body m cont,K,G=>body.sat C Q (K++[λvs=>vs.length=m/\cont.sat C Q K (G++vs)]) G
 |.next lv args,K,G=>∃vs p,lQ P G args=aa vs/\K[lv]?=aa p/\p vs
 |.bad ..,_,_=>False
abbrev HA(K K':List (List IV->Prop)):Prop:=All2 (λp q=>∀vs,p vs->q vs) K K'
theorem HA.snoc{K K':List (List IV->Prop)}(h:HA K K'){p q:List IV->Prop}(hp:∀vs,p vs->q vs):HA (K++[p]) (K'++[q]):=h.app ⟨hp,trivial⟩
theorem HA.refl:∀(K:List (List IV->Prop)),HA K K
 |[]=>trivial
 |_::K=>⟨λ_ h=>h,HA.refl K⟩
theorem ak.nu{C:Cr}:∀(f:ak) {Q Q':IV->Prop} {K K':List (List IV->Prop)} {G:List IV},(∀z,Q z->Q' z)->HA K K'->f.sat P C Q K G->f.sat P C Q' K' G
 |.fail _,_,_,_,_,_,_,_,h=>h
 |.bad ..,_,_,_,_,_,_,_,h=>h
 |.ret _,_,_,_,_,_,hq,_,⟨z,h1,h2⟩=>⟨z,h1,hq z h2⟩
 |.test _ a b,_,_,_,_,_,hq,hk,h=>h.imp (λh=>⟨h.1,nu a hq hk h.2⟩) (λh=>⟨h.1,nu b hq hk h.2⟩)
 |.bind _ k,_,_,_,_,_,hq,hk,⟨z,h1,h2⟩=>⟨z,h1,nu k hq hk h2⟩
 |.aV _ k,_,_,_,_,_,hq,hk,⟨h1,h2⟩=>⟨h1,nu k hq hk h2⟩
 |.call _ _ _ k,_,_,_,_,_,hq,hk,⟨xs,z,h1,h2,h3⟩=>⟨xs,z,h1,h2,nu k hq hk h3⟩
 |.next lv _,_,_,_,_,_,_,hk,⟨vs,p,h1,h2,h3⟩=>by
  have GN:=ayv (by rw[<-hk.len];exact(ayw.1 h2).1);exact⟨vs,_,h1,GN,hk.get h2 GN vs h3⟩
 |.BC a m b,_,_,_,_,_,hq,hk,h=>nu a hq (hk.snoc λ_ hv=>⟨hv.1,nu b hq hk hv.2⟩) h
 |.loop _ b,Q,Q',K,K',G,hq,hk,⟨vs,h1,m,hm⟩=>by
  have key:∀(m:Nat) (vs:List IV),(aBO (motive:=λ_=>List IV->Prop) (λ_=>False) (λ_ ih vs=>b.sat P C Q (K++[ih]) (G++vs)) m) vs->(aBO (motive:=λ_=>List IV->Prop) (λ_=>False) (λ_ ih vs=>b.sat P C Q' (K'++[ih]) (G++vs)) m) vs:=by
   intro m;induction m with
   |zero=>intro vs h;exact h
   |succ m ih=>intro vs h;exact nu b hq (hk.snoc ih) h
  exact⟨vs,h1,m,key m vs hm⟩
end
end Go.Ev
