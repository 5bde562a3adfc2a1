/- Lemmas over the model, without conditions of their own: what is known of frames and of the store. -/
import Derived.Test.YtggffkaadeagbaaGreatEvH
open List renaming getElem?_eq_some_iff->ar5,mem_of_getElem?->ash,getElem?_eq_getElem->ar4,getElem?_append_left->asf,getElem?_append_right->asw,getElem?_map->asi,getElem?_set_ne->avc,range'->auv,drop_drop->ate,length_cons->asS,range'_succ->au6,mk_mem_zipIdx_iff_getElem?->atd,mem_iff_getElem?->ava,mem_eraseIdx_iff_getElem?->avA,mem_append->asE,mem_singleton->atM,range->atI,any_eq_true->avJ,mem_filter->asK,mem_cons_of_mem->atE,mem_cons->asZ,all_eq_true->asl,mem_range->auP,foldl_cons->asI,mem_cons_self->aup,getElem_of_mem->auK,getElem_zipIdx->avi
open Nat renaming le_trans->asr,le_refl->ar9,beq->ase,beq_eq->asL,blt->as_,testBit->ast,eq_of_beq_eq_true->asd
open Bool renaming and_eq_true->ar6,or_eq_true->asP,not_eq_true'->asN
open Option renaming map_eq_some_iff->ar_
open Go.Fence renaming wide->asz
open Go.Oper renaming semAt_eq->atq,uponIn_value->avr,uponIn_enter->auZ
open Array renaming replicate->atr,mem_filter->avw,getElem?_eq_getElem->asy,getElem?_toList->at1
open Classical renaming byContradiction->asM
open Go.Sem renaming run->atX,run_bind->asa,run_map->axI
open Go.Question renaming forced->at4
open Go.Instr renaming next->aul
open Go.Result renaming andThen_ok->ar8
open Option.some renaming injEq->ar7
open List.cons renaming injEq->as5
set_option linter.all false
namespace Go.Ev
variable{P:Program}{σ ah:St}
abbrev Rs:=Nat→Option Nat
inductive aV(fr:Bool)(R:Rs)(σ:St):IV→IV→Prop
 |raw (v:Value):aV fr R σ (.raw v) (.raw v)
 |nil (s:Nat) (hs:0<s):aV fr R σ (.raw (.slice none 0 0)) (.tree s [])
 |emp (s:Nat) (hs:0<s):aV fr R σ .emp (.tree s [])
 |cY (t:TypeId) (x y:IV) (h:aV fr R σ x y):aV fr R σ (.cY t x) (.cY t y)
 |agg (cs ds:List IV) (hl:cs.length=ds.length) (h:∀(i:Nat) c d,cs[i]?=some c→ds[i]?=some d→aV fr R σ c d):aV fr R σ (.agg cs) (.agg ds)
 |av (cs ds:List IV) (hl:cs.length=ds.length) (h:∀(i:Nat) c d,cs[i]?=some c→ds[i]?=some d→aV fr R σ c d):aV fr R σ (.av cs) (.av ds)
 |pure (x:IV) (hf:fr=true) (hp:Pure x):aV fr R σ x x
 |sl (id off len:Nat) (cap:Option Nat) (ep s m:Nat) (cs:List IV) (ar mn:Nat) (es:List IV) (hR:R id=some m) (az:σ.at id=some (.cells cs ar mn)) (h1:mn≤ep) (h2:ep≤ar) (hs:0<s) (hl:es.length=len)
   (hb:off+len*s≤m) (hm:m≤cs.length)
   (bD:∀e∈es,(cellsOf e).length=s) (h:∀(i:Nat) e (j:Nat) c d,es[i]?=some e→(cellsOf e)[j]?=some d→cs[off+i*s+j]?=some c→aV fr R σ c d):aV fr R σ (.sl id off len cap ep s) (.tree s es)
theorem aV.can{fr:Bool}{R:Rs}{x z:IV}(h:aV fr R σ x z):Can fr σ x z:=by
 induction h with
 |raw v=>exact .raw v
 |nil s hs=>exact .nil s hs
 |emp s hs=>exact .emp s hs
 |cY t x y _ ih=>exact .cY t x y ih
 |agg cs ds hl _ ih=>exact .agg cs ds hl ih
 |av cs ds hl _ ih=>exact .av cs ds hl ih
 |pure x hf hp=>exact .pure x hf hp
 |sl id off len cap ep s m cs ar mn es hR az h1 h2 hs hl hb hm bD _ ih=>exact .sl id off len cap ep s cs ar mn es az h1 h2 hl (by omega) bD ih
theorem aV.cu{fr:Bool}{R:Rs}{x z:IV}(h:aV fr R σ x z):aV true R σ x z:=by
 induction h with
 |raw v=>exact .raw v
 |nil s hs=>exact .nil s hs
 |emp s hs=>exact .emp s hs
 |cY t x y _ ih=>exact .cY t x y ih
 |agg cs ds hl _ ih=>exact .agg cs ds hl ih
 |av cs ds hl _ ih=>exact .av cs ds hl ih
 |pure x hf hp=>exact .pure x rfl hp
 |sl id off len cap ep s m cs ar mn es hR az h1 h2 hs hl hb hm bD _ ih=>exact .sl id off len cap ep s m cs ar mn es hR az h1 h2 hs hl hb hm bD ih
theorem aV.wide{fr cL:Bool}{R:Rs}{x z:IV}(h:aV fr R σ x z)(hle:fr=true→cL=true):aV cL R σ x z:=by
 cases cL
 ·cases fr
  ·exact h
  ·exact absurd (hle rfl) (by simp)
 ·exact h.cu
structure ic(R:Rs)(σ:St)(R':Rs)(ah:St):Prop where
 le:∀id m,R id=some m→∃m',R' id=some m'∧m≤m'
 keep:∀id m cs ar mn,R id=some m→σ.at id=some (.cells cs ar mn)→∃cm g_,ah.at id=some (.cells cm g_ mn)∧ar≤g_∧∀j,j<m→cm[j]?=cs[j]?
 fits:∀id m cs ar mn,R' id=some m→ah.at id=some (.cells cs ar mn)→m≤cs.length
theorem ae9{es:List IV}{i s len:Nat}{e d:IV}{j:Nat}(he:es[i]?=some e)(hd:(cellsOf e)[j]?=some d)(bD:∀e∈es,(cellsOf e).length=s)(hl:es.length=len):i*s+j<len*s:=by
 have hi:=(ar5.1 he).1;have hj:j<s:=by have:=(ar5.1 hd).1;rw[bD e (ash he)]at this;exact this
 have:(i+1)*s≤es.length*s:=Nat.mul_le_mul_right s hi;rw[Nat.add_mul,hl]at this;omega
theorem aV.mono{fr:Bool}{R R':Rs}(hg:ic R σ R' ah){x z:IV}(h:aV fr R σ x z):aV fr R' ah x z:=by
 induction h with
 |raw v=>exact .raw v
 |nil s hs=>exact .nil s hs
 |emp s hs=>exact .emp s hs
 |cY t x y _ ih=>exact .cY t x y ih
 |agg cs ds hl _ ih=>exact .agg cs ds hl ih
 |av cs ds hl _ ih=>exact .av cs ds hl ih
 |pure x hf hp=>exact .pure x hf hp
 |sl id off len cap ep s m cs ar mn es hRi az h1 h2 hs hl hb hm bD _ ih=>
  obtain⟨cm,g_,NG,hle,HG⟩:=hg.keep id m cs ar mn hRi az;obtain⟨m',WW,hmm⟩:=hg.le id m hRi;refine .sl id off len cap ep s m' cm g_ mn es WW NG h1 (asr h2 hle) hs hl (asr hb hmm) (hg.fits id m' cm g_ mn WW NG) bD fun i e j c d he hd hc=>?_;have:=ae9 he hd bD hl;rw[HG _ (by omega)]at hc;exact ih i e j c d he hd hc
theorem ic.refl{R:Rs}(hf:∀id m cs ar mn,R id=some m→σ.at id=some (.cells cs ar mn)→m≤cs.length):ic R σ R σ:=
 ⟨fun _ m h=>⟨m,h,ar9 _⟩,fun _ _ cs ar _ _ h=>⟨cs,ar,h,ar9 _,fun _ _=>rfl⟩,hf⟩
def All2{α β:Type}(r:α→β→Prop):List α→List β→Prop
 |[],[]=>True
 |a::as,b::bs=>r a b∧All2 r as bs
 |_,_=>False
namespace All2
variable{α β:Type}{r r':α→β→Prop}
theorem len:∀{as:List α} {bs:List β},All2 r as bs→as.length=bs.length
 |[],[],_=>rfl
 |_::_,_::_,h=>by simp[len h.2]
 |[],_::_,h=>h.elim
 |_::_,[],h=>h.elim
theorem get:∀{as:List α} {bs:List β},All2 r as bs→∀{i:Nat} {a:α} {b:β},as[i]?=some a→bs[i]?=some b→r a b
 |[],[],_,i,a,b,h1,_=>by simp at h1
 |_::as,_::bs,h,i,a,b,h1,h2=>by
  cases i with
  |zero=>simp at h1 h2;subst h1 h2;exact h.1
  |succ i=>simp at h1 h2;exact get h.2 h1 h2
 |[],_::_,h,_,_,_,_,_=>h.elim
 |_::_,[],h,_,_,_,_,_=>h.elim
theorem zO{as:List α}{bs:List β}(h:All2 r as bs){i:Nat}{b:β}(hb:bs[i]?=some b):∃a,as[i]?=some a∧r a b:=by
 have hi:i<as.length:=by have:=(ar5.1 hb).1;rw[h.len];exact this
 exact⟨_,ar4 hi,h.get (ar4 hi) hb⟩
theorem mk:∀{as:List α} {bs:List β},as.length=bs.length→(∀(i:Nat) a b,as[i]?=some a→bs[i]?=some b→r a b)→All2 r as bs
 |[],[],_,_=>trivial
 |a::as,b::bs,hl,h=>⟨h 0 a b rfl rfl,mk (by simpa using hl) fun i a b h1 h2=>h (i+1) a b (by simpa using h1) (by simpa using h2)⟩
 |[],_::_,hl,_=>by simp at hl
 |_::_,[],hl,_=>by simp at hl
theorem mono(hr:∀a b,r a b→r' a b):∀{as:List α} {bs:List β},All2 r as bs→All2 r' as bs
 |[],[],_=>trivial
 |_::_,_::_,h=>⟨hr _ _ h.1,mono hr h.2⟩
 |[],_::_,h=>h.elim
 |_::_,[],h=>h.elim
theorem xf:∀{as:List α} {bs:List β},(∀a b,b∈bs→r a b→r' a b)→All2 r as bs→All2 r' as bs
 |[],[],_,_=>trivial
 |_::_,_::_,hr,h=>⟨hr _ _ (by simp) h.1,xf (fun a b hb=>hr a b (by simp[hb])) h.2⟩
 |[],_::_,_,h=>h.elim
 |_::_,[],_,h=>h.elim
theorem app{as as':List α}{bs bs':List β}(h:All2 r as bs)(k:All2 r as' bs'):All2 r (as++as') (bs++bs'):=by
 refine mk (by simp[h.len,k.len]) fun i a b h1 h2=>?_;by_cases hi:i<as.length
 ·rw[asf hi]at h1;rw[asf (h.len▸hi)]at h2;exact h.get h1 h2
 ·rw[asw (by omega)]at h1;rw[asw (by have:=h.len;omega),←h.len]at h2;exact k.get h1 h2
theorem take(n:Nat){as:List α}{bs:List β}(h:All2 r as bs):All2 r (as.take n) (bs.take n):=by
 refine mk (by simp[h.len]) fun i a b h1 h2=>?_;rw[List.getElem?_take]at h1 h2;split at h1
 ·rename_i hi;rw[if_pos hi]at h2;exact h.get h1 h2
 ·cases h1
theorem drop(n:Nat){as:List α}{bs:List β}(h:All2 r as bs):All2 r (as.drop n) (bs.drop n):=
 mk (by simp[h.len]) fun i a b h1 h2=>h.get (i:=n+i) (by simpa using h1) (by simpa using h2)
theorem map{γ:Type}{f:β→γ}{q:α→γ→Prop}(hf:∀a b,r a b→q a (f b)):∀{as:List α} {bs:List β},All2 r as bs→All2 q as (bs.map f)
 |[],[],_=>trivial
 |_::_,_::_,h=>⟨hf _ _ h.1,map hf h.2⟩
 |[],_::_,h=>h.elim
 |_::_,[],h=>h.elim
end All2
inductive Cl(α:Type) where
 |un
 |v (z:α)
 |w (fr:Bool) (z:α)
 |pt (k off ext:Nat)
 |tp (cs:List α)
 |tw (fr:Bool) (cs:List α)
 |sr (k:Nat)
 |sv (k:Nat) (lo:α)
 |pr (k:Nat) (i:α) (off ext:Nat)
 |mp (k:Nat)
 |nl (b:Bool) (s:Nat)
 |fn (f:FuncId) (bs:List (Nat×Nat))
 deriving Inhabited
inductive PV(α:Type) where
 |one (x:Cl α)
 |ag (cs:List (Cl α))
 |tu (vs:List (Bool×List (Cl α)))
 deriving Inhabited
inductive LO(α:Type) where
 |var (cs:List (Cl α))
 |row (s:Nat) (st cut fr:Bool) (es:α)
 |mp (kt:TypeId) (es:α)
 |dead
abbrev Ph:=Nat→Option Nat
def Jn(φ:Ph)(σ:St)(k s:Nat)(cut:Bool)(lo len:Nat)(x:IV):Prop:=
 (φ k=none∧len=0∧(x=.raw (.slice none 0 0)∨x=.emp))∨
 ∃id cs ar mn cap,φ k=some id∧σ.at id=some (.cells cs ar mn)∧x=.sl id (lo*s) (len- lo) cap ar s∧lo≤len∧(cap=none→cut=false→len*s=cs.length)∧
  ∀c,cap=some c→mn=ar∧lo*s+c*s≤cs.length∧len- lo≤c
abbrev hZ:IV→IV→Prop:=aV true (fun _=>none) ⟨0,.lf⟩
def nat?:IV→Option Nat
 |.raw (.int _ n)=>if 0≤n then some n.toNat else none
 |_=>none
def gk(kt:Nat):Bool:=ase kt 0||Nat.ble 1000000 kt
def Left(ds:List IV)(seen:List Nat)(rem:List IV):Prop:=
 ∃ps:List (IV×Nat),rem=ps.map (·.1)∧(ps.map (·.2)).Nodup∧(∀p∈ps,ds[p.2]?=some p.1∧p.2∉seen)∧∀i,i<ds.length→i∉seen→∃p∈ps,p.2=i
section ev
variable{α:Type}(ev:α→Option IV)
def cw(R:Rs)(φ:Ph)(L:List (LO α))(σ:St)(x:IV):Cl α→Prop
 |.un=>True
 |.v z=>∃y,ev z=some y∧hZ x y∧ab y=true
 |.w fr z=>∃y,ev z=some y∧aV fr R σ x y∧ab y=true
 |.pt k off ext=>∃id cs,φ k=some id∧L[k]?=some (.var cs)∧x=.ptr id off 0 ext
 |.tp cs=>∃ds,x=.kO ds∧All2 (fun d c=>∃y,ev c=some y∧hZ d y∧ab y=true) ds cs
 |.tw fr cs=>(∀c∈cs,∃y,ev c=some y∧ab y=true)∧((fr=true∧∃ds,x=.kO ds∧All2 (fun d c=>∃y,ev c=some y∧hZ d y) ds cs)∨
   ∃id off ep m cx ar mn,R id=some m∧σ.at id=some (.cells cx ar mn)∧mn≤ep∧ep≤ar∧x=.ptr id off ep cs.length∧off+cs.length≤m∧m≤cx.length∧
    ∀(j:Nat) c d,cs[j]?=some d→cx[off+j]?=some c→∃y,ev d=some y∧aV fr R σ c y)
 |.sr k=>∃s st cut fr z es,L[k]?=some (.row s st cut fr z)∧ev z=some (.tree s es)∧Jn φ σ k s cut 0 es.length x
 |.sv k lo=>∃s st cut fr z es y n,L[k]?=some (.row s st cut fr z)∧ev z=some (.tree s es)∧ev lo=some y∧nat? y=some n∧n≤es.length∧(Jn φ σ k s cut n es.length x∨(n=es.length∧x=.emp))
 |.pr k i off ext=>∃s st cut fr z es y n id cs ar mn,L[k]?=some (.row s st cut fr z)∧ev z=some (.tree s es)∧ev i=some y∧nat? y=some n∧n<es.length∧off+ext≤s∧φ k=some id∧σ.at id=some (.cells cs ar mn)∧x=.ptr id (n*s+off) ar ext
 |.mp k=>∃id kt es,φ k=some id∧L[k]?=some (.mp kt es)∧x=if gk kt=true then .ptr id 0 0 1 else .map id
 |.nl b s=>0<s∧x=if b then .raw (.slice none 0 0)else .emp
 |.fn f bs=>(bs=[]∧x=.raw (.func (.func f) #[] #[]))∨∃ys,x=.fn (.func f) [] ys∧All2 (fun y (p:Nat×Nat)=>∃id cs,φ p.1=some id∧L[p.1]?=some (.var cs)∧y=.ptr id 0 0 p.2) ys bs
def sK(R:Rs)(φ:Ph)(L:List (LO α))(σ:St)(x:IV)(p:Bool×List (Cl α)):Prop:=
 if p.1 then∃xs,x=.agg xs∧All2 (cw ev R φ L σ) xs p.2 else∃c,p.2=[c]∧cw ev R φ L σ x c
def VR(R:Rs)(φ:Ph)(L:List (LO α))(σ:St)(x:IV):PV α→Prop
 |.one c=>cw ev R φ L σ x c
 |.ag cs=>∃xs,x=.agg xs∧All2 (cw ev R φ L σ) xs cs
 |.tu vs=>∃xs,x=.av xs∧All2 (sK ev R φ L σ) xs vs
def flat(es:List IV):List IV:=es.flatMap cellsOf
def yP(R:Rs)(σ:St)(es:List (Value×IV×Nat))(ds:List IV):Prop:=
 All2 (fun(e:Value×IV×Nat) d=>∃z,d=.av [lift e.1,z]∧aV true R σ e.2.1 z) es ds
def Canon(es:List (Value×IV×Nat))(clock:Nat):Prop:=clock=es.length∧∀(i:Nat) (e:Value×IV×Nat),es[i]?=some e→e.2.2=i
theorem Canon.app{es:List (Value×IV×Nat)}{clock:Nat}(h:Canon es clock)(k:Value)(x:IV):Canon (es++[(k,x,clock)]) (clock+1):=by
 refine⟨by simp[h.1],fun i e he=>?_⟩;by_cases hi:i<es.length
 ·rw[asf hi]at he;exact h.2 i e he
 ·rw[asw (by omega)]at he
  have h0:i- es.length=0:=by
   have:=(ar5.1 he).1;simp at this;omega
  rw[h0]at he;simp at he;subst he;have:=h.1;show clock=i;omega
theorem Canon.set{es:List (Value×IV×Nat)}{clock q:Nat}{e:Value×IV×Nat}(h:Canon es clock)(hq:es[q]?=some e)(k:Value)(x:IV):Canon (es.set q (k,x,e.2.2)) clock:=by
 refine⟨by simp[h.1],fun i e' he=>?_⟩;rw[List.getElem?_set]at he;split at he
 ·rename_i hh;subst hh;split at he
  ·cases he;exact h.2 q e hq
  ·cases he
 ·exact h.2 i e' he
def OIt(R:Rs)(φ:Ph)(L:List (LO α))(σ:St)(k:Nat)(kt:Nat)(z:α):Prop:=
 (kt=0∧∃id ba p,ev z=some (.av [.raw (.string ba),.raw (.int .i64 (p:Nat))])∧φ k=some id∧R id=none∧σ.at id=some (.pG ba p))∨
 (1000000≤kt∧∃id m ds seen rem rest,ev z=some (.av (.av ds::.av rem::rest))∧φ k=some id∧R id=none∧(∃lz z',L[kt % 1000000]?=some (.mp lz z'))∧φ (kt % 1000000)=some m∧
  σ.at id=some (.jg (some m) ds.length seen ds.length)∧(∀s∈seen,s<ds.length)∧Left ds seen rem∧(rest=[]∨∃i last,rest=[last]∧seen.getLast?=some i∧ds[i]?=some last))
def OR(R:Rs)(φ:Ph)(L:List (LO α))(σ:St)(k:Nat):LO α→Prop
 |.var cs=>∃id cx,φ k=some id∧R id=none∧σ.at id=some (.cells cx 0 0)∧All2 (cw ev R φ L σ) cx cs
 |.row s st cut fr z=>0<s∧∃es,ev z=some (.tree s es)∧(∀e∈es,(cellsOf e).length=s)∧
   ((φ k=none∧es=[])∨∃id cs ar mn,φ k=some id∧σ.at id=some (.cells cs ar mn)∧mn≤ar∧es.length*s≤cs.length∧R id=(if st then some (es.length*s)else none)∧
     cs.all ab=true∧∀(j:Nat) x d,cs[j]?=some x→(flat es)[j]?=some d→aV fr R σ x d)
 |.mp kt z=>if gk kt=true then OIt ev R φ L σ k kt z
  else∃id es clock ds,ev z=some (.av ds)∧φ k=some id∧R id=none∧σ.at id=some (.map es clock)∧yP R σ es ds∧Canon es clock
 |.dead=>True
theorem gw{R:Rs}{φ:Ph}{L:List (LO α)}{σ:St}{k:Nat}{kt:TypeId}{z:α}:OR ev R φ L σ k (.mp kt z)=if gk kt=true then OIt ev R φ L σ k kt z
 else∃id es clock ds,ev z=some (.av ds)∧φ k=some id∧R id=none∧σ.at id=some (.map es clock)∧yP R σ es ds∧Canon es clock:=rfl
abbrev Gm(α:Type):=List (Nat×Nat×PV α)
def cn(d t:Nat):List (Nat×Nat×PV α)→Option (PV α)
 |[]=>none
 |(d',t',pv)::g=>if(ase d d'&&ase t t')=true then some pv else cn d t g
structure J(R:Rs)(φ:Ph)(Γ:Gm α)(L:List (LO α))(E:Nat→Env)(σ:St):Prop where
 slot:∀d t pv,cn d t Γ=some pv→VR ev R φ L σ ((E d).at t) pv
 obj:∀k ob,L[k]?=some ob→OR ev R φ L σ k ob
 inj:∀k k' id,φ k=some id→φ k'=some id→k=k'
 lt:∀k id,φ k=some id→k<L.length∧id<σ.n
 qb:∀id m,R id=some m→id<σ.n
 fits:∀id m cs ar mn,R id=some m→σ.at id=some (.cells cs ar mn)→m≤cs.length
 wf:σ.t.WF
 top:∀id,σ.n≤id→σ.at id=none
structure jU(ev gN:α→Option IV)(R:Rs)(φ:Ph)(L:List (LO α))(σ:St)(R':Rs)(aH:Ph)(L':List (LO α))(ah:St)(bad:Nat→Prop):Prop where
 up:∀e z,ev e=some z→gN e=some z
 grow:ic R σ R' ah
 var:∀k cs,L[k]?=some (.var cs)→(∃cm,L'[k]?=some (.var cm))∧aH k=φ k
 map:∀k kt es,L[k]?=some (.mp kt es)→(∃aB,L'[k]?=some (.mp kt aB))∧aH k=φ k
 row:∀k s st cut fr z,L[k]?=some (.row s st cut fr z)→¬bad k→(∃lu cL z',L'[k]?=some (.row s lu cut cL z')∧∀es,ev z=some (.tree s es)→∃aB,gN z'=some (.tree s aB)∧aB.length=es.length)∧aH k=φ k∧
  ∀id cs ar mn,φ k=some id→σ.at id=some (.cells cs ar mn)→∃cm o7,ah.at id=some (.cells cm ar o7)∧cm.length=cs.length∧(mn=ar→o7=ar)
end ev
variable{α:Type}{ev gN:α→Option IV}
def Cl.ok(bad:Nat→Prop):Cl α→Prop
 |.sr k|.sv k _|.pr k _ _ _=>¬bad k
 |_=>True
variable{R R':Rs}{φ aH:Ph}{L L':List (LO α)}{bad:Nat→Prop}
theorem jU.mk'(h0:∀e z,ev e=some z→gN e=some z)(h1:ic R σ R' ah)(h2:∀k cs,L[k]?=some (.var cs)→(∃cm,L'[k]?=some (.var cm))∧aH k=φ k)
 (h3:∀k kt es,L[k]?=some (.mp kt es)→(∃aB,L'[k]?=some (.mp kt aB))∧aH k=φ k)
 (h4:∀k s st cut fr z,L[k]?=some (.row s st cut fr z)→¬bad k→(∃lu,L'[k]?=some (.row s lu cut fr z))∧aH k=φ k∧∀id,φ k=some id→ah.at id=σ.at id):jU ev gN R φ L σ R' aH L' ah bad:=
 ⟨h0,h1,h2,h3,fun k s st cut fr z hk hb=>by
  obtain⟨⟨lu,a⟩,b,c⟩:=h4 k s st cut fr z hk hb;exact⟨⟨lu,fr,z,a,fun es he=>⟨es,h0 _ _ he,rfl⟩⟩,b,fun id cs ar mn hid az=>⟨cs,mn,by rw[c id hid];exact az,rfl,fun h=>h⟩⟩⟩
theorem Jn.step{k s lo len:Nat}{cut:Bool}{x:IV}(h1:aH k=φ k)(h2:∀id cs ar mn,φ k=some id→σ.at id=some (.cells cs ar mn)→∃cm o7,ah.at id=some (.cells cm ar o7)∧cm.length=cs.length∧(mn=ar→o7=ar))
 (h:Jn φ σ k s cut lo len x):Jn aH ah k s cut lo len x:=by
 rcases h with⟨a,b,c⟩|⟨id,cs,ar,mn,cap,a,b,c,d,e,f⟩
 ·exact .inl ⟨by rw[h1];exact a,b,c⟩
 ·obtain⟨cm,o7,g1,g2,g3⟩:=h2 id cs ar mn a b;exact .inr ⟨id,cm,ar,o7,cap,by rw[h1];exact a,g1,c,d,fun x y=>by rw[g2];exact e x y,fun c hc=>by rw[g2];exact⟨g3 (f c hc).1,(f c hc).2⟩⟩
theorem cw.step(hs:jU ev gN R φ L σ R' aH L' ah bad){x:IV}{c:Cl α}(bf:c.ok bad)(h:cw ev R φ L σ x c):cw gN R' aH L' ah x c:=by
 cases c with
 |un=>trivial
 |v z=>obtain⟨y,h1,h2⟩:=h;exact⟨y,hs.up _ _ h1,h2⟩
 |w fr z=>obtain⟨y,h1,h2,h3⟩:=h;exact⟨y,hs.up _ _ h1,h2.mono hs.grow,h3⟩
 |pt k off ext=>
  obtain⟨id,cs,h1,h2,h3⟩:=h;obtain⟨⟨cm,h4⟩,h5⟩:=hs.var k cs h2;exact⟨id,cm,by rw[h5];exact h1,h4,h3⟩
 |tp cs=>
  obtain⟨ds,h1,h2⟩:=h;exact⟨ds,h1,h2.mono fun d c ⟨y,h3,h4⟩=>⟨y,hs.up _ _ h3,h4⟩⟩
 |tw fr cs=>
  obtain⟨h0,h|⟨id,off,ep,m,cx,ar,mn,h1,h2,h3,h4,h5,h6,h7,h8⟩⟩:=h
  ·obtain⟨hf,ds,h1,h2⟩:=h;exact⟨fun c hc=>(h0 c hc).imp fun y hy=>⟨hs.up _ _ hy.1,hy.2⟩,.inl ⟨hf,ds,h1,h2.mono fun d c ⟨y,h3,h4⟩=>⟨y,hs.up _ _ h3,h4⟩⟩⟩
  ·obtain⟨cm,g_,NG,hle,HG⟩:=hs.grow.keep id m cx ar mn h1 h2;obtain⟨m',WW,hmm⟩:=hs.grow.le id m h1;refine⟨fun c hc=>(h0 c hc).imp fun y hy=>⟨hs.up _ _ hy.1,hy.2⟩,.inr ⟨id,off,ep,m',cm,g_,mn,WW,NG,h3,asr h4 hle,h5,by omega,hs.grow.fits id m' cm g_ mn WW NG,fun j c d hd hc=>?_⟩⟩;have hj:=(ar5.1 hd).1;rw[HG _ (by omega)]at hc;obtain⟨y,Aq,HH⟩:=h8 j c d hd hc;exact⟨y,hs.up _ _ Aq,HH.mono hs.grow⟩
 |sr k=>
  obtain⟨s,st,cut,fr,z,es,h1,he,h2⟩:=h;obtain⟨⟨lu,cL,z',h3,h6⟩,h4,h5⟩:=hs.row k _ _ _ _ _ h1 bf;obtain⟨aB,h7,h8⟩:=h6 es he;exact⟨s,lu,cut,cL,z',aB,h3,h7,h8▸h2.step h4 h5⟩
 |sv k lo=>
  obtain⟨s,st,cut,fr,z,es,y,n,h1,he,hy,hn,hl,h2⟩:=h;obtain⟨⟨lu,cL,z',h3,h6⟩,h4,h5⟩:=hs.row k _ _ _ _ _ h1 bf;obtain⟨aB,h7,h8⟩:=h6 es he;exact⟨s,lu,cut,cL,z',aB,y,n,h3,h7,hs.up _ _ hy,hn,by omega,h2.elim (fun h2=>.inl (h8▸h2.step h4 h5)) (fun h2=>.inr ⟨by omega,h2.2⟩)⟩
 |pr k i off ext=>
  obtain⟨s,st,cut,fr,z,es,y,n,id,cs,ar,mn,h1,he,hy,hn,hl,hx,h6,h7,h8⟩:=h;obtain⟨⟨lu,cL,z',h3,h9⟩,h4,h5⟩:=hs.row k _ _ _ _ _ h1 bf;obtain⟨aB,Dx,HI⟩:=h9 es he;obtain⟨cm,o7,g1,g2,g3⟩:=h5 id cs ar mn h6 h7;exact⟨s,lu,cut,cL,z',aB,y,n,id,cm,ar,o7,h3,Dx,hs.up _ _ hy,hn,by omega,hx,by rw[h4];exact h6,g1,h8⟩
 |mp k=>
  obtain⟨id,kt,es,h1,h2,h3⟩:=h;obtain⟨⟨aB,h4⟩,h5⟩:=hs.map k kt es h2;exact⟨id,kt,aB,by rw[h5];exact h1,h4,h3⟩
 |nl b s=>exact h
 |fn f bs=>
  rcases h with h|⟨ys,h1,h2⟩
  ·exact .inl h
  ·refine .inr ⟨ys,h1,h2.mono fun y p ⟨id,cs,h3,h4,h5⟩=>?_⟩;obtain⟨⟨cm,h6⟩,h7⟩:=hs.var p.1 cs h4;exact⟨id,cm,by rw[h7];exact h3,h6,h5⟩
def PV.ok(bad:Nat→Prop):PV α→Prop
 |.one c=>c.ok bad
 |.ag cs=>∀c∈cs,c.ok bad
 |.tu vs=>∀p∈vs,∀c∈p.2,c.ok bad
theorem VR.step(hs:jU ev gN R φ L σ R' aH L' ah bad){x:IV}{c:PV α}(bf:c.ok bad)(h:VR ev R φ L σ x c):VR gN R' aH L' ah x c:=by
 cases c with
 |one c=>exact cw.step hs bf h
 |ag cs=>
  obtain⟨xs,h1,h2⟩:=h;exact⟨xs,h1,h2.xf fun a b hb bR=>cw.step hs (bf b hb) bR⟩
 |tu vs=>
  obtain⟨xs,h1,h2⟩:=h;refine⟨xs,h1,h2.xf fun a p hp bR=>?_⟩;unfold sK at bR⊢;split at bR
  ·rename_i hb;rw[if_pos hb];obtain⟨ys,h3,h4⟩:=bR;exact⟨ys,h3,h4.xf fun a b hb bR=>cw.step hs (bf p hp b hb) bR⟩
  ·rename_i hb;rw[if_neg hb];obtain⟨c,h3,h4⟩:=bR;exact⟨c,h3,cw.step hs (bf p hp c (by rw[h3];simp)) h4⟩
def LO.ok(bad:Nat→Prop):LO α→Prop
 |.var cs=>∀c∈cs,c.ok bad
 |_=>True
theorem OR.step(hs:jU ev gN R φ L σ R' aH L' ah bad){k:Nat}{o:LO α}(kj:aH k=φ k)(az:∀id,φ k=some id→ah.at id=σ.at id∧R' id=R id)(bf:o.ok bad)(h:OR ev R φ L σ k o):OR gN R' aH L' ah k o:=by
 cases o with
 |var cs=>
  obtain⟨id,cx,h1,h2,h3,h4⟩:=h;obtain⟨h6,h7⟩:=az id h1;exact⟨id,cx,by rw[kj];exact h1,by rw[h7];exact h2,by rw[h6];exact h3,h4.xf fun a b hb bR=>cw.step hs (bf b hb) bR⟩
 |row s st cut fr z=>
  obtain⟨h1,es,h2,h3,h4⟩:=h;refine⟨h1,es,hs.up _ _ h2,h3,?_⟩;rcases h4 with⟨h4,h5⟩|⟨id,cs,ar,mn,h4,h5,h6,h7,h8,h9,Dx⟩
  ·exact .inl ⟨by rw[kj];exact h4,h5⟩
  ·obtain⟨ha,hb⟩:=az id h4;exact .inr ⟨id,cs,ar,mn,by rw[kj];exact h4,by rw[ha];exact h5,h6,h7,by rw[hb];exact h8,h9,fun j x d hx hd=>(Dx j x d hx hd).mono hs.grow⟩
 |mp kt z=>
  rw[gw]at h⊢;by_cases hk:gk kt=true
  ·rw[if_pos hk]at h⊢;rcases h with⟨h0,id,ba,p,h1,h2,h3,h4⟩|⟨h0,id,m,ds,seen,rem,rest,h1,h2,h3,⟨lz,z',h8⟩,h9,h4,h5⟩
   ·obtain⟨h6,h7⟩:=az id h2;exact .inl ⟨h0,id,ba,p,hs.up _ _ h1,by rw[kj];exact h2,by rw[h7];exact h3,by rw[h6];exact h4⟩
   ·obtain⟨h6,h7⟩:=az id h2;obtain⟨⟨aB,g1⟩,g2⟩:=hs.map _ _ _ h8;exact .inr ⟨h0,id,m,ds,seen,rem,rest,hs.up _ _ h1,by rw[kj];exact h2,by rw[h7];exact h3,⟨lz,aB,g1⟩,by rw[g2];exact h9,by rw[h6];exact h4,h5⟩
  ·rw[if_neg hk]at h⊢;obtain⟨id,es,clock,ds,h1,h2,h3,h4,h5⟩:=h;obtain⟨h6,h7⟩:=az id h2;exact⟨id,es,clock,ds,hs.up _ _ h1,by rw[kj];exact h2,by rw[h7];exact h3,by rw[h6];exact h4,h5.1.mono fun a d ⟨z,h8,h9⟩=>⟨z,h8,h9.mono hs.grow⟩,h5.2⟩
 |dead=>trivial
variable{Γ FI:Gm α}{E:Nat→Env}
def qs(E:Nat→Env)(d:Nat)(e:Env):Nat→Env:=fun j=>if j=d then e else E j
@[simp] theorem bZ(E:Nat→Env)(d:Nat)(e:Env):qs E d e d=e:=by simp[qs]
def Bk(d t:Nat):List (Nat×Nat×PV α)→List (Nat×Nat×PV α)
 |[]=>[]
 |(d',t',pv)::g=>if(ase d d'&&ase t t')=true then Bk d t g else(d',t',pv)::Bk d t g
theorem Gt{d t d' t':Nat}{pv:PV α}:∀(g:List (Nat×Nat×PV α)),cn d' t' (Bk d t g)=some pv→¬(d'=d∧t'=t)∧cn d' t' g=some pv:=by
 intro g;induction g with
 |nil=>intro h;cases h
 |cons p g ih=>
  obtain⟨a,b,q⟩:=p;intro h;unfold Bk at h;split at h
  ·rename_i bR;simp only[ar6,asL]at bR;obtain⟨h1,h2⟩:=ih h;refine⟨h1,?_⟩;unfold cn;rw[if_neg]
   ·exact h2
   ·simp only[ar6,asL];rintro⟨rfl,rfl⟩;exact h1 ⟨bR.1.symm,bR.2.symm⟩
  ·rename_i bR;simp only[ar6,asL]at bR;unfold cn at h⊢;split at h
   ·rename_i hc;rw[if_pos hc];simp only[ar6,asL]at hc;obtain⟨rfl,rfl⟩:=hc;exact⟨fun hh=>bR ⟨hh.1.symm,hh.2.symm⟩,h⟩
   ·rename_i hc;rw[if_neg hc];exact ih h
def NH(d t:Nat)(pv:PV α)(g:List (Nat×Nat×PV α)):List (Nat×Nat×PV α):=(d,t,pv)::Bk d t g
theorem mP{d t a b:Nat}{q pv:PV α}{g:List (Nat×Nat×PV α)}(h:cn d t ((a,b,q)::g)=some pv):(d=a∧t=b∧pv=q)∨(¬(d=a∧t=b)∧cn d t g=some pv):=by
 unfold cn at h;split at h
 ·rename_i hc;simp only[ar6,asL]at hc;cases h;exact .inl ⟨hc.1,hc.2,rfl⟩
 ·rename_i hc;simp only[ar6,asL]at hc;exact .inr ⟨hc,h⟩
theorem CG(e:Env)(dst:Option Nat)(x:IV)(t:Nat)(h:dst≠some t):(e.put dst x).at t=e.at t:=by
 cases dst with
 |none=>rfl
 |some d=>rw[Env.cJ,if_neg (fun hc=>h (by rw[hc.2]))]
theorem J.Un(h:J ev R φ Γ L E σ)(d:Nat)(dst:Option Nat)(x:IV)(fS:∀t,dst=some t→FI=Bk d t Γ)(hn:dst=none→FI=Γ):J ev R φ FI L (qs E d ((E d).put dst x)) σ:=by
 refine{h with slot:=fun d' t' pv hg=>?_}
 have hold:¬(d'=d∧dst=some t')∧cn d' t' Γ=some pv:=by
  cases hd:dst with
  |none=>rw[hn hd]at hg;exact⟨fun hh=>(by cases hh.2),hg⟩
  |some t=>
   rw[fS t hd]at hg;obtain⟨h1,h2⟩:=Gt Γ hg;exact⟨fun hh=>h1 ⟨hh.1,(by injection hh.2 with hh;exact hh.symm)⟩,h2⟩
 have:=h.slot d' t' pv hold.2;unfold qs;split
 ·rename_i hd;subst hd;rw[CG _ _ _ _ (fun hh=>hold.1 ⟨rfl,hh⟩)];exact this
 ·exact this
theorem J.put(h:J ev R φ Γ L E σ)(d:Nat){t:Nat}(ht:t<(E d).n){x:IV}{pv:PV α}(hx:VR ev R φ L σ x pv):J ev R φ (NH d t pv Γ) L (qs E d ((E d).put (some t) x)) σ:=by
 have hb:=h.Un (FI:=Bk d t Γ) d (some t) x (fun t' h=>by cases h;rfl) (fun h=>by cases h);refine{hb with slot:=fun d' t' CH hg=>?_};rcases mP hg with⟨rfl,rfl,rfl⟩|⟨_,h2⟩
 ·rw[bZ,Env.cJ,if_pos ⟨ht,rfl⟩];exact hx
 ·exact hb.slot d' t' CH h2
theorem J.less(h:J ev R φ Γ L E σ)(hs:∀d t pv,cn d t FI=some pv→cn d t Γ=some pv):J ev R φ FI L E σ:={h with slot:=fun d t pv ht=>h.slot d t pv (hs d t pv ht)}
end Go.Ev
namespace Go.Ev
variable{P:Program}{σ ah:St}{R R':Rs}{φ aH:Ph}{α:Type}{ev gN:α→Option IV}{L L':List (LO α)}{bad:Nat→Prop}{Γ FI:Gm α}{E:Nat→Env}
theorem J.qJ(h:J ev R φ Γ L E σ):R σ.n=none:=by
 cases hr:R σ.n with
 |none=>rfl
 |some m=>exact absurd (h.qb _ _ hr) (Nat.lt_irrefl _)
theorem cO{α:Type}{l:List α}{i:Nat}{a:α}(h:l[i]?=some a):i<l.length:=(ar5.1 h).1
def bP(φ:Ph)(k id:Nat):Ph:=fun j=>if j=k then some id else φ j
theorem KK(h:J ev R φ Γ L E σ)(ob:Ob):ic R σ R (σ.add ob):=by
 refine⟨fun _ m h=>⟨m,h,ar9 _⟩,fun id m cs ar mn hR az=>⟨cs,ar,?_,ar9 _,fun _ _=>rfl⟩,fun id m cs ar mn hR az=>?_⟩
 ·have:=h.qb _ _ hR;rw[St.gI,if_neg (by omega)];exact az
 ·have:=h.qb _ _ hR;rw[St.gI,if_neg (by omega)]at az;exact h.fits _ _ _ _ _ hR az
theorem EF(h:J ev R φ Γ L E σ)(ob:Ob)(lo:LO α):jU ev ev R φ L σ R (bP φ L.length σ.n) (L++[lo]) (σ.add ob) (fun _=>False):=by
 have hL:∀k o,L[k]?=some o→(L++[lo])[k]?=some o∧bP φ L.length σ.n k=φ k:=fun k o hk=>by
  have:=cO hk;exact⟨by rw[asf this];exact hk,by simp[bP,show k≠L.length by omega]⟩
 refine .mk' (fun _ _ h=>h) (KK h ob) (fun k cs hk=>⟨⟨cs,(hL k _ hk).1⟩,(hL k _ hk).2⟩) (fun k kt es hk=>⟨⟨es,(hL k _ hk).1⟩,(hL k _ hk).2⟩) (fun k s st cut fr z hk _=>⟨⟨st,(hL k _ hk).1⟩,(hL k _ hk).2,fun id hid=>?_⟩);have:=(h.lt _ _ hid).2;rw[St.gI,if_neg (by omega)]
theorem Cl.aS(c:Cl α):c.ok (fun _=>False):=by cases c<;>simp[Cl.ok]
theorem PV.aS(c:PV α):c.ok (fun _=>False):=by
 cases c with
 |one c=>exact c.aS
 |ag cs=>exact fun c _=>c.aS
 |tu vs=>exact fun _ _ c _=>c.aS
theorem LO.aS(o:LO α):o.ok (fun _=>False):=by
 cases o with
 |var cs=>exact fun c _=>c.aS
 |_=>trivial
theorem J.xM(h:J ev R φ Γ L E σ)(ob:Ob)(lo:LO α)(ho:OR ev R (bP φ L.length σ.n) (L++[lo]) (σ.add ob) L.length lo):J ev R (bP φ L.length σ.n) Γ (L++[lo]) E (σ.add ob):=by
 have hs:=EF h ob lo;refine⟨fun d t pv hg=>(h.slot d t pv hg).step hs pv.aS,fun k o hk=>?_,fun k k' id h1 h2=>?_,fun k id hk=>?_,fun id m hR=>?_,hs.grow.fits,h.wf.set _ _,fun id hid=>?_⟩
 ·by_cases qc:k<L.length
  ·rw[asf qc]at hk;refine(h.obj k o hk).step hs (by simp[bP,show k≠L.length by omega]) (fun id hid=>⟨?_,rfl⟩) o.aS;have:=(h.lt _ _ hid).2;rw[St.gI,if_neg (by omega)]
  ·have:k=L.length:=by have:=cO hk;simp at this;omega
   subst this;simp at hk;subst hk;exact ho
 ·unfold bP at h1 h2;split at h1<;>split at h2
  ·omega
  ·cases h1;have:=(h.lt _ _ h2).2;omega
  ·cases h2;have:=(h.lt _ _ h1).2;omega
  ·exact h.inj k k' id h1 h2
 ·unfold bP at hk;split at hk
  ·cases hk;simp[St.add];omega
  ·have:=h.lt _ _ hk;simp[St.add];omega
 ·have:=h.qb _ _ hR;simp[St.add];omega
 ·have iv:σ.n+1≤id:=hid;rw[St.gI,if_neg (by omega)];exact h.top id (by omega)
theorem J.up(h:J ev R φ Γ L E σ)(dZ:∀e z,ev e=some z→gN e=some z):J gN R φ Γ L E σ:=by
 have hs:jU ev gN R φ L σ R φ L σ (fun _=>False):=(.mk' dZ (ic.refl h.fits) (fun k cs hk=>⟨⟨cs,hk⟩,rfl⟩) (fun k kt es hk=>⟨⟨es,hk⟩,rfl⟩) (fun k s st cut fr z hk _=>⟨⟨st,hk⟩,rfl,fun _ _=>rfl⟩));exact{h with slot:=fun d t pv hg=>(h.slot d t pv hg).step hs pv.aS,obj:=fun k o hk=>(h.obj k o hk).step hs rfl (fun _ _=>⟨rfl,rfl⟩) o.aS}
theorem VR.up{x:IV}{pv:PV α}(h:J ev R φ Γ L E σ)(hx:VR ev R φ L σ x pv)(dZ:∀e z,ev e=some z→gN e=some z):VR gN R φ L σ x pv:=
 hx.step (bad:=fun _=>False) (.mk' dZ (ic.refl h.fits) (fun k cs hk=>⟨⟨cs,hk⟩,rfl⟩) (fun k kt es hk=>⟨⟨es,hk⟩,rfl⟩) (fun k s st cut fr z hk _=>⟨⟨st,hk⟩,rfl,fun _ _=>rfl⟩)) pv.aS
def Cl.drop(k:Nat):Cl α→Cl α
 |.sr k'=>if ase k' k=true then .un else .sr k'
 |.sv k' lo=>if ase k' k=true then .un else .sv k' lo
 |.pr k' i off ext=>if ase k' k=true then .un else .pr k' i off ext
 |c=>c
def PV.drop(k:Nat):PV α→PV α
 |.one c=>.one (c.drop k)
 |.ag cs=>.ag (cs.map (Cl.drop k))
 |.tu vs=>.tu (vs.map fun p=>(p.1,p.2.map (Cl.drop k)))
def LO.drop(k:Nat):LO α→LO α
 |.var cs=>.var (cs.map (Cl.drop k))
 |o=>o
def HJ(k:Nat):List (Nat×Nat×PV α)→List (Nat×Nat×PV α)
 |[]=>[]
 |(d,t,pv)::g=>(d,t,pv.drop k)::HJ k g
theorem Cl.mz(k:Nat)(c:Cl α):(c.drop k).ok (·=k):=by
 cases c<;>simp only[Cl.drop]<;>first|trivial|(split<;>first|trivial|(rename_i hh;simpa[Cl.ok,asL]using hh))
theorem PV.mz(k:Nat)(c:PV α):(c.drop k).ok (·=k):=by
 cases c with
 |one c=>exact c.mz k
 |ag cs=>intro c hc;simp at hc;obtain⟨a,_,rfl⟩:=hc;exact a.mz k
 |tu vs=>intro p hp c hc;obtain⟨q,_,rfl⟩:=List.mem_map.1 hp;simp at hc;obtain⟨a,_,rfl⟩:=hc;exact a.mz k
theorem LO.mz(k:Nat)(o:LO α):(o.drop k).ok (·=k):=by
 cases o with
 |var cs=>intro c hc;simp at hc;obtain⟨a,_,rfl⟩:=hc;exact a.mz k
 |_=>trivial
theorem cw.drop{x:IV}{c:Cl α}(k:Nat)(h:cw ev R φ L σ x c):cw ev R φ L σ x (c.drop k):=by
 cases c<;>simp only[Cl.drop]<;>first|exact h|(split<;>first|trivial|exact h)
theorem VR.drop{x:IV}{c:PV α}(k:Nat)(h:VR ev R φ L σ x c):VR ev R φ L σ x (c.drop k):=by
 cases c with
 |one c=>exact cw.drop k h
 |ag cs=>
  obtain⟨xs,h1,h2⟩:=h;exact⟨xs,h1,h2.map fun a b bR=>bR.drop k⟩
 |tu vs=>
  obtain⟨xs,h1,h2⟩:=h;refine⟨xs,h1,h2.map fun a p bR=>?_⟩;unfold sK at bR⊢;split at bR
  ·rename_i hb;rw[if_pos hb];obtain⟨ys,h3,h4⟩:=bR;exact⟨ys,h3,h4.map fun a b bR=>bR.drop k⟩
  ·rename_i hb;rw[if_neg hb];obtain⟨c,h3,h4⟩:=bR;exact⟨c.drop k,by simp[h3],h4.drop k⟩
theorem Gu(h:J ev R φ Γ L E σ)(k:Nat):jU ev ev R φ L σ R φ (L.map (LO.drop k)) σ (fun _=>False):=by
 refine .mk' (fun _ _ h=>h) (ic.refl h.fits) (fun j cs hj=>⟨⟨cs.map (Cl.drop k),?_⟩,rfl⟩) (fun j kt es hj=>⟨⟨es,?_⟩,rfl⟩) (fun j s st cut fr z hj _=>⟨⟨st,?_⟩,rfl,fun _ _=>rfl⟩)<;>simp[asi,hj,LO.drop]
theorem Dy{d t k:Nat}{pv:PV α}:∀(g:Gm α),cn d t (HJ k g)=some pv→∃q,cn d t g=some q∧pv=q.drop k:=by
 intro g;induction g with
 |nil=>intro h;cases h
 |cons p g ih=>
  obtain⟨a,b,q⟩:=p;intro h;rcases mP h with⟨rfl,rfl,rfl⟩|⟨h1,h2⟩
  ·exact⟨q,by simp[cn],rfl⟩
  ·obtain⟨q',h3,h4⟩:=ih h2;refine⟨q',?_,h4⟩;unfold cn;rw[if_neg]
   ·exact h3
   ·simpa[asL]using h1
theorem J.Uo(h:J ev R φ Γ L E σ)(k:Nat):J ev R φ (HJ k Γ) (L.map (LO.drop k)) E σ:=by
 have hs:=Gu h k;refine{h with slot:=fun d t pv hg=>?_,obj:=fun j o hj=>?_,lt:=fun j id hj=>by simpa using h.lt j id hj}
 ·obtain⟨q,h1,rfl⟩:=Dy Γ hg;exact((h.slot d t q h1).drop k).step hs (PV.aS _)
 ·rw[asi]at hj;obtain⟨o',h1,rfl⟩:=ar_.1 hj;have ho:=(h.obj j o' h1).step hs rfl (fun _ _=>⟨rfl,rfl⟩) (LO.aS _);cases o' with
  |var cs=>
   obtain⟨id,cx,a,b,c,d⟩:=ho;exact⟨id,cx,a,b,c,d.map fun _ _ bR=>bR.drop k⟩
  |row=>exact ho
  |mp=>exact ho
  |dead=>exact ho
theorem J.sL(h:J ev R φ Γ L E σ){k id:Nat}{lo jD:LO α}{eF:Ob}(hid:φ k=some id)(hk:L[k]?=some lo)(hR:∀j,j≠id→R' j=R j)
 (hle:∀m,R id=some m→∃m',R' id=some m'∧m≤m')
 (HG:∀m cs ar mn,R id=some m→σ.at id=some (.cells cs ar mn)→∃cm g_,eF=.cells cm g_ mn∧ar≤g_∧∀j,j<m→cm[j]?=cs[j]?)
 (wz:∀m cs ar mn,R' id=some m→eF=.cells cs ar mn→m≤cs.length)
 (hv:∀cs,lo=.var cs→∃cm,jD=.var cm)(hm:∀kt es,lo=.mp kt es→∃aB,jD=.mp kt aB)(hr:∀s st cut fr z,lo=.row s st cut fr z→bad k)
 (KL:∀d t pv,cn d t Γ=some pv→pv.ok bad)(hL:∀j o,L[j]?=some o→j≠k→o.ok bad)
 (ho:jU ev ev R φ L σ R' φ (L.set k jD) (σ.put id eF) bad→OR ev R' φ (L.set k jD) (σ.put id eF) k jD):
 jU ev ev R φ L σ R' φ (L.set k jD) (σ.put id eF) bad∧J ev R' φ Γ (L.set k jD) E (σ.put id eF):=by
 have qc:=cO hk;have bc:∀j,j≠k→(L.set k jD)[j]?=L[j]? :=fun j hj=>avc (fun hc=>hj hc.symm);have bn:(L.set k jD)[k]?=some jD:=by simp[qc]
 have Jo:∀j bp,j≠k→φ j=some bp→bp≠id:=fun j bp hj kb hc=>hj (h.inj j k id (by rw[←hc];exact kb) hid)
 have pM:ic R σ R' (σ.put id eF):=by
  refine⟨fun bp m hm=>?_,fun bp m cs ar mn hm az=>?_,fun bp m cs ar mn hm az=>?_⟩
  ·by_cases hc:bp=id
   ·subst hc;exact hle m hm
   ·exact⟨m,by rw[hR bp hc];exact hm,ar9 _⟩
  ·by_cases hc:bp=id
   ·subst hc;obtain⟨cm,g_,h1,h2,h3⟩:=HG m cs ar mn hm az;exact⟨cm,g_,by rw[St.cJ,if_pos rfl,h1],h2,h3⟩
   ·exact⟨cs,ar,by rw[St.cJ,if_neg (fun hh=>hc hh.symm)];exact az,ar9 _,fun _ _=>rfl⟩
  ·by_cases hc:bp=id
   ·subst hc;rw[St.cJ,if_pos rfl]at az;exact wz m cs ar mn hm (by injection az)
   ·rw[St.cJ,if_neg (fun hh=>hc hh.symm)]at az;exact h.fits bp m cs ar mn (by rw[←hR bp hc];exact hm) az
 have hs:jU ev ev R φ L σ R' φ (L.set k jD) (σ.put id eF) bad:=by
  refine .mk' (fun _ _ h=>h) pM (fun j cs hj=>?_) (fun j kt es hj=>?_) (fun j s st cut fr z hj hb=>?_)
  ·by_cases bB:j=k
   ·subst bB;rw[hk]at hj;injection hj with hj
    obtain⟨cm,h1⟩:=hv cs hj;exact⟨⟨cm,by rw[bn,h1]⟩,rfl⟩
   ·exact⟨⟨cs,by rw[bc j bB];exact hj⟩,rfl⟩
  ·by_cases bB:j=k
   ·subst bB;rw[hk]at hj;injection hj with hj
    obtain⟨cm,h1⟩:=hm kt es hj;exact⟨⟨cm,by rw[bn,h1]⟩,rfl⟩
   ·exact⟨⟨es,by rw[bc j bB];exact hj⟩,rfl⟩
  ·by_cases bB:j=k
   ·subst bB;rw[hk]at hj;injection hj with hj
    exact absurd (hr _ _ _ _ _ hj) hb
   ·exact⟨⟨st,by rw[bc j bB];exact hj⟩,rfl,fun bp iv=>by rw[St.cJ,if_neg (fun hc=>Jo j bp bB iv hc.symm)]⟩
 refine⟨hs,⟨fun d t pv hg=>(h.slot d t pv hg).step hs (KL d t pv hg),fun j o hj=>?_,h.inj,fun j bp hj=>by simpa[St.put]using h.lt j bp hj,fun bp m hm=>?_,pM.fits,h.wf.set _ _,fun bp iv=>?_⟩⟩
 ·by_cases bB:j=k
  ·subst bB;rw[bn]at hj;cases hj;exact ho hs
  ·rw[bc j bB]at hj;exact(h.obj j o hj).step hs rfl (fun bp iv=>⟨by rw[St.cJ,if_neg (fun hc=>Jo j bp bB iv hc.symm)],hR _ (Jo j bp bB iv)⟩) (hL j o hj bB)
 ·by_cases hc:bp=id
  ·subst hc;exact(h.lt _ _ hid).2
  ·rw[hR bp hc]at hm;exact h.qb _ _ hm
 ·have:=(h.lt _ _ hid).2;have Mp:σ.n≤bp:=iv;rw[St.cJ,if_neg (by omega)];exact h.top bp Mp
theorem J.ae_(h:J ev R φ Γ L E σ){k:Nat}{lo jD:LO α}{eF:Ob}(hk:L[k]?=some lo)(hR:∀j,j≠σ.n→R' j=R j)
 (wz:∀m cs ar mn,R' σ.n=some m→eF=.cells cs ar mn→m≤cs.length)
 (hr:∃s st cut fr z,lo=.row s st cut fr z)(hb:bad k)
 (KL:∀d t pv,cn d t Γ=some pv→pv.ok bad)(hL:∀j o,L[j]?=some o→j≠k→o.ok bad)
 (ho:jU ev ev R φ L σ R' (bP φ k σ.n) (L.set k jD) (σ.add eF) bad→OR ev R' (bP φ k σ.n) (L.set k jD) (σ.add eF) k jD):
 jU ev ev R φ L σ R' (bP φ k σ.n) (L.set k jD) (σ.add eF) bad∧J ev R' (bP φ k σ.n) Γ (L.set k jD) E (σ.add eF):=by
 have qc:=cO hk;have bc:∀j,j≠k→(L.set k jD)[j]?=L[j]? :=fun j hj=>avc (fun hc=>hj hc.symm);have bn:(L.set k jD)[k]?=some jD:=by simp[qc]
 have kj:∀j,j≠k→bP φ k σ.n j=φ j:=fun j hj=>by simp[bP,hj]
 have pM:ic R σ R' (σ.add eF):=by
  refine⟨fun bp m hm=>?_,fun bp m cs ar mn hm az=>?_,fun bp m cs ar mn hm az=>?_⟩
  ·have:=h.qb _ _ hm;exact⟨m,by rw[hR bp (by omega)];exact hm,ar9 _⟩
  ·have:=h.qb _ _ hm;exact⟨cs,ar,by rw[St.gI,if_neg (by omega)];exact az,ar9 _,fun _ _=>rfl⟩
  ·by_cases hc:bp=σ.n
   ·subst hc;rw[St.gI,if_pos rfl]at az;exact wz m cs ar mn hm (by injection az)
   ·rw[St.gI,if_neg (fun hh=>hc hh.symm)]at az;exact h.fits bp m cs ar mn (by rw[←hR bp hc];exact hm) az
 have hs:jU ev ev R φ L σ R' (bP φ k σ.n) (L.set k jD) (σ.add eF) bad:=by
  obtain⟨s,st,cut,fr,z,rfl⟩:=hr;refine .mk' (fun _ _ h=>h) pM (fun j cs hj=>?_) (fun j kt es hj=>?_) (fun j s st cut fr z hj wa=>?_)
  ·by_cases bB:j=k
   ·subst bB;rw[hk]at hj;cases hj
   ·exact⟨⟨cs,by rw[bc j bB];exact hj⟩,kj j bB⟩
  ·by_cases bB:j=k
   ·subst bB;rw[hk]at hj;cases hj
   ·exact⟨⟨es,by rw[bc j bB];exact hj⟩,kj j bB⟩
  ·by_cases bB:j=k
   ·subst bB;exact absurd hb wa
   ·exact⟨⟨st,by rw[bc j bB];exact hj⟩,kj j bB,fun bp iv=>by have:=(h.lt _ _ iv).2;rw[St.gI,if_neg (by omega)]⟩
 refine⟨hs,⟨fun d t pv hg=>(h.slot d t pv hg).step hs (KL d t pv hg),fun j o hj=>?_,fun j j' bp h1 h2=>?_,fun j bp hj=>?_,fun bp m hm=>?_,pM.fits,h.wf.set _ _,fun bp iv=>?_⟩⟩
 ·by_cases bB:j=k
  ·subst bB;rw[bn]at hj;cases hj;exact ho hs
  ·rw[bc j bB]at hj;refine(h.obj j o hj).step hs (kj j bB) (fun bp iv=>?_) (hL j o hj bB);have:=(h.lt _ _ iv).2;exact⟨by rw[St.gI,if_neg (by omega)],hR _ (by omega)⟩
 ·unfold bP at h1 h2;split at h1<;>split at h2
  ·omega
  ·cases h1;have:=(h.lt _ _ h2).2;omega
  ·cases h2;have:=(h.lt _ _ h1).2;omega
  ·exact h.inj j j' bp h1 h2
 ·unfold bP at hj;split at hj
  ·cases hj;rename_i hh;subst hh;simp[St.add];omega
  ·have:=h.lt _ _ hj;simp[St.add];omega
 ·by_cases hc:bp=σ.n
  ·simp[St.add];omega
  ·rw[hR bp hc]at hm;have:=h.qb _ _ hm;simp[St.add];omega
 ·have Mp:σ.n+1≤bp:=iv;rw[St.gI,if_neg (by omega)];exact h.top bp (by omega)
end Go.Ev
namespace Go.Ev
variable{P:Program}{N:Nat}{ι:Io}{w:World}{σ ah:St}{e:Env}{rd:Option Nat}{fn:FuncId}{df:List Df}
abbrev jx:=Ex→Env→St→Prop
def cT(P:Program)(N:Nat)(rd:Option Nat)(c:Code)(e:Env)(df:List Df)(σ:St)(CW:jx):Prop:=
 ∀F ι a w Q,jS F rd ι→Inv N ι σ w→cM ι e a.tmps→jC ι df a.defers→(∀ex e' ah,CW ex e' ah→mW N 0 ι w σ ⟨ex,e',df,ah⟩ Q)→c.wpIn F 0 P Q a w
def oc(P:Program)(N:Nat)(rd:Option Nat)(j:Nat)(c:Code)(e:Env)(df:List Df)(σ:St)(CW:jx):Prop:=
 ∀F ι a w Q,jS F rd ι→Inv N ι σ w→cM ι e a.tmps→jC ι df a.defers→(∀ex e' ah,CW ex e' ah→mW N 0 ι w σ ⟨ex,e',df,ah⟩ Q)→Code.roundsIn F 0 P c Q j a w
def c_(P:Program)(N:Nat)(rd:Option Nat)(ops:Array Oper)(l:List Oper)(e:Env)(df:List Df)(σ:St)(CW:jx):Prop:=
 ∀F ι a w Q k,ops.toList.drop k=l→jS F rd ι→Inv N ι σ w→cM ι e a.tmps→jC ι df a.defers→(∀ex e' ah,CW ex e' ah→mW N 0 ι w σ ⟨ex,e',df,ah⟩ Q)→
  wpOpsIn F 0 P ops Q (auv k l.length) a w
def dD(P:Program)(N:Nat)(f:FuncId)(args:List IV)(σ:St)(RW:IV→St→Prop):Prop:=
 ∀ι us w,Inv N ι σ w→ax ι args us→CallsIn asz 0 P f us.toArray w (fun ed w'=>∃v ah,RW v ah∧wv N 0 ι w σ v ah ed w')
variable{CW CW':jx}
theorem cT.mono{c:Code}(h:cT P N rd c e df σ CW)(hm:∀ex e' ah,CW ex e' ah→CW' ex e' ah):cT P N rd c e df σ CW':=
 fun F ι a w Q h1 h2 h3 h4 hQ=>h F ι a w Q h1 h2 h3 h4 fun ex e' ah hc=>hQ ex e' ah (hm _ _ _ hc)
theorem ug{ex:Ex}{a:Act}{Q:Exit→Act→World→Prop}(hi:Inv N ι σ w)(he:cM ι e a.tmps)(hd:jC ι df a.defers)(hQ:mW N 0 ι w σ ⟨ex,e,df,σ⟩ Q)(hp:Ub ι [] ex):Q (Dd [] ex) a w:=
 hQ a w ι [] hi (Le.refl _ _ _ _) he hd hp
theorem cT.skip(h:CW .normal e σ):cT P N rd .skip e df σ CW:=
 fun _ ι a w _ _ hi he hd hQ=>wpIn_skip (ug hi he hd (hQ _ _ _ h) trivial)
theorem cT.label{l:Nat}(h:CW .normal e σ):cT P N rd (.label l) e df σ CW:=
 fun _ ι a w _ _ hi he hd hQ=>wpIn_label (ug hi he hd (hQ _ _ _ h) trivial)
theorem cT.exit{id:Nat}(h:CW (.exit id) e σ):cT P N rd (.exit id) e df σ CW:=
 fun _ ι a w _ _ hi he hd hQ=>wpIn_exit (ug hi he hd (hQ _ _ _ h) trivial)
theorem cT.goto{id:Nat}(h:CW (.goto id) e σ):cT P N rd (.goto id) e df σ CW:=
 fun _ ι a w _ _ hi he hd hQ=>wpIn_goto (ug hi he hd (hQ _ _ _ h) trivial)
theorem cT.ret(h:CW .ret e σ):cT P N rd .ret e df σ CW:=
 fun _ ι a w _ _ hi he hd hQ=>wpIn_ret (ug hi he hd (hQ _ _ _ h) trivial)
def vt(N:Nat)(next:Env→St→Prop)(CW:jx):jx:=fun ex e1 ai=>ai.n≤N∧(ex=.normal→next e1 ai)∧(ex≠.normal→CW ex e1 ai)
theorem cT.seq{x y:Code}(h:cT P N rd x e df σ (vt N (fun e1 ai=>cT P N rd y e1 df ai CW) CW)):cT P N rd (.seq x y) e df σ CW:=by
 intro F ι a w Q hF hi he hd hQ;refine wpIn_seq (h F ι a w _ hF hi he hd fun ex e1 ai hc=>?_);obtain⟨hn,h1,h2⟩:=hc;intro a1 w1 bN dU i1 l1 cg d1 p1;cases ex with
 |normal=>
  refine h1 rfl F bN a1 w1 Q (hF.mono l1.ext) i1 cg d1 fun ex e' ah hc=>(hQ ex e' ah hc).from hi l1 hn
 |exit id=>exact hQ _ _ _ (h2 (by simp)) a1 w1 bN dU i1 l1 cg d1 p1
 |goto l=>exact hQ _ _ _ (h2 (by simp)) a1 w1 bN dU i1 l1 cg d1 p1
 |ret=>exact hQ _ _ _ (h2 (by simp)) a1 w1 bN dU i1 l1 cg d1 p1
 |bC v=>exact hQ _ _ _ (h2 (by simp)) a1 w1 bN dU i1 l1 cg d1 p1
theorem cT.cond{c:Operand}{x y:Code}{t:Bool}(hc:aq e c=.raw (.bool t))(h:cT P N rd (if t then x else y) e df σ CW):cT P N rd (.cond c x y) e df σ CW:=
 fun F ι a w Q hF hi he hd hQ=>wpIn_cond (Gf hc (he.eval c)) (h F ι a w Q hF hi he hd hQ)
theorem cT.block{id:Nat}{x:Code}(h:cT P N rd x e df σ (fun ex e1 ai=>CW (match ex with|.exit i=>if i=id then .normal else .exit i|ex=>ex) e1 ai)):cT P N rd (.block id x) e df σ CW:=by
 intro F ι a w Q hF hi he hd hQ;refine wpIn_block (h F ι a w _ hF hi he hd fun ex e1 ai hc=>?_);intro a1 w1 bN dU i1 l1 cg d1 p1;cases ex with
 |exit i=>
  simp only[Dd,Exit.inBlock];simp only at hc;split
  ·rename_i hh;rw[if_pos hh]at hc;exact hQ _ _ _ hc a1 w1 bN dU i1 l1 cg d1 trivial
  ·rename_i hh;rw[if_neg hh]at hc;exact hQ _ _ _ hc a1 w1 bN dU i1 l1 cg d1 trivial
 |normal=>exact hQ _ _ _ hc a1 w1 bN dU i1 l1 cg d1 p1
 |goto l=>exact hQ _ _ _ hc a1 w1 bN dU i1 l1 cg d1 p1
 |ret=>exact hQ _ _ _ hc a1 w1 bN dU i1 l1 cg d1 p1
 |bC v=>exact hQ _ _ _ hc a1 w1 bN dU i1 l1 cg d1 p1
theorem cT.scope{x:Code}(h:cT P N rd x e df σ (fun ex e1 ai=>(∀l,ex≠.goto l)∧CW ex e1 ai)):cT P N rd (.scope x) e df σ CW:=by
 intro F ι a w Q hF hi he hd hQ;refine Bc (h F ι a w _ hF hi he hd fun ex e1 ai hc=>?_);obtain⟨hx,hc⟩:=hc;intro a1 w1 bN dU i1 l1 cg d1 p1;have:=hQ _ _ _ hc a1 w1 bN dU i1 l1 cg d1 p1;cases hh:ex<;>rw[hh]at this<;>first|exact absurd hh (hx _)|exact this
theorem oc.succ{x:Code}{j:Nat}(h:cT P N rd x e df σ (vt N (fun e1 ai=>oc P N rd j x e1 df ai CW) CW)):oc P N rd (j+1) x e df σ CW:=by
 intro F ι a w Q hF hi he hd hQ;rw[roundsIn_succ];refine h F ι a w _ hF hi he hd fun ex e1 ai hc=>?_;obtain⟨hn,h1,h2⟩:=hc;intro a1 w1 bN dU i1 l1 cg d1 p1;cases ex with
 |normal=>
  refine h1 rfl F bN a1 w1 Q (hF.mono l1.ext) i1 cg d1 fun ex e' ah hc=>(hQ ex e' ah hc).from hi l1 hn
 |exit id=>exact hQ _ _ _ (h2 (by simp)) a1 w1 bN dU i1 l1 cg d1 p1
 |goto l=>exact hQ _ _ _ (h2 (by simp)) a1 w1 bN dU i1 l1 cg d1 p1
 |ret=>exact hQ _ _ _ (h2 (by simp)) a1 w1 bN dU i1 l1 cg d1 p1
 |bC v=>exact hQ _ _ _ (h2 (by simp)) a1 w1 bN dU i1 l1 cg d1 p1
theorem cT.loop{x:Code}{j:Nat}(h:oc P N rd j x e df σ CW):cT P N rd (.loop x) e df σ CW:=
 fun F ι a w Q hF hi he hd hQ=>wpIn_loop_rounds j (h F ι a w Q hF hi he hd hQ)
theorem cT.region{id:Nat}{ops:Array Oper}(h:c_ P N rd ops ops.toList e df σ CW):cT P N rd (.region id ops false) e df σ CW:=by
 intro F ι a w Q hF hi he hd hQ;refine wpIn_region ?_;have:=h F ι a w Q 0 (by simp) hF hi he hd hQ;rw[List.range_eq_range'];simpa using this
theorem cT.HK{c:Code}{cr:CR}(h:bW P 0 rd fn c e df σ cr)(hdf:cr.df=df)(hn:cr.σ.n≤N)(hc:CW cr.ex cr.e cr.σ):cT P N rd c e df σ CW:=by
 intro F ι a w Q hF hi he hd hQ;refine h.wp hn hF hi he hd ?_;have:=hQ _ _ _ hc;rw[←hdf]at this;exact this
variable{ops:Array Oper}{o:Oper}{l:List Oper}
theorem c_.nil(h:CW .normal e σ):c_ P N rd ops [] e df σ CW:=
 fun _ ι a w _ _ _ _ hi he hd hQ=>ug hi he hd (hQ _ _ _ h) trivial
theorem c_.cons(hw:aF o ops e=true)
 (h:∀F ι a w Q k,ops.toList.drop (k+1)=l→jS F rd ι→Inv N ι σ w→cM ι e a.tmps→jC ι df a.defers→(∀ex e' ah,CW ex e' ah→mW N 0 ι w σ ⟨ex,e',df,ah⟩ Q)→
  o.wpIn F 0 P a w (wpOpsIn F 0 P ops Q (auv (k+1) l.length)) Q):c_ P N rd ops (o::l) e df σ CW:=by
 intro F ι a w Q k hl hF hi he hd hQ
 have fw:ops.toList.drop (k+1)=l:=by
  rw[←ate (i:=1) (j:=k),hl];rfl
 have bf:ops[k]?=some o:=by
  have:(ops.toList.drop k)[0]?=some o:=by rw[hl];rfl
  simpa using this
 simp only[asS,au6];rw[wpOpsIn_cons];unfold wpOpIn;rw[bf];simp only;rw[oX he,if_pos hw];exact h F ι a w Q k fw hF hi he hd hQ
theorem c_.skip(hw:aF o ops e=false)(h:c_ P N rd ops l (e.put o.dst .undef) df σ CW):c_ P N rd ops (o::l) e df σ CW:=by
 intro F ι a w Q k hl hF hi he hd hQ
 have fw:ops.toList.drop (k+1)=l:=by
  rw[←ate (i:=1) (j:=k),hl];rfl
 have bf:ops[k]?=some o:=by
  have:(ops.toList.drop k)[0]?=some o:=by rw[hl];rfl
  simpa using this
 simp only[asS,au6];rw[wpOpsIn_cons];unfold wpOpIn;rw[bf];simp only;rw[oX he,hw,if_neg (by simp)];exact⟨fun f _=>hF.fn f,h F ι _ w Q (k+1) fw hF hi (he.put oW _) (by cases o.dst<;>exact hd) hQ⟩
theorem c_.val{v:IV}{ai:St}(hw:aF o ops e=true)(hv:ak P 0 (aq e) o σ=some (.val v ai))(hn:ai.n≤N)(h:c_ P N rd ops l (e.put o.dst v) df ai CW):c_ P N rd ops (o::l) e df σ CW:=by
 refine .cons hw fun F ι a w Q k hl hF hi he hd hQ=>?_;refine⟨fun f _=>hF.fn f,?_⟩;rw[atq _ _ _ (eV hv (by simp))];obtain⟨u,w',ay,hr,h2,h3,h4⟩:=lr hi he.eval hv hn
 have key:wpOpsIn F 0 P ops Q (auv (k+1) l.length) (a.put o.dst u) w':=
  h F ay _ w' Q (k+1) hl (hF.mono h4.ext) h3 ((he.mono h4.ext).put h2 _) (hd.mono h4.ext|>fun x=>by cases o.dst<;>exact x) (fun ex e' ah hc=>(hQ ex e' ah hc).from hi h4 hn)
 rcases hr with hr|⟨hr,rfl⟩
 ·rw[hr,avr];exact key
 ·rw[hr,Oper.uponIn_skip];exact key
theorem c_.call{f:FuncId}{args:List IV}{RW:IV→St→Prop}(hw:aF o ops e=true)(hv:ak P 0 (aq e) o σ=some (.enter f args))(hc:dD P N f args σ RW)
 (h:∀v ai,RW v ai→ai.n≤N∧c_ P N rd ops l (e.put o.dst v) df ai CW):c_ P N rd ops (o::l) e df σ CW:=by
 refine .cons hw fun F ι a w Q k hl hF hi he hd hQ=>?_;refine⟨fun f _=>hF.fn f,?_⟩;rw[atq _ _ _ (eV hv (by simp))];obtain⟨us,hr,h3⟩:=lr hi he.eval hv;rw[hr,auZ];refine⟨hF.depth,(hF.calls (hc ι us w hi h3)).mono fun ed w' hR=>?_⟩;obtain⟨v,ai,qK,hR⟩:=hR;obtain⟨hn,h⟩:=h v ai qK;cases ed with
 |returned u=>
  obtain⟨ay,h2,h3,h4⟩:=hR;exact h F ay _ w' Q (k+1) hl (hF.mono h4.ext) h3 ((he.mono h4.ext).put h2 _) (hd.mono h4.ext|>fun x=>by cases o.dst<;>exact x) (fun ex e' ah hc=>(hQ ex e' ah hc).from hi h4 hn)
 |outgrown=>exact hR.elim
 |panicked chain=>exact hR.elim
theorem dD.HK{f:FuncId}{args:List IV}{v:IV}(h:eK P 0 f args σ v ah)(hn:ah.n≤N):dD P N f args σ (fun v1 ai=>v1=v∧ai=ah):=
 fun ι us w hi hr=>(h.2 N hn ι us w hi hr).mono fun ed w' hR=>⟨v,ah,⟨rfl,rfl⟩,hR⟩
theorem dD.body{f:FuncId}{fn:Func}{c:Code}{args:List IV}{RW:IV→St→Prop}(bA:P.funcs[f]?=some fn)(hb:fn.body=some c)(hlen:args.length≤fn.ntmps)
 (h:cT P N none c (bY args fn.ntmps) [] σ (fun ex e1 ai=>(ex=.normal∨ex=.ret)∧ai.n≤N∧∃v,bt P fn e1 ai=some v∧RW v ai)):dD P N f args σ RW:=by
 intro ι us w hi hr;refine callsIn_of_wp_marks bA hb trivial ?_;refine h asz ι {tmps:=us.toArray++atr (fn.ntmps- us.toArray.size) Go.undef,defers:=[]} w _ (.inl ⟨rfl,rfl⟩) hi (ud hr hlen) trivial fun ex e1 ai hc=>?_;obtain⟨hex,hn,v,hv,qK⟩:=hc;intro a1 w1 bN dU i1 l1 cg d1 p1
 have:∀u,l_ bN none u→LeavesInM asz 0 P fn a1.tmps (fun ed w'=>∃v ah,RW v ah∧wv N 0 ι w σ v ah ed w') a1.defers u w1:=fun u hu=>
  oY (S:=Self.none) (ro:=0) (k_ (P:=P)).1 (k_ (P:=P)).2 rfl d1 hu i1 hn fun w2 mL u2 i2 l2 qF=>by
   rw[show u2=_ from qF];obtain⟨u,k1,k2⟩:=pK hv i2 (cg.mono l2.ext);exact⟨u,k1,v,ai,qK,mL,k2,i2,Le.then hi hn l1 l2⟩
 rcases hex with rfl|rfl
 ·exact this _ rfl
 ·exact this _ rfl
def wA(P:Program)(N:Nat)(f:FuncId)(args:List IV)(σ:St)(RW PW:IV→St→Prop):Prop:=
 ∀ι us w,Inv N ι σ w→ax ι args us→CallsIn asz 0 P f us.toArray w (fun ed w'=>(∃v ah,RW v ah∧wv N 0 ι w σ v ah ed w')∨(∃v ah,PW v ah∧Hx N 0 ι w σ v ah ed w'))
theorem dD.toX{f:FuncId}{args:List IV}{RW PW:IV→St→Prop}(h:dD P N f args σ RW):wA P N f args σ RW PW:=
 fun ι us w hi hr=>(h ι us w hi hr).mono fun _ _ hR=>.inl hR
theorem c_.panic{v:IV}(hw:aF o ops e=true)(hv:ak P 0 (aq e) o σ=some (.bC v))(h:CW (.bC v) e σ):c_ P N rd ops (o::l) e df σ CW:=by
 refine .cons hw fun F ι a w Q k hl hF hi he hd hQ=>?_;refine⟨fun f _=>hF.fn f,?_⟩;rw[atq _ _ _ (eV hv (by simp))];obtain⟨u,hr,h3⟩:=lr hi he.eval hv;rw[hr,Oper.uponIn_panic];exact hQ _ _ _ h a w ι [{v:=u,recovered:=false}] hi (Le.refl _ _ _ _) he hd ⟨u,rfl,h3⟩
theorem c_.Up{f:FuncId}{args:List IV}{RW PW:IV→St→Prop}(hw:aF o ops e=true)(hv:ak P 0 (aq e) o σ=some (.enter f args))(hc:wA P N f args σ RW PW)
 (h:∀v ai,RW v ai→ai.n≤N∧c_ P N rd ops l (e.put o.dst v) df ai CW)(hp:∀v ai,PW v ai→CW (.bC v) e ai):c_ P N rd ops (o::l) e df σ CW:=by
 refine .cons hw fun F ι a w Q k hl hF hi he hd hQ=>?_;refine⟨fun f _=>hF.fn f,?_⟩;rw[atq _ _ _ (eV hv (by simp))];obtain⟨us,hr,h3⟩:=lr hi he.eval hv;rw[hr,auZ];refine⟨hF.depth,(hF.calls (hc ι us w hi h3)).mono fun ed w' hR=>?_⟩;rcases hR with⟨v,ai,qK,hR⟩|⟨v,ai,FJ,hR⟩
 ·obtain⟨hn,h⟩:=h v ai qK;cases ed with
  |returned u=>
   obtain⟨ay,h2,h3,h4⟩:=hR;exact h F ay _ w' Q (k+1) hl (hF.mono h4.ext) h3 ((he.mono h4.ext).put h2 _) (hd.mono h4.ext|>fun x=>by cases o.dst<;>exact x) (fun ex e' ah hc=>(hQ ex e' ah hc).from hi h4 hn)
  |outgrown=>exact hR.elim
  |panicked chain=>exact hR.elim
 ·cases ed with
  |returned u=>exact hR.elim
  |outgrown=>exact hR.elim
  |panicked chain=>
   obtain⟨ay,h4,h5,h6⟩:=hR;exact hQ _ _ _ (hp v ai FJ) a w' ay chain h5 h6 (he.mono h6.ext) (hd.mono h6.ext) h4
def xg(σ:St)(id:Nat)(x:IV):St:=((σ.add (.cells [.int 0] 0 0)).put σ.n (.cells [x] 0 0)).put id (.cells [x] 0 0)
def Dz(P:Program)(g:FuncId)(t:TypeId):Prop:=
 ∀(N:Nat) (cl:IV) (f:FuncId) (as:List IV) (σ:St) (RW PW RQ:IV→St→Prop),gd P cl []=some (.enter f as)→σ.n+1≤N→wA P N f as (σ.add (.cells [.int 0] 0 0)) RW PW→
  (∀v c7,RW v c7→c7.at σ.n=some (.cells [.int 0] 0 0)∧c7.n≤N∧RQ (.int 0) (c7.put σ.n (.cells [.int 0] 0 0)))→
  (∀v c7,PW v c7→∃u,v=.cY t (.agg [.raw u])∧ab (.raw u)=true∧c7.at σ.n=some (.cells [.int 0] 0 0)∧c7.n+1≤N∧σ.n<c7.n∧RQ (.raw u) (xg c7 σ.n (.raw u)))→dD P N g [cl] σ RQ
theorem wA.body{f:FuncId}{fn:Func}{c:Code}{args:List IV}{RW PW:IV→St→Prop}(bA:P.funcs[f]?=some fn)(hb:fn.body=some c)(hlen:args.length≤fn.ntmps)
 (h:cT P N none c (bY args fn.ntmps) [] σ (fun ex e1 ai=>ai.n≤N∧(((ex=.normal∨ex=.ret)∧∃v,bt P fn e1 ai=some v∧RW v ai)∨∃v,ex=.bC v∧PW v ai))):wA P N f args σ RW PW:=by
 intro ι us w hi hr;refine callsIn_of_wp_marks bA hb trivial ?_;refine h asz ι {tmps:=us.toArray++atr (fn.ntmps- us.toArray.size) Go.undef,defers:=[]} w _ (.inl ⟨rfl,rfl⟩) hi (ud hr hlen) trivial fun ex e1 ai hc=>?_;obtain⟨hn,hc⟩:=hc;intro a1 w1 bN dU i1 l1 cg d1 p1;rcases hc with⟨hex,v,hv,qK⟩|⟨v,rfl,FJ⟩
 ·have:∀u,l_ bN none u→LeavesInM asz 0 P fn a1.tmps (fun ed w'=>(∃v ah,RW v ah∧wv N 0 ι w σ v ah ed w')∨(∃v ah,PW v ah∧Hx N 0 ι w σ v ah ed w')) a1.defers u w1:=fun u hu=>
   oY (S:=Self.none) (ro:=0) (k_ (P:=P)).1 (k_ (P:=P)).2 rfl d1 hu i1 hn fun w2 mL u2 i2 l2 qF=>by
    rw[show u2=_ from qF];obtain⟨u,k1,k2⟩:=pK hv i2 (cg.mono l2.ext);exact⟨u,k1,.inl ⟨v,ai,qK,mL,k2,i2,Le.then hi hn l1 l2⟩⟩
  rcases hex with rfl|rfl
  ·exact this _ rfl
  ·exact this _ rfl
 ·have:∀u,l_ bN (some v) u→LeavesInM asz 0 P fn a1.tmps (fun ed w'=>(∃v ah,RW v ah∧wv N 0 ι w σ v ah ed w')∨(∃v ah,PW v ah∧Hx N 0 ι w σ v ah ed w')) a1.defers u w1:=fun u hu=>
   oY (S:=Self.none) (ro:=0) (k_ (P:=P)).1 (k_ (P:=P)).2 rfl d1 hu i1 hn fun w2 mL u2 i2 l2 qF=>by
    obtain⟨x,rfl,hx⟩:=qF;exact .inr ⟨v,ai,FJ,mL,⟨x,rfl,hx⟩,i2,Le.then hi hn l1 l2⟩
  obtain⟨u,rfl,hu⟩:=p1;exact this _ ⟨u,rfl,hu⟩
theorem dC.CI{new:Bool}{f:FuncId}{xs:List IV}{z:IV}{RW:IV→St→Prop}{N:Nat}(h:dD P N f xs ⟨0,.lf⟩ RW)(hc:∀v ah,RW v ah→Can (!new) ah v z):dC P false new f xs z:=by
 intro M w us hM hr;refine(h (eW M) us w (EA hM) hr).mono fun e w' hR=>?_;obtain⟨v,ah,qK,hR⟩:=hR;cases e with
 |returned u=>
  obtain⟨ay,h1,h2,h3⟩:=hR;exact⟨rfl,RN hM (hc v ah qK) h1 h2 h3⟩
 |panicked ch=>exact hR.elim
 |outgrown=>exact hR.elim
end Go.Ev
namespace Go.Ev
variable{P:Program}{N:Nat}{ι:Io}{w:World}{σ ah:St}{e:Env}{rd:Option Nat}{fn:FuncId}{df:List Df}{CW:jx}{ops:Array Oper}{o:Oper}{l:List Oper}
theorem afa(t m:Nat)(h:m<1000000):((t+1)*1000000+m) % 1000000=m:=by omega
theorem abP(t m:Nat):1000000≤(t+1)*1000000+m:=by omega
theorem abQ{kt:Nat}(h:1000000≤kt)(h0:kt=0):False:=by omega
theorem DA{kt:Nat}(h:1000000≤kt):gk kt=true:=by
 unfold gk;rw[asP];exact .inr (by simpa using h)
theorem Left.init(ds:List IV):Left ds [] ds:=by
 refine⟨ds.zipIdx,by simp,by simp[List.zipIdx_map_snd,List.nodup_range'],fun p hp=>⟨?_,by simp⟩,fun i hi _=>?_⟩
 ·obtain⟨a,b⟩:=p;exact atd.1 hp
 ·exact⟨(ds[i],i),atd.2 (ar4 hi),rfl⟩
theorem Left.nil{ds:List IV}{seen:List Nat}(h:Left ds seen []):∀i,i<ds.length→i∈seen:=by
 obtain⟨ps,h1,_,_,h4⟩:=h;intro i hi
 have:ps=[]:=by
  cases ps with
  |nil=>rfl
  |cons=>cases h1
 subst this;refine asM fun hn=>?_;obtain⟨p,hp,_⟩:=h4 i hi hn;cases hp
theorem vM{α β:Type}(f:α→β):∀(l:List α) (i:Nat),(l.map f).eraseIdx i=(l.eraseIdx i).map f
 |[],_=>rfl
 |_::_,0=>rfl
 |_::l,i+1=>by simp[vM f l i]
theorem Left.empty{ds:List IV}{seen:List Nat}{rem:List IV}(h:Left ds seen rem)(hs:∀i,i<ds.length→i∈seen):rem=[]:=by
 obtain⟨ps,rfl,_,h3,_⟩:=h;cases ps with
 |nil=>rfl
 |cons p ps=>
  obtain⟨h1,h2⟩:=h3 p (by simp);exact absurd (hs _ (ar5.1 h1).1) h2
theorem NI{p:Nat→Nat→Prop}:∀(n:Nat),(∀i,i<n→∃b,∀N,b≤N→p i N)→∃b,∀i,i<n→∀N,b≤N→p i N
 |0,_=>⟨0,fun i hi=>absurd hi (Nat.not_lt_zero _)⟩
 |n+1,h=>by
  obtain⟨b,hb⟩:=NI n fun i hi=>h i (by omega);obtain⟨c,hc⟩:=h n (by omega);refine⟨max b c,fun i hi N hN=>?_⟩;by_cases he:i=n
  ·subst he;exact hc N (by omega)
  ·exact hb i (by omega) N (by omega)
theorem Left.has{ds:List IV}{seen:List Nat}{rem:List IV}(h:Left ds seen rem){i:Nat}(hi:i<ds.length)(hn:i∉seen):∃(j:Nat) (y:IV),rem[j]?=some y∧ds[i]?=some y∧Left ds (seen++[i]) (rem.eraseIdx j):=by
 obtain⟨ps,rfl,h2,h3,h4⟩:=h;obtain⟨p,hp,rfl⟩:=h4 i hi hn;obtain⟨j,hj⟩:=ava.1 hp;refine⟨j,p.1,by simp[hj],(h3 p hp).1,ps.eraseIdx j,by rw[vM],?_,fun q hq=>?_,fun i hi hn=>?_⟩
 ·rw[←vM];exact h2.sublist (List.eraseIdx_sublist _ _)
 ·obtain⟨k,hk,hkq⟩:=avA.1 hq;have DB:=ash hkq;refine⟨(h3 q DB).1,?_⟩;simp only[asE,atM,not_or];refine⟨(h3 q DB).2,fun he=>hk ?_⟩;have a1:(ps.map (·.2))[k]?=some p.2:=by simp[hkq,he]
  have a2:(ps.map (·.2))[j]?=some p.2:=by simp[hj]
  have oG:=(ar5.1 a1).1;exact(List.getElem?_inj oG h2).1 (a1.trans a2.symm)
 ·simp only[asE,atM,not_or]at hn;obtain⟨q,hq,rfl⟩:=h4 i hi hn.1;obtain⟨k,hk⟩:=ava.1 hq;refine⟨q,avA.2 ⟨k,fun he=>?_,hk⟩,rfl⟩;subst he;rw[hj]at hk;cases hk;exact hn.2 rfl
theorem Jp(n:Nat)(hn:0<n)(w:World):∃i w',i<n∧(choose (.mapNext n)).run P w=.ok i w'∧(w'=w∨w'={w with drawn:=w.drawn+1}):=by
 by_cases h:n≤1
 ·exact⟨0,w,hn,by simp[choose,atX,at4,h],.inl rfl⟩
 ·exact⟨w.tape w.drawn (.mapNext n) % n,_,Nat.mod_lt _ hn,by simp[choose,atX,at4,h,Question.cut],.inr rfl⟩
theorem Q5{r m:Nat}{res:Array MapEntry}{seen:Array Nat}{n clock:Nat}{t:TypeId}(hh:w.heap[r]?=some (.mapIter (some m) n seen n))(FC:w.heap[m]?=some (.map res clock))(hn:clock=n)(hb:∀e∈res,e.born<n):
 ∃w0,(w0=w∨w0={w with drawn:=w.drawn+1})∧(((∀e∈res,e.born∈seen)∧(aul (.pointer (some ⟨r,0,none⟩)) false t).run P w=.ok (.tuple #[.bool false]) w0)∨
  ∃e∈res,e.born∉seen∧(aul (.pointer (some ⟨r,0,none⟩)) false t).run P w=.ok (.tuple #[.bool true,e.key,e.val]) {w0 with heap:=w0.heap.setIfInBounds r (.mapIter (some m) n (seen.push e.born) n)}):=by
 subst hn
 have bJ:¬((!seen.isEmpty&& !res.isEmpty&&res.all (fun e=>decide (e.born≥clock)))=true):=by
  intro hc;simp only[ar6,Array.all_eq_true_iff_forall_mem,decide_eq_true_eq]at hc;have bc:res.size≠0:=by have:=hc.1.2;simpa using this
  have:=hc.2 (res[0]'(by omega)) (by simp)
  have:=hb (res[0]'(by omega)) (by simp)
  omega
 have hold:∀left:Array MapEntry,(∀e∈left,e∈res)→left.filter (fun e=>decide (e.born<clock))=left:=fun left hl=>by
  rw[Array.filter_eq_self];intro a ha;simp[hb a (hl a ha)]
 have dG:∀left:Array MapEntry,(∀e∈left,e∈res)→left.filter (fun e=>decide (e.born≥clock))= #[]:=fun left hl=>by
  rw[Array.filter_eq_empty_iff];intro a ha;have:=hb a (hl a ha);simp;omega
 have e_:∀e∈res.filter (fun e=> !seen.contains e.born),e∈res:=fun e he=>(avw.1 he).1;generalize Mq:res.filter (fun e=> !seen.contains e.born)=left at e_;by_cases hl:left= #[]
 ·subst hl;refine⟨w,.inl rfl,.inl ⟨fun e he=>?_,?_⟩⟩
  ·have h1:e∉res.filter (fun e=> !seen.contains e.born):=by rw[Mq];simp
   refine asM fun hn=>h1 (avw.2 ⟨he,?_⟩);simpa using hn
  ·simp only[aul,asa,bO (P:=P) hh (by simp),ar8,bO (P:=P) FC (by simp)];rw[if_neg bJ];simp only[asa,Mq,hold #[] e_,dG #[] e_];simp[choose,atX,at4]
 ·have aK:0<(left.map some).size:=by
   have:left.size≠0:=by simpa using hl
   simp;omega
  obtain⟨c,w0,hc,fG,tT⟩:=Jp (P:=P) (left.map some).size aK w;have xA:c<left.size:=by simpa using hc
  have xD:left[c]∈left:=by simp
  refine⟨w0,tT,.inr ⟨left[c],e_ _ xD,?_,?_⟩⟩
  ·have:left[c]∈res.filter (fun e=> !seen.contains e.born):=by rw[Mq];exact xD
   have:=(avw.1 this).2;simpa using this
  ·have Ht:w0.heap[r]?=some (.mapIter (some m) clock seen clock):=by
    rcases tT with rfl|rfl<;>exact hh
   have hem:left.isEmpty=false:=by simpa using hl
   simp only[aul,asa,bO (P:=P) hh (by simp),ar8,bO (P:=P) FC (by simp)];rw[if_neg bJ];simp only[asa,Mq,hold left e_,dG left e_,hem,Bool.false_eq_true,if_false,Array.empty_append,Array.append_empty,fG,ar8];have:(left.map some)[c]?=some (some left[c]):=by simp[xA]
   rw[this];simp only[asa,eD (P:=P) Ht (by simp),ar8,Sem.run_pure]
theorem c_.aiY{it:Operand}{id m:Nat}{es:List (Value×IV×Nat)}{seen:List Nat}{clock:Nat}(hw:aF o ops e=true)(ho:o.op=.next it false)(hit:aq e it=.ptr id 0 0 1)
 (az:σ.at id=some (.jg (some m) es.length seen es.length))(M9:σ.at m=some (.map es clock))(hc:Canon es clock)(hN:σ.n≤N)
 (h0:(∀i,i<es.length→i∈seen)→c_ P N rd ops l (e.put o.dst (.av [.bool false])) df σ CW)
 (h1:∀i en,es[i]?=some en→i∉seen→c_ P N rd ops l (e.put o.dst (.av [.bool true,lift en.1,en.2.1])) df (σ.put id (.jg (some m) es.length (seen++[i]) es.length)) CW):c_ P N rd ops (o::l) e df σ CW:=by
 refine .cons hw fun F ι a w Q k hl hF hi he hd hQ=>?_;refine⟨fun f _=>hF.fn f,?_⟩;rw[atq _ _ _ (fun c hc=>by rw[ho]at hc;cases hc)];have hr:=he.eval it;rw[hit]at hr;generalize hq:a.eval it=q at hr;cases hr with
 |ptr _ _ _ _ lo yH hle=>
  have aa:lo.b<w.heap.size:=hi.jA id _ ⟨_,_,yH,rfl⟩;obtain⟨l',mr,cd,hh,lm,we,rfl⟩:=hi.obj id _ az;rw[yH]at cd;cases cd;obtain⟨lm',res,oq,FC,oF⟩:=hi.obj m _ M9;rw[we]at oq;cases oq;have eu:=hc.1
  have Uq:∀(i:Nat) (r:MapEntry),res[i]?=some r→i<es.length∧r.born=i:=by
   intro i r hr;have cU:i<es.length:=by have:=(Array.getElem?_eq_some_iff.1 hr).1;rw[oF.1];exact this
   exact⟨cU,((oF.2 i es[i] r (ar4 cU) hr).2.2).trans (hc.2 i _ (ar4 cU))⟩
  have p7:∀r∈res,∃i,res[i]?=some r:=fun r hr=>by
   obtain⟨i,hi,rfl⟩:=Array.mem_iff_getElem.1 hr;exact⟨i,asy hi⟩
  obtain⟨w0,tT,eo⟩:=Q5 (P:=P) (t:=o.type) hh FC eu (fun r hr=>by
   obtain⟨i,hi⟩:=p7 r hr;have:=Uq i r hi;omega)
  have tS:Inv N ι σ w0:=by rcases tT with rfl|rfl;exact hi;exact hi.same rfl
  have afb:Le 0 ι w σ ι w0 σ:=by rcases tT with rfl|rfl;exact Le.refl _ _ _ _;exact Le.same rfl rfl rfl rfl
  rcases eo with⟨aT,fG⟩|⟨r,hrm,HL,fG⟩
  ·have hx:(execOp a.eval o).run P w=.ok (.value (.tuple #[.bool false])) w0:=by
    simp only[execOp,ho,hq];simp only[asa,axI,fG];rfl
   rw[hx,avr];refine h0 (fun i hi=>?_) F ι _ w0 Q (k+1) hl hF tS (he.put (pJ (ax.cons (.raw _) ax.nil)) _) (by cases o.dst<;>exact hd) (fun ex e' ah hc=>(hQ ex e' ah hc).from hi afb hN);have cU:i<res.size:=by rw[←oF.1];exact hi
   have:=aT res[i] (by simp);rw[(Uq i res[i] (asy cU)).2]at this;simpa using this
  ·obtain⟨i,RR⟩:=p7 r hrm;obtain⟨Ar,MY⟩:=Uq i r RR
   have hx:(execOp a.eval o).run P w=.ok (.value (.tuple #[.bool true,r.key,r.val])) {w0 with heap:=w0.heap.setIfInBounds lo.b (.mapIter (some lm.b) es.length (seen.toArray.push r.born) es.length)}:=by
    simp only[execOp,ho,hq];simp only[asa,axI,fG];rfl
   rw[hx,avr];obtain⟨hk,hv,hb⟩:=oF.2 i es[i] r (ar4 Ar) RR;have kS:lo.b<w0.heap.size:=by rcases tT with rfl|rfl<;>exact aa
   obtain⟨r1,r2⟩:=tS.j2 (ro:=0) (eF:=.jg (some m) es.length (seen++[i]) es.length) (go:=.mapIter (some lm.b) es.length (seen.toArray.push r.born) es.length) az (Nat.zero_le _) yH ⟨lo,some lm.b,yH,by simp[kS,MY],lm,we,rfl⟩;have NJ:=Le.then hi hN afb r2;refine h1 i es[i] (ar4 Ar) (by rw[MY]at HL;simpa using HL) F ι _ _ Q (k+1) hl hF r1 (he.put ?_ _) (by cases o.dst<;>exact hd) (fun ex e' ah hc=>(hQ ex e' ah hc).from hi NJ hN);rw[←hk];exact pJ (ax.cons (.raw _) (ax.cons (Rv.lift _) (ax.cons hv ax.nil)))
end Go.Ev
namespace Go.Ev
attribute [local instance] ae8
variable{P:Program}{ro:Nat}{σ:St}{ρ:Operand→IV}{o:Oper}{out:ez}
structure jE where
 nt:Nat
 cu:List Nat
 emp:List Nat
 tg:List (Nat×Nat):=[]
 ld:List (Nat×Nat×Nat×Nat):=[]
def vN(l:List Nat)(t:Nat):Bool:=l.any (ase t)
def HM(l:List Nat):Operand→Bool
 |.tmp t=>vN l t
 |_=>false
def jE.del(T:jE):Option Nat→jE
 |some d=>⟨T.nt,T.cu.filter (fun t=> !ase t d),T.emp.filter (fun t=> !ase t d),T.tg.filter (fun p=> !ase p.1 d),T.ld.filter (fun p=> !ase p.2.1 d&& !ase p.2.2.1 d)⟩
 |none=>T
def NK(T:jE)(o:Oper):jE:=
 let D:=T.del o.dst
 match o.dst with
 |some d=>if !as_ d T.nt then D else match o.op with
  |.fieldAddr _ x _=>if HM T.cu x then{D with cu:=d::D.cu}else D
  |.buildSlice _ 0 _=>if o.guard.isNone then{D with emp:=d::D.emp}else D
  |_=>D
 |_=>D
def EG(l:List (Nat×Nat))(t:Nat):Option Nat:=
 match l with
 |[]=>none
 |(a,h)::l=>if ase a t then some h else EG l t
def NL(T:jE)(o:Oper):List (Nat×Nat):=
 match o.guard,o.dst,o.op with
 |none,some d,.fieldAddr _ (.tmp x) _=>(match EG T.tg x with
  |some h=>if as_ d T.nt then(d,h)::(T.del o.dst).tg else(T.del o.dst).tg
  |none=>(T.del o.dst).tg)
 |_,_,_=>(T.del o.dst).tg
def NM(T:jE)(o:Oper)(j:Nat):List (Nat×Nat×Nat×Nat):=
 match cZ o with
 |.pure=>(T.del o.dst).ld
 |.load=>(match o.guard,o.dst,o.op with
  |none,some d,.load _ (.tmp a)=>(match EG T.tg a with
   |some h=>if as_ d T.nt&& !ase a d then(j,a,d,h)::(T.del o.dst).ld else(T.del o.dst).ld
   |none=>(T.del o.dst).ld)
  |_,_,_=>(T.del o.dst).ld)
 |_=>[]
def FK(T:jE)(o:Oper)(j:Nat):jE:={NK T o with tg:=NL T o,ld:=NM T o j}
def Gv(pl:dx)(j:Nat):Bool:=
 (atI j).all fun i=>ast (pl.bT.getD j 0) i||(match pl.kinds.getD i .effect with|.alloc|.effect|.call=>false|_=>true)
def afc(pl:dx)(j:Nat):Bool:=
 (atI j).all fun i=>ast (pl.bT.getD j 0) i||(match pl.kinds.getD i .effect with|.effect=>false|_=>true)
def vO(pl:dx)(j:Nat):Bool:=
 (atI j).all fun i=>ast (pl.bT.getD j 0) i||(match pl.kinds.getD i .effect with|.pure=>true|_=>false)
def Jq(o:Oper):Option Operand:=
 match o.op with
 |.call {callee:=.builtin .append,args,.. }=>args.toList.head?
 |_=>none
def Jr(P:Program)(o:Oper):Bool:=
 match o.op with
 |.call {callee:=.builtin .len,argTypes,.. }=>match(argTypes[0]?).bind P.underlying with
  |some (.slice _)|some .string=>true
  |_=>false
 |_=>false
def DC(pl:dx)(T:jE)(o:Oper)(j:Nat):Bool:=
 match o.guard,o.op with
 |none,.store _ (.tmp a) _=>(match EG T.tg a with
  |some g=>Gv pl j&&(atI j).all fun i=>ast (pl.bT.getD j 0) i||(match pl.kinds.getD i .effect with
   |.load=>T.ld.any fun p=>ase p.1 i&& !ase p.2.2.2 g
   |.effect=>false
   |_=>true)
  |none=>false)
 |_,_=>false
def kA(P:Program)(pl:dx)(T:jE)(o:Oper)(j:Nat):Bool:=
 match pl.kinds.getD j .effect with
 |.pure=>cZ o==.pure
 |.alloc=>cZ o==.alloc&&true
 |.load=>cZ o==.load&&(Gv pl j||(afc pl j&&(Jr P o||match o.op with|.load _ a=>HM T.cu a|_=>false)))
 |.call=>cZ o==.call&&Gv pl j&&(Ao o||(match Jq o with|some a=>HM T.emp a|none=>false))
 |.effect=>vO pl j||DC pl T o j
def mA(P:Program)(pl:dx):List (Oper×Nat)→jE→Bool
 |[],_=>true
 |(o,j)::l,T=>kA P pl T o j&&mA P pl l (FK T o j)
def Z8(n0:Nat)(x:IV):Prop:=(∃id off ep ext,x=.ptr id off ep ext∧id<n0)∨(∃cs,x=.kO cs)∨x=.undef
structure lN(n0:Nat)(e:Env)(T:jE):Prop where
 n:e.n=T.nt
 cu:∀t,vN T.cu t=true→Z8 n0 (e.at t)
 emp:∀t,vN T.emp t=true→e.at t=.emp
theorem zP{l:List Nat}{d t:Nat}(h:vN (l.filter fun t=> !ase t d) t=true):vN l t=true∧t≠d:=by
 unfold vN at h⊢;rw[avJ]at h⊢;obtain⟨x,hx,hxt⟩:=h;obtain⟨h1,h2⟩:=asK.1 hx;have:=asd hxt;subst this;exact⟨⟨t,h1,by simp⟩,fun h=>by subst h;simp at h2⟩
theorem yQ{l:List Nat}{d t:Nat}(h:vN (d::l) t=true):t=d∨vN l t=true:=by
 unfold vN at h⊢;simp only[List.any_cons,asP]at h;exact h.imp (fun h=>asd h) id
theorem fk{e:Env}{d t:Nat}{v:IV}(h:t≠d):(e.put (some d) v).at t=e.at t:=by
 unfold Env.put Env.at;simp only;split
 ·rw[T.fQ,if_neg (Ne.symm h)]
 ·rfl
theorem dH{e:Env}{d:Nat}{v:IV}(h:d<e.n):(e.put (some d) v).at d=v:=by
 unfold Env.put Env.at;simp only;rw[if_pos (by simpa using h),T.fQ,if_pos rfl];rfl
theorem afd(e:Env)(d:Option Nat)(v:IV):(e.put d v).n=e.n:=by
 unfold Env.put;split
 ·rfl
 ·split<;>rfl
theorem lN.del{n0:Nat}{e:Env}{T:jE}(h:lN n0 e T)(d:Option Nat)(v:IV):lN n0 (e.put d v) (T.del d):=by
 cases d with
 |none=>exact h
 |some d=>
  refine⟨by rw[afd];exact h.n,fun t ht=>?_,fun t ht=>?_⟩
  ·obtain⟨h1,h2⟩:=zP ht;rw[fk h2];exact h.cu t h1
  ·obtain⟨h1,h2⟩:=zP ht;rw[fk h2];exact h.emp t h1
theorem KM{n0:Nat}{e:Env}{T:jE}(h:lN n0 e T){x:Operand}(hx:HM T.cu x=true):Z8 n0 (aq e x):=by
 cases x with
 |tmp t=>exact h.cu t hx
 |_=>cases hx
theorem WX{n0:Nat}{e:Env}{T:jE}(h:lN n0 e T){x:Operand}(hx:HM T.emp x=true):aq e x=.emp:=by
 cases x with
 |tmp t=>exact h.emp t hx
 |_=>cases hx
theorem lN.aiZ{n0:Nat}{e:Env}{T:jE}{v:IV}{ai:St}(h:lN n0 e T)(hv:ak P ro (aq e) o σ=some (.val v ai)):lN n0 (e.put o.dst v) (NK T o):=by
 have hd:=h.del o.dst v;unfold NK;simp only;split
 ·rename_i d fS;split
  ·exact hd
  ·rename_i aa;have fR:d<e.n:=by rw[h.n];simpa using aa
   split
   ·rename_i s x f ho;split
    ·rename_i hx;refine⟨hd.n,fun t ht=>?_,hd.emp⟩;rcases yQ ht with rfl|ht
     ·rw[fS,dH fR];have ho:=KM h hx;unfold ak at hv;rw[‹o.op=_›]at hv;dsimp only at hv
      repeat' split at hv
      all_goals first|(cases hv;done)|skip
      ·rename_i he _;rcases ho with⟨bp,I8,ep',ext',h1,h2⟩|⟨cs,h1⟩|h1
       ·rw[he]at h1;cases h1;have:=aE hv;cases this;exact .inl ⟨_,_,_,_,rfl,h2⟩
       ·rw[he]at h1;cases h1
       ·rw[he]at h1;cases h1
      ·have:=aE hv;cases this;exact .inr (.inl ⟨_,rfl⟩)
     ·exact hd.cu t ht
    ·exact hd
   ·rename_i t0 parts ho;split
    ·refine⟨hd.n,hd.cu,fun t ht=>?_⟩;rcases yQ ht with rfl|ht
     ·rw[fS,dH fR];unfold ak at hv;rw[ho]at hv;dsimp only at hv
      repeat' split at hv
      all_goals first|(cases hv;done)|skip
      all_goals first|(have:=aE hv;cases this;rfl)|(exfalso;omega)|skip
     ·exact hd.emp t ht
    ·exact hd
   ·exact hd
 ·exact hd
theorem lN.ai0{n0:Nat}{e:Env}{T:jE}{v:IV}{ops:Array Oper}(h:lN n0 e T)(hw:(aF o ops e=false∧v=.undef)∨cZ o=.call∨cZ o=.effect):lN n0 (e.put o.dst v) (NK T o):=by
 have hd:=h.del o.dst v;unfold NK;simp only;split
 ·rename_i d fS;split
  ·exact hd
  ·rename_i aa;have fR:d<e.n:=by rw[h.n];simpa using aa
   rcases hw with⟨hw,rfl⟩|hw
   ·split
    ·split
     ·refine⟨hd.n,fun t ht=>?_,hd.emp⟩;rcases yQ ht with rfl|ht
      ·rw[fS,dH fR];exact .inr (.inr rfl)
      ·exact hd.cu t ht
     ·exact hd
    ·split
     ·rename_i hg;unfold aF at hw;rw[Option.isNone_iff_eq_none.1 hg]at hw;cases hw
     ·exact hd
    ·exact hd
   ·unfold cZ at hw;split
    ·rename_i ho;rw[ho]at hw;rcases hw with hw|hw<;>cases hw
    ·rename_i ho;rw[ho]at hw;rcases hw with hw|hw<;>cases hw
    ·exact hd
 ·exact hd
theorem Ur{n0:Nat}{e:Env}{t:TypeId}{a:Operand}{v:IV}{ai:St}(ho:o.op=.load t a)(ha:Z8 n0 (aq e a))(hv:ak P ro (aq e) o σ=some (.val v ai)){ah:St}(HD:∀id,id<n0→ah.at id=σ.at id)(fO:Nat):
 ak P fO (aq e) o ah=some (.val v ah):=by
 unfold ak at hv⊢;rw[ho]at hv⊢;dsimp only at hv⊢;rcases ha with⟨id,off,ep,ext,h1,h2⟩|⟨cs,h1⟩|h1
 ·rw[h1]at hv⊢;dsimp only at hv⊢;rw[HD id h2]
  repeat' split at hv
  all_goals first|(cases hv;done)|skip
  have:=aE hv;cases this
  simp_all[ret]
 ·rw[h1]at hv⊢;dsimp only at hv⊢
  repeat' split at hv
  all_goals first|(cases hv;done)|skip
  have:=aE hv;cases this
  simp_all[ret]
 ·rw[h1]at hv;simp only[IV.undef]at hv
  repeat' split at hv
  all_goals first|(cases hv;done)|skip
theorem Z9{e:Env}{v:IV}{ai:St}(h:Jr P o=true)(hv:ak P ro (aq e) o σ=some (.val v ai))(fO:Nat)(ah:St):ak P fO (aq e) o ah=some (.val v ah):=by
 unfold Jr at h;split at h<;>first|(cases h;done)|skip
 rename_i args ats ho
 have hl:∀x τ τ' u,oj P ats x τ=some u→oj P ats x τ'=some u:=by
  intro x τ τ' u hu;unfold oj at hu⊢;cases hq:(ats[0]?).bind P.underlying with
  |none=>rw[hq]at h;cases h
  |some td=>
   cases td<;>rw[hq]at h hu<;>first|(cases h;done)|skip
   all_goals
    cases x<;>first|exact hu|skip
    rename_i v;cases v<;>first|exact hu|(rename_i a b c;cases a<;>exact hu)
 simp only[ak,ho,du]at hv⊢;split at hv<;>first|(cases hv;done)|skip
 obtain⟨u,hu,hv⟩:=ar_.1 hv;cases hv;rw[hl _ _ ah _ hu];rfl
theorem afe{e:Env}{a:Operand}{v:IV}{ai:St}(hb:Jq o=some a)(ha:aq e a=.emp)(hv:ak P ro (aq e) o σ=some (.val v ai)):(∀fO,ak P fO (aq e) o σ=some (.val v ai))∧(ai=σ∨∃ob,ai=σ.add ob):=by
 unfold Jq at hb;split at hb<;>first|(cases hb;done)|skip
 rename_i args ats fT;unfold ak at hv⊢;rw[fT]at hv⊢;dsimp only at hv⊢;unfold du at hv⊢;split at hv
 ·split at hv<;>first|(cases hv;done)|skip
  rename_i s x bg
  have hs:s=.emp:=by
   cases hl:args.toList with
   |nil=>rw[hl]at hb;cases hb
   |cons y l=>
    rw[hl]at hb bg;simp only[List.head?_cons,ar7]at hb;subst hb;simp only[List.map_cons,as5]at bg;rw[←bg.1,ha]
  subst hs;unfold jZ at hv⊢
  repeat' split at hv
  all_goals first|(cases hv;done)|skip
  simp only[*];unfold eA at hv⊢;simp only at hv⊢;split at hv
  ·have:=aE hv;cases this;refine⟨fun _=>?_,.inl rfl⟩
   simp_all
  ·refine⟨fun _=>by simp_all,?_⟩;unfold ff at hv
   repeat' split at hv
   all_goals first|(cases hv;done)|skip
   have:=aE hv;cases this;exact .inr ⟨_,rfl⟩
 all_goals (first|(exfalso;simp_all;done)|(simp_all;done))
theorem lN.step{n0:Nat}{e:Env}{T:jE}{v:IV}{ai:St}(j:Nat)(h:lN n0 e T)(hv:ak P ro (aq e) o σ=some (.val v ai)):lN n0 (e.put o.dst v) (FK T o j):=
 have:=h.aiZ hv
 ⟨this.n,this.cu,this.emp⟩
theorem lN.skip{n0:Nat}{e:Env}{T:jE}{v:IV}{ops:Array Oper}(j:Nat)(h:lN n0 e T)(hw:(aF o ops e=false∧v=.undef)∨cZ o=.call∨cZ o=.effect):lN n0 (e.put o.dst v) (FK T o j):=
 have:=h.ai0 hw
 ⟨this.n,this.cu,this.emp⟩
structure sM(P:Program)(ops:Array Oper)(θ:Nat→Option Nat)(e:Env)(σ:St)(T:jE):Prop where
 tg:∀t h,(t,h)∈T.tg→∃id off ep ext,θ h=some id∧e.at t=.ptr id off ep ext
 ld:∀i a d h,(i,a,d,h)∈T.ld→∃p ty id off ep ext,ops[i]?=some p∧p.op=.load ty (.tmp a)∧p.dst=some d∧θ h=some id∧e.at a=.ptr id off ep ext∧ak P 0 (aq e) p σ=some (.val (e.at d) σ)
theorem yR:∀{l:List (Nat×Nat)} {t h:Nat},EG l t=some h→(t,h)∈l
 |[],_,_,h=>by cases h
 |(a,q)::l,t,h,hh=>by
  unfold EG at hh;split at hh
  ·rename_i hb;have:=asd hb;cases hh;subst this;simp
  ·exact atE _ (yR hh)
theorem NN{p:Oper}{ty:TypeId}{a:Operand}(hp:p.op=.load ty a){ρ Am:Operand→IV}(h:ρ a=Am a)(ro:Nat)(σ:St):ak P ro ρ p σ=ak P ro Am p σ:=by
 simp only[ak,hp,h]
theorem Z_{p:Oper}{ty:TypeId}{a:Operand}(hp:p.op=.load ty a){ρ:Operand→IV}{id off ep ext:Nat}{v:IV}{ai:St}(ha:ρ a=.ptr id off ep ext)(hv:ak P ro ρ p σ=some (.val v ai)){ah:St}(HD:ah.at id=σ.at id)(fO:Nat):ak P fO ρ p ah=some (.val v ah):=by
 unfold ak at hv⊢;rw[hp]at hv⊢;dsimp only at hv⊢;rw[ha]at hv⊢;dsimp only at hv⊢;rw[HD]
 repeat' split at hv
 all_goals first|(cases hv;done)|skip
 have:=aE hv;cases this
 simp_all[ret]
theorem aff{T:jE}{dst:Option Nat}{t h:Nat}(hm:(t,h)∈(T.del dst).tg):(t,h)∈T.tg∧dst≠some t:=by
 cases dst with
 |none=>exact⟨hm,by simp⟩
 |some d=>
  obtain⟨h1,h2⟩:=asK.1 hm;exact⟨h1,fun he=>by cases he;simp at h2⟩
theorem afg{T:jE}{dst:Option Nat}{i a d h:Nat}(hm:(i,a,d,h)∈(T.del dst).ld):(i,a,d,h)∈T.ld∧dst≠some a∧dst≠some d:=by
 cases dst with
 |none=>exact⟨hm,by simp,by simp⟩
 |some q=>
  obtain⟨h1,h2⟩:=asK.1 hm;exact⟨h1,fun he=>by cases he;simp at h2,fun he=>by cases he;simp at h2⟩
theorem yS{e:Env}{dst:Option Nat}{v:IV}{t:Nat}(h:dst≠some t):(e.put dst v).at t=e.at t:=by
 cases dst with
 |none=>rfl
 |some d=>exact fk fun he=>h (by rw[he])
theorem sM.NO{ops:Array Oper}{θ:Nat→Option Nat}{e:Env}{T:jE}(h:sM P ops θ e σ T)(dst:Option Nat)(v:IV):∀t q,(t,q)∈(T.del dst).tg→∃id off ep ext,θ q=some id∧(e.put dst v).at t=.ptr id off ep ext:=by
 intro t q hm;obtain⟨h1,h2⟩:=aff hm;rw[yS h2];exact h.tg t q h1
theorem sM.Gw{ops:Array Oper}{θ:Nat→Option Nat}{e:Env}{T:jE}(h:sM P ops θ e σ T)(dst:Option Nat)(v:IV):∀i a d q,(i,a,d,q)∈(T.del dst).ld→∃p ty id off ep ext,ops[i]?=some p∧p.op=.load ty (.tmp a)∧p.dst=some d∧θ q=some id∧(e.put dst v).at a=.ptr id off ep ext∧ak P 0 (aq (e.put dst v)) p σ=some (.val ((e.put dst v).at d) σ):=by
 intro i a d q hm;obtain⟨h1,h2,h3⟩:=afg hm;obtain⟨p,ty,id,off,ep,ext,g1,g2,g3,g4,g5,g6⟩:=h.ld i a d q h1;refine⟨p,ty,id,off,ep,ext,g1,g2,g3,g4,by rw[yS h2];exact g5,?_⟩;rw[yS h3,←g6];exact NN g2 (by show(e.put dst v).at a=e.at a;exact yS h2) _ _
theorem sM.step{ops:Array Oper}{θ:Nat→Option Nat}{n0:Nat}{e:Env}{T:jE}{v:IV}{ai:St}{j:Nat}(hj:ops[j]?=some o)(h:sM P ops θ e σ T)(hT:lN n0 e T)(hv:ak P ro (aq e) o σ=some (.val v ai)):sM P ops θ (e.put o.dst v) ai (FK T o j):=by
 refine⟨fun t q hm=>?_,fun i a d q hm=>?_⟩
 ·have hm:(t,q)∈NL T o:=hm;unfold NL at hm;split at hm
  ·rename_i d s x f hg fS fT;split at hm
   ·rename_i hh NP;split at hm
    ·rename_i aa;rcases asZ.1 hm with he|hm
     ·cases he;obtain⟨id,off,ep,ext,g1,g2⟩:=h.tg _ _ (yR NP);have hx:aq e (.tmp x)=.ptr id off ep ext:=g2;have fR:t<e.n:=by rw[hT.n];simpa using aa
      rw[fS,dH fR];unfold ak at hv;rw[fT]at hv;dsimp only at hv
      repeat' split at hv
      all_goals first|(cases hv;done)|skip
      ·rename_i he _;rw[hx]at he;cases he;have:=aE hv;cases this;exact⟨_,_,_,_,g1,rfl⟩
      ·rename_i he _;rw[hx]at he;cases he
     ·exact h.NO _ _ t q hm
    ·exact h.NO _ _ t q hm
   ·exact h.NO _ _ t q hm
  ·exact h.NO _ _ t q hm
 ·have hm:(i,a,d,q)∈NM T o j:=hm;unfold NM at hm;split at hm
  ·rename_i hk;obtain⟨rfl,_⟩:=Dv hk hv;exact h.Gw _ _ i a d q hm
  ·rename_i hk;obtain⟨rfl,mX⟩:=Dw hk hv;split at hm
   ·rename_i d' ty a' hg fS fT;split at hm
    ·rename_i hh NP;split at hm
     ·rename_i hc;rcases asZ.1 hm with he|hm
      ·cases he;simp only[ar6,asN]at hc;have bc:a≠d:=fun he=>by subst he;simp at hc
       have fR:d<e.n:=by rw[hT.n];simpa using hc.1
       obtain⟨id,off,ep,ext,g1,g2⟩:=h.tg _ _ (yR NP);have ha:(e.put o.dst v).at a=e.at a:=by rw[fS];exact fk bc
       refine⟨o,ty,id,off,ep,ext,hj,fT,fS,g1,by rw[ha];exact g2,?_⟩;rw[NN fT (Am:=aq e) (show(e.put o.dst v).at a=e.at a from ha),mX 0,fS,dH fR]
      ·exact h.Gw _ _ i a d q hm
     ·exact h.Gw _ _ i a d q hm
    ·exact h.Gw _ _ i a d q hm
   ·exact h.Gw _ _ i a d q hm
  ·cases hm
theorem sM.skip{ops:Array Oper}{θ:Nat→Option Nat}{e:Env}{T:jE}{v:IV}{ai:St}{j:Nat}(h:sM P ops θ e σ T)(hw:(aF o ops e=false∧ai=σ)∨cZ o=.call∨cZ o=.effect):sM P ops θ (e.put o.dst v) ai (FK T o j):=by
 have hgd:(aF o ops e=false∧ai=σ)→o.guard≠none:=fun hw hg=>by
  have:=hw.1;unfold aF at this;rw[hg]at this;cases this
 refine⟨fun t q hm=>?_,fun i a d q hm=>?_⟩
 ·have hm:(t,q)∈NL T o:=hm;unfold NL at hm;split at hm
  ·rename_i d s x f hg fS fT;rcases hw with hw|hw
   ·exact absurd hg (hgd hw)
   ·unfold cZ at hw;rw[fT]at hw;rcases hw with hw|hw<;>cases hw
  ·exact h.NO _ _ t q hm
 ·have hm:(i,a,d,q)∈NM T o j:=hm;unfold NM at hm;split at hm
  ·rename_i hk;rcases hw with⟨_,rfl⟩|hw
   ·exact h.Gw _ _ i a d q hm
   ·rw[hk]at hw;rcases hw with hw|hw<;>cases hw
  ·rename_i hk;rcases hw with hw|hw
   ·obtain⟨_,rfl⟩:=id hw;split at hm
    ·rename_i hg _ _;exact absurd hg (hgd hw)
    ·exact h.Gw _ _ i a d q hm
   ·rw[hk]at hw;rcases hw with hw|hw<;>cases hw
  ·cases hm
theorem WY{ty:TypeId}{a x:Operand}(ho:o.op=.store ty a x){ρ:Operand→IV}{id off ep ext:Nat}(ha:ρ a=.ptr id off ep ext){v:IV}{ai:St}(hv:ak P ro ρ o σ=some (.val v ai)):ai.n=σ.n∧∀bp,bp≠id→ai.at bp=σ.at bp:=by
 unfold ak at hv;rw[ho]at hv;dsimp only at hv;rw[ha]at hv;dsimp only at hv
 repeat' split at hv
 all_goals first|(cases hv;done)|skip
 all_goals
  have:=aE hv;cases this;exact⟨rfl,fun bp bc=>by rw[St.cJ,if_neg (Ne.symm bc)]⟩
theorem WZ{pl:dx}{T:jE}{j:Nat}(h:DC pl T o j=true):Gv pl j=true:=by
 unfold DC at h;split at h<;>first|(cases h;done)|skip
 split at h<;>first|(cases h;done)|skip
 simp only[ar6]at h;exact h.1
theorem EH{pl:dx}{j i:Nat}(h:Gv pl j=true)(hi:i<j)(hk:aU pl i=.alloc∨aU pl i=.effect∨aU pl i=.call):ast (pl.bT.getD j 0) i=true:=by
 have:=asl.1 h i (auP.2 hi);simp only[asP]at this;refine this.resolve_right fun hh=>?_;unfold aU at hk;rcases hk with hk|hk|hk<;>rw[hk]at hh<;>cases hh
theorem adA{pl:dx}{j i:Nat}(h:afc pl j=true)(hi:i<j)(hk:aU pl i=.effect):ast (pl.bT.getD j 0) i=true:=by
 have:=asl.1 h i (auP.2 hi);simp only[asP]at this;refine this.resolve_right fun hh=>?_;unfold aU at hk;rw[hk]at hh;cases hh
theorem RS{pl:dx}{j i:Nat}(h:vO pl j=true)(hi:i<j)(hk:aU pl i≠.pure):ast (pl.bT.getD j 0) i=true:=by
 have:=asl.1 h i (auP.2 hi);simp only[asP]at this;refine this.resolve_right fun hh=>hk ?_;unfold aU;split at hh
 ·assumption
 ·cases hh
theorem DD:∀(l:List Piece) (b:T Ob),(∀p∈l,p.hi≤p.lo)→l.foldl dc b=b
 |[],_,_=>rfl
 |p::l,b,h=>by
  rw[asI,kg b p (h p (aup ..))];exact DD l b fun q hq=>h q (atE _ hq)
theorem DE{n0:Nat}:∀(l:List Piece) (b:T Ob),(∀p∈l,n0≤p.lo)→∀id,id<n0→(l.foldl dc b).get id=b.get id
 |[],_,_,_,_=>rfl
 |p::l,b,h,id,hid=>by
  rw[asI,DE l _ (fun q hq=>h q (atE _ hq)) id hid,jT,if_neg];have:=h p (aup ..);omega
structure mB(pl:dx)(n0 j:Nat)(d:DS)(e:Env)(σ:St):Prop where
 e:d.e=e
 n:d.n=σ.n
 le:n0≤σ.n
 bs:∃i b rest,d.bs=(i,b)::rest∧(rest=[]∨(i<j∧aU pl i=.effect))∧d.aC.foldl dc b=σ.t∧b.WF
 aC:∀p∈d.aC,(p.hi≤p.lo∨(p.j<j∧(aU pl p.j=.alloc∨aU pl p.j=.call)))∧p.hi≤d.n∧n0≤p.lo
variable{ops:Array Oper}{pl:dx}{d:DS}{e e':Env}{ah:St}{j n0:Nat}
theorem uh{b:T Ob}(hs:mB pl n0 j d e σ)(ef:d.aC.foldl dc b=σ.t)(ho:Gv pl j=true):seen d.aC (pl.bT.getD j 0) b=σ.t:=by
 unfold seen;rw[sI _ _ fun p hp=>?_,ef];rcases(hs.aC p hp).1 with h|⟨h1,h2⟩
 ·exact .inr h
 ·exact .inl (EH ho h1 (h2.elim .inl fun h=>.inr (.inr h)))
theorem W0(h:vO pl j=true):Gv pl j=true:=by
 refine asl.2 fun i hi=>?_;have:=asl.1 h i hi;simp only[asP]at this⊢;refine this.imp id fun h=>?_;split at h
 ·rename_i hk;rw[hk]
 ·cases h
theorem FL{bits:Nat}{e:Env}{n:Nat}{aC:List Piece}{b:T Ob}{l:List (Oper×Nat)}(h:∀p i,(p,i)∈l→aU pl i=.load→ast bits i=true):recheck P pl ops bits e n aC b l=true:=by
 unfold recheck;rw[asl];rintro⟨p,q⟩ xL;simp only;split
 ·rename_i Al;rw[h p q xL Al];rfl
 ·rfl
theorem yU{U:Self}{ai:St}{v:IV}(hs:mB pl n0 j d e σ)(hk:aU pl j=.effect)(hw:aF o ops e=true)(gu:∀p i,(p,i)∈ops.toList.zipIdx.take j→(p,i)∈ops.toList.zipIdx∧i<j)(hA:vO pl j=true)
 (hx:jh P U ro e o σ=some (v,ai))(iZ:ai.t.WF)(hn:σ.n≤ai.n):∃d1,bL P U pl ro ops o j d=some d1∧mB pl n0 (j+1) d1 (e.put o.dst v) ai:=by
 obtain⟨i,b,rest,cK,fB,ef,jl⟩:=hs.bs;have ma:=uh hs ef (W0 hA);have dK:(⟨d.n,seen d.aC (pl.bT.getD j 0) b⟩:St)=σ:=by rw[ma,hs.n]
 refine⟨⟨e.put o.dst v,ai.n,(j,ai.t)::d.bs,d.aC.filter fun p=> !ast (pl.bT.getD j 0) p.j⟩,?_,⟨rfl,rfl,asr hs.le hn,⟨j,ai.t,d.bs,rfl,.inr ⟨by omega,hk⟩,?_,iZ⟩,fun p hp=>?_⟩⟩
 ·unfold bL;rw[cK];simp only;rw[hs.e,hw,if_pos rfl];have cz:pl.kinds.getD j .effect=.effect:=hk;rw[cz];simp only;rw[dK,hx];simp only;rw[if_pos (FL fun p q xL Al=>RS hA (gu p q xL).2 (by rw[Al];simp))]
 ·refine yM _ _ fun p hp hf=>?_;rcases(hs.aC p hp).1 with h|⟨h1,h2⟩
  ·exact h
  ·rw[EH (W0 hA) h1 (h2.elim .inl fun h=>.inr (.inr h))]at hf;cases hf
 ·have qA:=(asK.1 hp).1;obtain⟨h1,h2,h3⟩:=hs.aC p qA;exact⟨h1.imp id (fun h=>⟨by omega,h.2⟩),by rw[hs.n]at h2;exact asr h2 hn,h3⟩
theorem W4{T:jE}{θ:Nat→Option Nat}(W5:∀k k' id,θ k=some id→θ k'=some id→k=k')(hL:sM P ops θ e σ T){U:Self}{ai:St}{v:IV}(hs:mB pl n0 j d e σ)(hk:aU pl j=.effect)(hw:aF o ops e=true)(gu:∀p i,(p,i)∈ops.toList.zipIdx.take j→(p,i)∈ops.toList.zipIdx∧i<j)(hX:DC pl T o j=true)
 (hv:ak P ro (aq e) o σ=some (.val v ai))(iZ:ai.t.WF)(hn:σ.n≤ai.n):∃d1,bL P U pl ro ops o j d=some d1∧mB pl n0 (j+1) d1 (e.put o.dst v) ai:=by
 obtain⟨i,b,rest,cK,fB,ef,jl⟩:=hs.bs;have ma:=uh hs ef (WZ hX);have dK:(⟨d.n,seen d.aC (pl.bT.getD j 0) b⟩:St)=σ:=by rw[ma,hs.n]
 have hx:jh P U ro e o σ=some (v,ai):=by unfold jh;rw[hv]
 have ZT:∀p∈(d.aC.filter fun p=> !ast (pl.bT.getD j 0) p.j),p.hi≤p.lo:=fun p hp=>by
  obtain⟨lp,W6⟩:=asK.1 hp;rcases(hs.aC p lp).1 with h|⟨h1,h2⟩
  ·exact h
  ·rw[EH (WZ hX) h1 (h2.elim .inl fun h=>.inr (.inr h))]at W6;cases W6
 refine⟨⟨e.put o.dst v,ai.n,(j,ai.t)::d.bs,d.aC.filter fun p=> !ast (pl.bT.getD j 0) p.j⟩,?_,⟨rfl,rfl,asr hs.le hn,⟨j,ai.t,d.bs,rfl,.inr ⟨by omega,hk⟩,?_,iZ⟩,fun p hp=>?_⟩⟩
 ·unfold bL;rw[cK];simp only;rw[hs.e,hw,if_pos rfl];have cz:pl.kinds.getD j .effect=.effect:=hk;rw[cz];simp only;rw[dK,hx];simp only;rw[if_pos];unfold recheck;rw[asl];rintro⟨p,q⟩ xL;simp only;split
  ·rename_i Al;obtain⟨anD,WJ⟩:=gu p q xL;unfold DC at hX;split at hX<;>first|(cases hX;done)|skip
   rename_i ty a x hg fT;split at hX<;>first|(cases hX;done)|skip
   rename_i g NP;simp only[ar6,asl]at hX;have hq:=hX.2 q (auP.2 WJ);rw[asP]at hq;rcases hq with hq|hq
   ·rw[hq];rfl
   ·rw[Al]at hq;simp only[avJ,ar6,asN]at hq;obtain⟨⟨i',a',d',h'⟩,hm,cU,bc⟩:=hq;have:=asd cU;simp only at this;subst this;obtain⟨p',ty',id,off,ep,ext,g1,g2,g3,g4,g5,g6⟩:=hL.ld _ _ _ _ hm
    have hpp:p=p':=by
     have:=atd.1 anD;rw[at1]at this;rw[g1]at this;cases this;rfl
    subst hpp;obtain⟨id2,arT,ep2,arU,f1,f2⟩:=hL.tg _ _ (yR NP);obtain⟨e1,e2⟩:=WY fT (show aq e (.tmp a)=_ from f2) hv
    have ai1:id≠id2:=fun he=>by
     subst he;have:=W5 _ _ _ g4 f1;subst this;simp at bc
    have ai2:=Z_ g2 (show aq e (.tmp a')=_ from g5) g6 (e2 id ai1) ai.n
    have hse:seen (d.aC.filter fun p=> !ast (pl.bT.getD j 0) p.j) (pl.bT.getD i' 0) ai.t=ai.t:=by
     unfold seen;exact DD _ _ fun p hp=>ZT p (asK.1 hp).1
    rw[g3];simp only;unfold loadAt;rw[hse,ai2];simp[Sm.sm]
  ·rfl
 ·exact DD _ _ ZT
 ·have qA:=(asK.1 hp).1;obtain⟨h1,h2,h3⟩:=hs.aC p qA;exact⟨h1.imp id (fun h=>⟨by omega,h.2⟩),by rw[hs.n]at h2;exact asr h2 hn,h3⟩
theorem noX{T:jE}(h:DC pl T o j=true)(hn:(∃ro ρ f args,ak P ro ρ o σ=some (.enter f args))∨aF o ops e=false):False:=by
 unfold DC at h;split at h<;>first|(cases h;done)|skip
 rename_i ty a x hg fT;rcases hn with⟨ro,ρ,f,args,hn⟩|hn
 ·unfold ak at hn;rw[fT]at hn;dsimp only at hn
  repeat' split at hn
  all_goals first|(cases hn;done)|skip
  all_goals (have:=aE hn;cases this)
 ·unfold aF at hn;rw[hg]at hn;cases hn
theorem Us{fr:Bool}{l:List (Oper×Nat)}{θ:Nat→Option Nat}(W5:∀k k' id,θ k=some id→θ k'=some id→k=k')(h:fj P ro ops pl fr l e σ e' ah):
 ∀(k:Nat) (d:DS) (T:jE),ops.toList.zipIdx.drop k=l→mB pl n0 k d e σ→mA P pl l T=true→lN n0 e T→sM P ops θ e σ T→
  ∃SF:Nat→Self,(∀i,lx P (SF i))∧∃d',ir P SF pl ro ops l d=some d'∧d'.e=e'∧d'.n=ah.n∧∃i b rest,d'.bs=(i,b)::rest∧d'.aC.foldl dc b=ah.t:=by
 have iY:∀{o:Oper} {j:Nat} {l:List (Oper×Nat)} {k:Nat},ops.toList.zipIdx.drop k=(o,j)::l→j=k∧ops.toList.zipIdx.drop (k+1)=l∧
  (∀p i,(p,i)∈ops.toList.zipIdx.take j→(p,i)∈ops.toList.zipIdx∧i<j)∧(∀o' i,(o',i)∈l→i≠j)∧ops[j]?=some o:=by
  intro o j l k h;have h1:(ops.toList.zipIdx.drop k)[0]?=some (o,j):=by rw[h];rfl
  rw[List.getElem?_drop,Nat.add_zero]at h1;rw[List.getElem?_zipIdx]at h1
  have hj:j=k:=by
   cases hk:ops.toList[k]? with
   |none=>rw[hk]at h1;cases h1
   |some o'=>rw[hk]at h1;simp at h1;omega
  have Cv:ops.toList.zipIdx.drop (k+1)=l:=by rw[←ate (i:=1) (j:=k),h];rfl
  have lY:ops[j]?=some o:=by
   rw[hj];cases hk:ops.toList[k]? with
   |none=>rw[hk]at h1;cases h1
   |some o'=>
    rw[hk]at h1;simp at h1;rw[at1]at hk;rw[hk,h1.1]
  refine⟨hj,Cv,fun p i hp=>⟨List.mem_of_mem_take hp,?_⟩,fun o' i hi=>?_,lY⟩
  ·obtain⟨m,hm,he⟩:=auK hp;rw[List.length_take]at hm;rw[List.getElem_take,avi]at he;cases he;omega
  ·rw[←Cv]at hi;obtain⟨m,hm,he⟩:=auK hi;rw[List.getElem_drop,avi]at he;cases he;omega
 induction h with
 |nil e σ=>
  intro k d T _ hs _ _ _;obtain⟨i,b,rest,h1,_,h3,_⟩:=hs.bs;exact⟨fun _=>Self.none,fun _=>oa,d,rfl,hs.e,hs.n,i,b,rest,h1,h3⟩
 | @skip o j l e σ e' ah hw h ih=>
   intro k d T hl hs hc hT CJ;obtain⟨rfl,hd,gu,aa,lY⟩:=iY hl;simp only[mA,ar6]at hc;obtain⟨bw,gi⟩:=hc;obtain⟨i,b,rest,cK,fB,ef,jl⟩:=hs.bs;have iw:∀p∈d.aC,(p.hi≤p.lo∨(p.j<j+1∧(aU pl p.j=.alloc∨aU pl p.j=.call)))∧p.hi≤d.n∧n0≤p.lo:=fun p hp=>⟨(hs.aC p hp).1.imp id (fun h=>⟨by omega,h.2⟩),(hs.aC p hp).2⟩
   have key:∃U,lx P U∧∃d1,bL P U pl ro ops o j d=some d1∧mB pl n0 (j+1) d1 (e.put o.dst .undef) σ:=by
    refine⟨Self.none,oa,?_⟩;by_cases hk:aU pl j=.effect
    ·refine⟨⟨d.e.put o.dst .undef,d.n,(j,b)::d.bs,d.aC⟩,?_,⟨by rw[hs.e],hs.n,hs.le,⟨j,b,d.bs,rfl,.inr ⟨by omega,hk⟩,ef,jl⟩,iw⟩⟩;unfold bL;rw[cK];simp only;rw[hs.e,hw,if_neg (by simp)];have cz:pl.kinds.getD j .effect=.effect:=hk;have hA:vO pl j=true:=by unfold kA at bw;rw[cz,asP]at bw;exact bw.elim id fun h=>(noX (P:=P) (σ:=σ) h (.inr hw)).elim
     rw[cz];simp only;rw[if_pos (FL fun p q xL Al=>RS hA (gu p q xL).2 (by rw[Al];simp))]
    ·refine⟨{d with e:=d.e.put o.dst .undef},?_,⟨by rw[hs.e],hs.n,hs.le,⟨i,b,rest,cK,fB.imp id (fun h=>⟨by omega,h.2⟩),ef,jl⟩,iw⟩⟩;unfold bL;rw[cK];simp only;rw[hs.e,hw,if_neg (by simp)];have cz:pl.kinds.getD j .effect≠.effect:=hk;cases hq:pl.kinds.getD j .effect<;>first|exact absurd hq cz|simp only
   obtain⟨U,hU,d1,h1,h2⟩:=key;obtain⟨SF,ki,d',h3,h4⟩:=ih (j+1) d1 (FK T o j) hd h2 gi (hT.skip j (.inl ⟨hw,rfl⟩)) (CJ.skip (.inl ⟨hw,rfl⟩));obtain⟨o5,h5,h6⟩:=ly hU ki h1 h3 aa;exact⟨o5,h5,d',h6,h4⟩
 | @val o j l e σ e' ah v ai hw hv h ih=>
   intro k d T hl hs hc hT CJ;obtain⟨rfl,hd,gu,aa,lY⟩:=iY hl;simp only[mA,ar6]at hc;obtain⟨bw,gi⟩:=hc;obtain⟨i,b,rest,cK,fB,ef,jl⟩:=hs.bs;have o6:σ.t.WF:=ef▸kh _ jl;have iw:∀p∈d.aC,(p.hi≤p.lo∨(p.j<j+1∧(aU pl p.j=.alloc∨aU pl p.j=.call)))∧p.hi≤d.n∧n0≤p.lo:=fun p hp=>⟨(hs.aC p hp).1.imp id (fun h=>⟨by omega,h.2⟩),(hs.aC p hp).2⟩
   have one:∀(t:Go.Ev.T Ob),((ai=σ)∨∃ob,ai=σ.add ob∧t.get σ.n=some ob)→(aU pl j=.alloc∨aU pl j=.call)→
    mB pl n0 (j+1) ⟨d.e.put o.dst v,ai.n,d.bs,⟨j,d.n,ai.n,t⟩::d.aC⟩ (e.put o.dst v) ai:=by
    intro t sw hk;refine⟨by rw[hs.e],rfl,asr hs.le (lL hv),⟨i,b,rest,cK,fB.imp id (fun h=>⟨by omega,h.2⟩),?_,jl⟩,fun p hp=>?_⟩
    ·simp only[asI];rcases sw with rfl|⟨ob,rfl,ht⟩
     ·rw[kg _ _ (by simp[hs.n]),ef]
     ·refine Go.Ev.T.WF.ext (kh _ (wy jl _)) (o6.set _ _) fun id=>?_
      have:=yN (n:=σ.n) (ob:=ob) d.aC (dc b ⟨j,d.n,(σ.add ob).n,t⟩) b (fun p hp=>by rw[←hs.n];exact(hs.aC p hp).2.1) (fun id=>by
       rw[jT,Go.Ev.T.fQ];simp only[hs.n,St.kz];by_cases hid:σ.n=id
       ·subst hid;simp[ht]
       ·rw[if_neg (by omega),if_neg hid]) id
      rw[this,ef];rfl
    ·rcases asZ.1 hp with rfl|hp
     ·exact⟨.inr ⟨by simp,hk⟩,ar9 _,by show n0≤d.n;rw[hs.n];exact hs.le⟩
     ·obtain⟨h1,h2,h3⟩:=iw p hp;exact⟨h1,by have:=lL hv;rw[hs.n]at h2;exact asr h2 this,h3⟩
   have key:∃U,lx P U∧∃d1,bL P U pl ro ops o j d=some d1∧mB pl n0 (j+1) d1 (e.put o.dst v) ai:=by
    refine⟨Self.none,oa,?_⟩;cases hk:aU pl j with
    |pure=>
     have cz:pl.kinds.getD j .effect=.pure:=hk;unfold kA at bw;rw[cz]at bw;have oG:cZ o=.pure:=by simpa using bw
     obtain⟨rfl,mX⟩:=Dv oG hv;refine⟨{d with e:=d.e.put o.dst v},?_,⟨by rw[hs.e],hs.n,hs.le,⟨i,b,rest,cK,fB.imp id (fun h=>⟨by omega,h.2⟩),ef,jl⟩,iw⟩⟩;unfold bL;rw[cK];simp only;rw[hs.e,hw,if_pos rfl];rw[cz];simp only;rw[mX 0 ⟨0,.lf⟩];simp[hs.e,cK]
    |alloc=>
     have cz:pl.kinds.getD j .effect=.alloc:=hk;unfold kA at bw;rw[cz]at bw;simp only[ar6,beq_iff_eq]at bw;obtain⟨t,mX,sw⟩:=HF bw.1 hv;refine⟨⟨d.e.put o.dst v,ai.n,d.bs,⟨j,d.n,ai.n,t⟩::d.aC⟩,?_,one t (sw.imp (fun h=>h.1) fun⟨ob,h1,h2⟩=>⟨ob,h1,by rw[h2,Go.Ev.T.fQ,if_pos rfl]⟩) (.inl hk)⟩;unfold bL;rw[cK];simp only;rw[hs.e,hw,if_pos rfl];rw[cz];simp only;rw[hs.n,mX 0]
    |load=>
     have cz:pl.kinds.getD j .effect=.load:=hk;unfold kA at bw;rw[cz]at bw;simp only[ar6,beq_iff_eq,asP]at bw;obtain⟨oG,bw⟩:=bw;obtain⟨rfl,mX⟩:=Dw oG hv
     have dZ:ak P d.n (aq e) o ⟨d.n,seen d.aC (pl.bT.getD j 0) b⟩=some (.val v ⟨d.n,seen d.aC (pl.bT.getD j 0) b⟩):=by
      rcases bw with ho|⟨_,ho⟩
      ·have ma:=uh hs ef ho;have dK:(⟨d.n,seen d.aC (pl.bT.getD j 0) b⟩:St)=ai:=by rw[ma,hs.n]
       rw[dK];exact mX d.n
      ·rcases ho with ho|ho
       ·exact Z9 ho hv _ _
       split at ho<;>first|(cases ho;done)|skip
       rename_i t a fT;refine Ur fT (KM hT ho) hv (fun id hid=>?_) d.n;show(seen d.aC (pl.bT.getD j 0) b).get id=ai.t.get id;unfold seen;rw[←ef,DE _ _ (fun p hp=>(hs.aC p (asK.1 hp).1).2.2) id hid,DE _ _ (fun p hp=>(hs.aC p hp).2.2) id hid]
     have Ut:(ast (pl.bT.getD j 0) i||lJ P e o d.n v d.aC (pl.bT.getD j 0) rest)=true:=by
      rcases fB with rfl|⟨h1,h2⟩
      ·simp[lJ]
      ·have:ast (pl.bT.getD j 0) i=true:=by
        rcases bw with ho|⟨ho,_⟩
        ·exact EH ho h1 (.inr (.inl h2))
        ·exact adA ho h1 h2
       rw[this];rfl
     refine⟨{d with e:=d.e.put o.dst v},?_,⟨by rw[hs.e],hs.n,hs.le,⟨i,b,rest,cK,fB.imp id (fun h=>⟨by omega,h.2⟩),ef,jl⟩,iw⟩⟩;unfold bL;rw[cK];simp only;rw[hs.e,hw,if_pos rfl];rw[cz];simp only;rw[dZ];simp only;rw[if_pos ⟨trivial,Ut⟩]
    |call=>
     have cz:pl.kinds.getD j .effect=.call:=hk;unfold kA at bw;rw[cz]at bw;simp only[ar6,asP]at bw;obtain⟨⟨_,ho⟩,bw⟩:=bw;rcases bw with bw|bw
     ·exact(CE bw hv).elim
     ·split at bw<;>first|(cases bw;done)|skip
      rename_i a hb;obtain⟨mX,sw⟩:=afe hb (WX hT bw) hv;have ma:=uh hs ef ho;have dK:(⟨d.n,seen d.aC (pl.bT.getD j 0) b⟩:St)=σ:=by rw[ma,hs.n]
      refine⟨⟨d.e.put o.dst v,ai.n,d.bs,⟨j,d.n,ai.n,ai.t⟩::d.aC⟩,?_,one ai.t (sw.imp id fun⟨ob,h1⟩=>⟨ob,h1,by rw[h1];exact(by simp[St.add,Go.Ev.T.fQ])⟩) (.inr hk)⟩;unfold bL;rw[cK];simp only;rw[hs.e,hw,if_pos rfl];rw[cz];simp only;rw[dK];unfold jh;rw[mX d.n]
    |effect=>
     have cz:pl.kinds.getD j .effect=.effect:=hk;have hA:(vO pl j||DC pl T o j)=true:=by unfold kA at bw;rw[cz]at bw;exact bw
     rw[asP]at hA;rcases hA with hA|hA
     ·refine yU hs hk hw gu hA ?_ (Um hv o6) (lL hv);unfold jh;rw[hv]
     ·exact W4 W5 CJ hs hk hw gu hA hv (Um hv o6) (lL hv)
   obtain⟨U,hU,d1,h1,h2⟩:=key;obtain⟨SF,ki,d',h3,h4⟩:=ih (j+1) d1 (FK T o j) hd h2 gi (hT.step j hv) (CJ.step lY hT hv);obtain⟨o5,h5,h6⟩:=ly hU ki h1 h3 aa;exact⟨o5,h5,d',h6,h4⟩
 | @EE o j l e σ e' ah f args v hw hv eu h ih=>
   intro k d T hl hs hc hT CJ;obtain⟨rfl,hd,gu,aa,lY⟩:=iY hl;simp only[mA,ar6]at hc;obtain⟨bw,gi⟩:=hc;obtain⟨i,b,rest,cK,fB,ef,jl⟩:=hs.bs;have o6:σ.t.WF:=ef▸kh _ jl;have iw:∀p∈d.aC,(p.hi≤p.lo∨(p.j<j+1∧(aU pl p.j=.alloc∨aU pl p.j=.call)))∧p.hi≤d.n∧n0≤p.lo:=fun p hp=>⟨(hs.aC p hp).1.imp id (fun h=>⟨by omega,h.2⟩),(hs.aC p hp).2⟩
   have vq:∀fO,jh P (qq none f args σ v σ) fO e o σ=some (v,σ):=by
    intro fO;unfold jh;rw[Bi hv fO σ];simp[qq]
   have i_:=sJ hv
   have key:∃U,lx P U∧∃d1,bL P U pl ro ops o j d=some d1∧mB pl n0 (j+1) d1 (e.put o.dst v) σ:=by
    refine⟨qq none f args σ v σ,sH fun fO _=>eu fO,?_⟩;cases hk:aU pl j with
    |pure=>
     have cz:pl.kinds.getD j .effect=.pure:=hk;unfold kA at bw;rw[cz]at bw;have oG:cZ o=.pure:=by simpa using bw
     rw[oG]at i_;rcases i_ with i_|i_<;>cases i_
    |alloc=>
     have cz:pl.kinds.getD j .effect=.alloc:=hk;unfold kA at bw;rw[cz]at bw;simp only[ar6,beq_iff_eq]at bw;rw[bw.1]at i_;rcases i_ with i_|i_<;>cases i_
    |load=>
     have cz:pl.kinds.getD j .effect=.load:=hk;unfold kA at bw;rw[cz]at bw;simp only[ar6,beq_iff_eq]at bw;rw[bw.1]at i_;rcases i_ with i_|i_<;>cases i_
    |call=>
     have cz:pl.kinds.getD j .effect=.call:=hk;unfold kA at bw;rw[cz]at bw;simp only[ar6]at bw;have Cz:=uh hs ef bw.1.2;refine⟨⟨d.e.put o.dst v,d.n,d.bs,⟨j,d.n,d.n,seen d.aC (pl.bT.getD j 0) b⟩::d.aC⟩,?_,⟨by rw[hs.e],hs.n,hs.le,⟨i,b,rest,cK,fB.imp id (fun h=>⟨by omega,h.2⟩),?_,jl⟩,fun p hp=>?_⟩⟩
     ·unfold bL;rw[cK];simp only;rw[hs.e,hw,if_pos rfl];rw[cz];simp only;have dK:(⟨d.n,seen d.aC (pl.bT.getD j 0) b⟩:St)=σ:=by rw[Cz,hs.n]
      rw[dK,vq,Cz];simp only[hs.n,cK]
     ·simp only[asI];rw[kg _ _ (by simp),ef]
     ·rcases asZ.1 hp with rfl|hp
      ·exact⟨.inl (ar9 _),ar9 _,by show n0≤d.n;rw[hs.n];exact hs.le⟩
      ·exact iw p hp
    |effect=>
     have cz:pl.kinds.getD j .effect=.effect:=hk;have hA:vO pl j=true:=by unfold kA at bw;rw[cz,asP]at bw;exact bw.elim id fun h=>(noX (ops:=ops) (e:=e) h (.inl ⟨_,_,_,_,hv⟩)).elim
     exact yU hs hk hw gu hA (vq ro) o6 (ar9 _)
   obtain⟨U,hU,d1,h1,h2⟩:=key;obtain⟨SF,ki,d',h3,h4⟩:=ih (j+1) d1 (FK T o j) hd h2 gi (hT.skip (ops:=ops) j (.inr i_)) (CJ.skip (.inr i_));obtain⟨o5,h5,h6⟩:=ly hU ki h1 h3 aa;exact⟨o5,h5,d',h6,h4⟩
 | @Mo o j l e σ e' ah f args v ob hq hw hv eu h ih=>
   intro k d T hl hs hc hT CJ;obtain⟨rfl,hd,gu,aa,lY⟩:=iY hl;simp only[mA,ar6]at hc;obtain⟨bw,gi⟩:=hc;obtain⟨i,b,rest,cK,fB,ef,jl⟩:=hs.bs;have o6:σ.t.WF:=ef▸kh _ jl;have iw:∀p∈d.aC,(p.hi≤p.lo∨(p.j<j+1∧(aU pl p.j=.alloc∨aU pl p.j=.call)))∧p.hi≤d.n∧n0≤p.lo:=fun p hp=>⟨(hs.aC p hp).1.imp id (fun h=>⟨by omega,h.2⟩),(hs.aC p hp).2⟩
   have vq:∀fO,jh P (qq none f args σ v (σ.add ob)) fO e o σ=some (v,σ.add ob):=by
    intro fO;unfold jh;rw[Bi hv fO σ];simp[qq]
   have i_:=sJ hv
   have key:∃U,lx P U∧∃d1,bL P U pl ro ops o j d=some d1∧mB pl n0 (j+1) d1 (e.put o.dst v) (σ.add ob):=by
    refine⟨qq none f args σ v (σ.add ob),sH fun fO _=>eu fO,?_⟩;cases hk:aU pl j with
    |pure=>
     have cz:pl.kinds.getD j .effect=.pure:=hk;unfold kA at bw;rw[cz]at bw;have oG:cZ o=.pure:=by simpa using bw
     rw[oG]at i_;rcases i_ with i_|i_<;>cases i_
    |alloc=>
     have cz:pl.kinds.getD j .effect=.alloc:=hk;unfold kA at bw;rw[cz]at bw;simp only[ar6,beq_iff_eq]at bw;rw[bw.1]at i_;rcases i_ with i_|i_<;>cases i_
    |load=>
     have cz:pl.kinds.getD j .effect=.load:=hk;unfold kA at bw;rw[cz]at bw;simp only[ar6,beq_iff_eq]at bw;rw[bw.1]at i_;rcases i_ with i_|i_<;>cases i_
    |call=>
     have cz:pl.kinds.getD j .effect=.call:=hk;unfold kA at bw;rw[cz]at bw;simp only[ar6]at bw;have Cz:=uh hs ef bw.1.2;refine⟨⟨d.e.put o.dst v,(σ.add ob).n,d.bs,⟨j,d.n,(σ.add ob).n,(σ.add ob).t⟩::d.aC⟩,?_,⟨by rw[hs.e],rfl,asr hs.le (by simp),⟨i,b,rest,cK,fB.imp id (fun h=>⟨by omega,h.2⟩),?_,jl⟩,fun p hp=>?_⟩⟩
     ·unfold bL;rw[cK];simp only;rw[hs.e,hw,if_pos rfl];rw[cz];simp only;have dK:(⟨d.n,seen d.aC (pl.bT.getD j 0) b⟩:St)=σ:=by rw[Cz,hs.n]
      rw[dK,vq]
     ·simp only[asI];refine Go.Ev.T.WF.ext (kh _ (wy jl _)) (o6.set _ _) fun id=>?_
      have:=yN (n:=σ.n) (ob:=ob) d.aC (dc b ⟨j,d.n,(σ.add ob).n,(σ.add ob).t⟩) b (fun p hp=>by rw[←hs.n];exact(hs.aC p hp).2.1) (fun id=>by
       rw[jT,Go.Ev.T.fQ];simp only[hs.n,St.kz];by_cases hid:σ.n=id
       ·subst hid;rw[if_pos (by omega),if_pos rfl];have:(σ.add ob).t.get σ.n=some ob:=by simpa[St.at]using St.gI σ ob σ.n
        simp[this]
       ·rw[if_neg (by omega),if_neg hid]) id
      rw[this,ef];rfl
     ·rcases asZ.1 hp with rfl|hp
      ·exact⟨.inr ⟨by simp,.inr hk⟩,ar9 _,by show n0≤d.n;rw[hs.n];exact hs.le⟩
      ·obtain⟨h1,h2,h3⟩:=iw p hp;exact⟨h1,by rw[hs.n]at h2;simp;omega,h3⟩
    |effect=>
     have cz:pl.kinds.getD j .effect=.effect:=hk;have hA:vO pl j=true:=by unfold kA at bw;rw[cz,asP]at bw;exact bw.elim id fun h=>(noX (ops:=ops) (e:=e) h (.inl ⟨_,_,_,_,hv⟩)).elim
     exact yU hs hk hw gu hA (vq ro) (o6.set _ _) (by simp)
   obtain⟨U,hU,d1,h1,h2⟩:=key;obtain⟨SF,ki,d',h3,h4⟩:=ih (j+1) d1 (FK T o j) hd h2 gi (hT.skip (ops:=ops) j (.inr i_)) (CJ.skip (.inr i_));obtain⟨o5,h5,h6⟩:=ly hU ki h1 h3 aa;exact⟨o5,h5,d',h6,h4⟩
 | @call o j l e σ e' ah f args v ai hk hw hv eu iZ h ih=>
   intro k d T hl hs hc hT CJ;obtain⟨rfl,hd,gu,aa,lY⟩:=iY hl;simp only[mA,ar6]at hc;obtain⟨bw,gi⟩:=hc;obtain⟨i,b,rest,cK,fB,ef,jl⟩:=hs.bs;have o6:σ.t.WF:=ef▸kh _ jl;have cz:pl.kinds.getD j .effect=.effect:=hk;have hA:vO pl j=true:=by unfold kA at bw;rw[cz,asP]at bw;exact bw.elim id fun h=>(noX (ops:=ops) (e:=e) h (.inl ⟨_,_,_,_,hv⟩)).elim
   obtain⟨d1,h1,h2⟩:=yU (U:=qq (some ro) f args σ v ai) (v:=v) (ai:=ai) hs hk hw gu hA (by unfold jh;rw[hv];simp[qq]) (iZ o6) eu.1;obtain⟨SF,ki,d',h3,h4⟩:=ih (j+1) d1 (FK T o j) hd h2 gi (hT.skip (ops:=ops) j (.inr (sJ hv))) (CJ.skip (.inr (sJ hv)));obtain⟨o5,h5,h6⟩:=ly (sH (R:=some ro) fun fO hR=>by rcases hR with hR|hR<;>cases hR;exact eu) ki h1 h3 aa;exact⟨o5,h5,d',h6,h4⟩
variable{rd:Option Nat}{fn:FuncId}{df:List Df}
theorem bW.ai3{id:Nat}{fr:Bool}{T:jE}(eT:P.follows .mixedOrders=true)(iW:(dp ops).ok=true)(bf:mA P (dp ops) ops.toList.zipIdx T=true)(hT:lN σ.n e T){θ:Nat→Option Nat}(W5:∀k k' id,θ k=some id→θ k'=some id→k=k')(CJ:sM P ops θ e σ T)(iZ:σ.t.WF)
 (h:fj P ro ops (dp ops) fr ops.toList.zipIdx e σ e' ah):bW P ro rd fn (.region id ops true) e df σ ⟨.normal,e',df,ah⟩:=by
 obtain⟨SF,ki,d',h1,h2,h3,i,b,rest,h4,h5⟩:=Us (n0:=σ.n) W5 h 0 ⟨e,σ.n,[(0,σ.t)],[]⟩ T (by simp) ⟨rfl,rfl,ar9 _,⟨0,σ.t,[],rfl,.inl rfl,rfl,iZ⟩,fun p hp=>by cases hp⟩ bf hT CJ
 have dZ:pI P SF ro ops e df σ=some ⟨.normal,e',df,ah⟩:=by
  unfold pI;simp only;rw[if_pos iW,h1];obtain⟨de,dn,dbs,anC⟩:=d';simp only at h2 h3 h4 h5;subst h2 h4;simp only[h3,h5]
 refine .mk (Be (fun i=>(ki i).2.2.1) (fun i=>(ki i).2.2.2) dZ) (by simp) fun N hN F ι a w Q hF hi he hd hQ=>?_;exact Gp eT (fun i=>(ki i).1) (fun i=>(ki i).2.1) (fun i=>(ki i).2.2.1) (fun i=>(ki i).2.2.2) N ro rd ops e df σ _ dZ hN F ι a w Q id hF hi he hd hQ
end Go.Ev
