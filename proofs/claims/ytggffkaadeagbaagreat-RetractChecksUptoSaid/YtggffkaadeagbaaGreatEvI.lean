/- Lemmas over the model, without conditions of their own: what is known of frames and of the store. -/
import Derived.Test.YtggffkaadeagbaaGreatEvH
open List renaming getElem?_eq_some_iff->aqF,mem_of_getElem?->aqS,getElem?_eq_getElem->aqE,getElem?_append_left->aqQ,getElem?_append_right->aq_,getElem?_map->aqU,getElem?_set_ne->atK,range'->as0,drop_drop->atm,length_cons->ary,range'_succ->aul,mk_mem_zipIdx_iff_getElem?->arM,mem_iff_getElem?->atH,mem_eraseIdx_iff_getElem?->aud,mem_append->aqX,mem_singleton->arx,range->asc,any_eq_true->aum,mem_filter->arN,mem_cons_of_mem->arW,mem_cons->arv,all_eq_true->aqW,mem_range->atn,foldl_cons->arh,mem_cons_self->asT,getElem_of_mem->asu,getElem_zipIdx->atS
open Nat renaming le_trans->aq2,le_refl->aqK,beq->aqP,beq_eq->ark,blt->arH,testBit->aq0,eq_of_beq_eq_true->aqO
open Bool renaming and_eq_true->aqG,or_eq_true->arl,not_eq_true'->aru
open Option renaming map_eq_some_iff->aqL
open Go.Fence renaming wide->arb
open Go.Oper renaming semAt_eq->asp,uponIn_value->at0,uponIn_enter->aub
open Array renaming replicate->arZ,mem_filter->at5,getElem?_eq_getElem->aq7,getElem?_toList->asA
open Go.Sem renaming run->asv,run_bind->aqM,run_map->awk
open Go.Question renaming forced->asD
open Go.Instr renaming next->asP
open Classical renaming byContradiction->arq
open Go.Result renaming andThen_ok->aqJ
open Option.some renaming injEq->aqH
open List.cons renaming injEq->arF
set_option linter.all false
namespace Go.Ev
variable{P:Program}{σ ah:St}
abbrev Rs:=Nat→Option Nat
inductive aY(fr:Bool)(R:Rs)(σ:St):IV→IV→Prop
 |raw (v:Value):aY fr R σ (.raw v) (.raw v)
 |nil (s:Nat) (hs:0<s):aY fr R σ (.raw (.slice none 0 0)) (.tree s [])
 |emp (s:Nat) (hs:0<s):aY fr R σ .emp (.tree s [])
 |da (t:TypeId) (x y:IV) (h:aY fr R σ x y):aY fr R σ (.da t x) (.da t y)
 |agg (cs ds:List IV) (hl:cs.length=ds.length) (h:∀(i:Nat) c d,cs[i]?=some c→ds[i]?=some d→aY fr R σ c d):aY fr R σ (.agg cs) (.agg ds)
 |av (cs ds:List IV) (hl:cs.length=ds.length) (h:∀(i:Nat) c d,cs[i]?=some c→ds[i]?=some d→aY fr R σ c d):aY fr R σ (.av cs) (.av ds)
 |pure (x:IV) (hf:fr=true) (hp:Pure x):aY fr R σ x x
 |sl (id off len:Nat) (cap:Option Nat) (ep s m:Nat) (cs:List IV) (au mn:Nat) (es:List IV) (hR:R id=some m) (aA:σ.at id=some (.cells cs au mn)) (h1:mn≤ep) (h2:ep≤au) (hs:0<s) (hl:es.length=len)
   (hb:off+len*s≤m) (hm:m≤cs.length)
   (bC:∀e∈es,(cellsOf e).length=s) (h:∀(i:Nat) e (j:Nat) c d,es[i]?=some e→(cellsOf e)[j]?=some d→cs[off+i*s+j]?=some c→aY fr R σ c d):aY fr R σ (.sl id off len cap ep s) (.tree s es)
theorem aY.can{fr:Bool}{R:Rs}{x z:IV}(h:aY fr R σ x z):Can fr σ x z:=by
 induction h with
 |raw v=>exact .raw v
 |nil s hs=>exact .nil s hs
 |emp s hs=>exact .emp s hs
 |da t x y _ ih=>exact .da t x y ih
 |agg cs ds hl _ ih=>exact .agg cs ds hl ih
 |av cs ds hl _ ih=>exact .av cs ds hl ih
 |pure x hf hp=>exact .pure x hf hp
 |sl id off len cap ep s m cs au mn es hR aA h1 h2 hs hl hb hm bC _ ih=>exact .sl id off len cap ep s cs au mn es aA h1 h2 hl (by omega) bC ih
theorem aY.cC{fr:Bool}{R:Rs}{x z:IV}(h:aY fr R σ x z):aY true R σ x z:=by
 induction h with
 |raw v=>exact .raw v
 |nil s hs=>exact .nil s hs
 |emp s hs=>exact .emp s hs
 |da t x y _ ih=>exact .da t x y ih
 |agg cs ds hl _ ih=>exact .agg cs ds hl ih
 |av cs ds hl _ ih=>exact .av cs ds hl ih
 |pure x hf hp=>exact .pure x rfl hp
 |sl id off len cap ep s m cs au mn es hR aA h1 h2 hs hl hb hm bC _ ih=>exact .sl id off len cap ep s m cs au mn es hR aA h1 h2 hs hl hb hm bC ih
theorem aY.wide{fr cX:Bool}{R:Rs}{x z:IV}(h:aY fr R σ x z)(hle:fr=true→cX=true):aY cX R σ x z:=by
 cases cX
 ·cases fr
  ·exact h
  ·exact absurd (hle rfl) (by simp)
 ·exact h.cC
structure iv(R:Rs)(σ:St)(R':Rs)(ah:St):Prop where
 le:∀id m,R id=some m→∃m',R' id=some m'∧m≤m'
 keep:∀id m cs au mn,R id=some m→σ.at id=some (.cells cs au mn)→∃cq ik,ah.at id=some (.cells cq ik mn)∧au≤ik∧∀j,j<m→cq[j]?=cs[j]?
 fits:∀id m cs au mn,R' id=some m→ah.at id=some (.cells cs au mn)→m≤cs.length
theorem aeV{es:List IV}{i s len:Nat}{e d:IV}{j:Nat}(he:es[i]?=some e)(hd:(cellsOf e)[j]?=some d)(bC:∀e∈es,(cellsOf e).length=s)(hl:es.length=len):i*s+j<len*s:=by
 have hi:=(aqF.1 he).1;have hj:j<s:=by have:=(aqF.1 hd).1;rw[bC e (aqS he)]at this;exact this
 have:(i+1)*s≤es.length*s:=Nat.mul_le_mul_right s hi;rw[Nat.add_mul,hl]at this;omega
theorem aY.mono{fr:Bool}{R R':Rs}(hg:iv R σ R' ah){x z:IV}(h:aY fr R σ x z):aY fr R' ah x z:=by
 induction h with
 |raw v=>exact .raw v
 |nil s hs=>exact .nil s hs
 |emp s hs=>exact .emp s hs
 |da t x y _ ih=>exact .da t x y ih
 |agg cs ds hl _ ih=>exact .agg cs ds hl ih
 |av cs ds hl _ ih=>exact .av cs ds hl ih
 |pure x hf hp=>exact .pure x hf hp
 |sl id off len cap ep s m cs au mn es hRi aA h1 h2 hs hl hb hm bC _ ih=>
  obtain⟨cq,ik,N8,hle,HN⟩:=hg.keep id m cs au mn hRi aA;obtain⟨m',N9,hmm⟩:=hg.le id m hRi;refine .sl id off len cap ep s m' cq ik mn es N9 N8 h1 (aq2 h2 hle) hs hl (aq2 hb hmm) (hg.fits id m' cq ik mn N9 N8) bC fun i e j c d he hd hc=>?_;have:=aeV he hd bC hl;rw[HN _ (by omega)]at hc;exact ih i e j c d he hd hc
theorem iv.refl{R:Rs}(hf:∀id m cs au mn,R id=some m→σ.at id=some (.cells cs au mn)→m≤cs.length):iv R σ R σ:=
 ⟨fun _ m h=>⟨m,h,aqK _⟩,fun _ _ cs au _ _ h=>⟨cs,au,h,aqK _,fun _ _=>rfl⟩,hf⟩
def All2{α β:Type}(r:α→β→Prop):List α→List β→Prop
 |[],[]=>True
 |a::as,b::bs=>r a b∧All2 r as bs
 |_,_=>False
namespace All2
variable{α β:Type}{r r':α→β→Prop}
theorem len:∀{as:List α} {bs:List β},All2 r as bs→as.length=bs.length
 |[],[],_=>rfl
 |_::_,_::_,h=>by simp[len h.2]
 |[],_::_,h=>h.elim
 |_::_,[],h=>h.elim
theorem get:∀{as:List α} {bs:List β},All2 r as bs→∀{i:Nat} {a:α} {b:β},as[i]?=some a→bs[i]?=some b→r a b
 |[],[],_,i,a,b,h1,_=>by simp at h1
 |_::as,_::bs,h,i,a,b,h1,h2=>by
  cases i with
  |zero=>simp at h1 h2;subst h1 h2;exact h.1
  |succ i=>simp at h1 h2;exact get h.2 h1 h2
 |[],_::_,h,_,_,_,_,_=>h.elim
 |_::_,[],h,_,_,_,_,_=>h.elim
theorem zj{as:List α}{bs:List β}(h:All2 r as bs){i:Nat}{b:β}(hb:bs[i]?=some b):∃a,as[i]?=some a∧r a b:=by
 have hi:i<as.length:=by have:=(aqF.1 hb).1;rw[h.len];exact this
 exact⟨_,aqE hi,h.get (aqE hi) hb⟩
theorem mk:∀{as:List α} {bs:List β},as.length=bs.length→(∀(i:Nat) a b,as[i]?=some a→bs[i]?=some b→r a b)→All2 r as bs
 |[],[],_,_=>trivial
 |a::as,b::bs,hl,h=>⟨h 0 a b rfl rfl,mk (by simpa using hl) fun i a b h1 h2=>h (i+1) a b (by simpa using h1) (by simpa using h2)⟩
 |[],_::_,hl,_=>by simp at hl
 |_::_,[],hl,_=>by simp at hl
theorem mono(hr:∀a b,r a b→r' a b):∀{as:List α} {bs:List β},All2 r as bs→All2 r' as bs
 |[],[],_=>trivial
 |_::_,_::_,h=>⟨hr _ _ h.1,mono hr h.2⟩
 |[],_::_,h=>h.elim
 |_::_,[],h=>h.elim
theorem wG:∀{as:List α} {bs:List β},(∀a b,b∈bs→r a b→r' a b)→All2 r as bs→All2 r' as bs
 |[],[],_,_=>trivial
 |_::_,_::_,hr,h=>⟨hr _ _ (by simp) h.1,wG (fun a b hb=>hr a b (by simp[hb])) h.2⟩
 |[],_::_,_,h=>h.elim
 |_::_,[],_,h=>h.elim
theorem app{as as':List α}{bs bs':List β}(h:All2 r as bs)(k:All2 r as' bs'):All2 r (as++as') (bs++bs'):=by
 refine mk (by simp[h.len,k.len]) fun i a b h1 h2=>?_;by_cases hi:i<as.length
 ·rw[aqQ hi]at h1;rw[aqQ (h.len▸hi)]at h2;exact h.get h1 h2
 ·rw[aq_ (by omega)]at h1;rw[aq_ (by have:=h.len;omega),←h.len]at h2;exact k.get h1 h2
theorem take(n:Nat){as:List α}{bs:List β}(h:All2 r as bs):All2 r (as.take n) (bs.take n):=by
 refine mk (by simp[h.len]) fun i a b h1 h2=>?_;rw[List.getElem?_take]at h1 h2;split at h1
 ·rename_i hi;rw[if_pos hi]at h2;exact h.get h1 h2
 ·cases h1
theorem drop(n:Nat){as:List α}{bs:List β}(h:All2 r as bs):All2 r (as.drop n) (bs.drop n):=
 mk (by simp[h.len]) fun i a b h1 h2=>h.get (i:=n+i) (by simpa using h1) (by simpa using h2)
theorem map{γ:Type}{f:β→γ}{q:α→γ→Prop}(hf:∀a b,r a b→q a (f b)):∀{as:List α} {bs:List β},All2 r as bs→All2 q as (bs.map f)
 |[],[],_=>trivial
 |_::_,_::_,h=>⟨hf _ _ h.1,map hf h.2⟩
 |[],_::_,h=>h.elim
 |_::_,[],h=>h.elim
end All2
inductive Cl(α:Type) where
 |un
 |v (z:α)
 |w (fr:Bool) (z:α)
 |pt (k off ext:Nat)
 |tp (cs:List α)
 |tw (fr:Bool) (cs:List α)
 |sr (k:Nat)
 |sv (k:Nat) (lo:α)
 |pr (k:Nat) (i:α) (off ext:Nat)
 |mp (k:Nat)
 |nl (b:Bool) (s:Nat)
 |fn (f:FuncId) (bs:List (Nat×Nat))
 deriving Inhabited
inductive PV(α:Type) where
 |one (x:Cl α)
 |ag (cs:List (Cl α))
 |tu (vs:List (Bool×List (Cl α)))
 deriving Inhabited
inductive LO(α:Type) where
 |var (cs:List (Cl α))
 |row (s:Nat) (st cut fr:Bool) (es:α)
 |mp (kt:TypeId) (es:α)
 |dead
abbrev Ph:=Nat→Option Nat
def JE(φ:Ph)(σ:St)(k s:Nat)(cut:Bool)(lo len:Nat)(x:IV):Prop:=
 (φ k=none∧len=0∧(x=.raw (.slice none 0 0)∨x=.emp))∨
 ∃id cs au mn cap,φ k=some id∧σ.at id=some (.cells cs au mn)∧x=.sl id (lo*s) (len- lo) cap au s∧lo≤len∧(cap=none→cut=false→len*s=cs.length)∧
  ∀c,cap=some c→mn=au∧lo*s+c*s≤cs.length∧len- lo≤c
abbrev il:IV→IV→Prop:=aY true (fun _=>none) ⟨0,.lf⟩
def nat?:IV→Option Nat
 |.raw (.int _ n)=>if 0≤n then some n.toNat else none
 |_=>none
def gp(kt:Nat):Bool:=aqP kt 0||Nat.ble 1000000 kt
def Left(ds:List IV)(seen:List Nat)(rem:List IV):Prop:=
 ∃ps:List (IV×Nat),rem=ps.map (·.1)∧(ps.map (·.2)).Nodup∧(∀p∈ps,ds[p.2]?=some p.1∧p.2∉seen)∧∀i,i<ds.length→i∉seen→∃p∈ps,p.2=i
section ev
variable{α:Type}(ev:α→Option IV)
def cz(R:Rs)(φ:Ph)(L:List (LO α))(σ:St)(x:IV):Cl α→Prop
 |.un=>True
 |.v z=>∃y,ev z=some y∧il x y∧af y=true
 |.w fr z=>∃y,ev z=some y∧aY fr R σ x y∧af y=true
 |.pt k off ext=>∃id cs,φ k=some id∧L[k]?=some (.var cs)∧x=.ptr id off 0 ext
 |.tp cs=>∃ds,x=.kU ds∧All2 (fun d c=>∃y,ev c=some y∧il d y∧af y=true) ds cs
 |.tw fr cs=>(∀c∈cs,∃y,ev c=some y∧af y=true)∧((fr=true∧∃ds,x=.kU ds∧All2 (fun d c=>∃y,ev c=some y∧il d y) ds cs)∨
   ∃id off ep m cA au mn,R id=some m∧σ.at id=some (.cells cA au mn)∧mn≤ep∧ep≤au∧x=.ptr id off ep cs.length∧off+cs.length≤m∧m≤cA.length∧
    ∀(j:Nat) c d,cs[j]?=some d→cA[off+j]?=some c→∃y,ev d=some y∧aY fr R σ c y)
 |.sr k=>∃s st cut fr z es,L[k]?=some (.row s st cut fr z)∧ev z=some (.tree s es)∧JE φ σ k s cut 0 es.length x
 |.sv k lo=>∃s st cut fr z es y n,L[k]?=some (.row s st cut fr z)∧ev z=some (.tree s es)∧ev lo=some y∧nat? y=some n∧n≤es.length∧(JE φ σ k s cut n es.length x∨(n=es.length∧x=.emp))
 |.pr k i off ext=>∃s st cut fr z es y n id cs au mn,L[k]?=some (.row s st cut fr z)∧ev z=some (.tree s es)∧ev i=some y∧nat? y=some n∧n<es.length∧off+ext≤s∧φ k=some id∧σ.at id=some (.cells cs au mn)∧x=.ptr id (n*s+off) au ext
 |.mp k=>∃id kt es,φ k=some id∧L[k]?=some (.mp kt es)∧x=if gp kt=true then .ptr id 0 0 1 else .map id
 |.nl b s=>0<s∧x=if b then .raw (.slice none 0 0)else .emp
 |.fn f bs=>(bs=[]∧x=.raw (.func (.func f) #[] #[]))∨∃ys,x=.fn (.func f) [] ys∧All2 (fun y (p:Nat×Nat)=>∃id cs,φ p.1=some id∧L[p.1]?=some (.var cs)∧y=.ptr id 0 0 p.2) ys bs
def sJ(R:Rs)(φ:Ph)(L:List (LO α))(σ:St)(x:IV)(p:Bool×List (Cl α)):Prop:=
 if p.1 then∃xs,x=.agg xs∧All2 (cz ev R φ L σ) xs p.2 else∃c,p.2=[c]∧cz ev R φ L σ x c
def VR(R:Rs)(φ:Ph)(L:List (LO α))(σ:St)(x:IV):PV α→Prop
 |.one c=>cz ev R φ L σ x c
 |.ag cs=>∃xs,x=.agg xs∧All2 (cz ev R φ L σ) xs cs
 |.tu vs=>∃xs,x=.av xs∧All2 (sJ ev R φ L σ) xs vs
def flat(es:List IV):List IV:=es.flatMap cellsOf
def yp(R:Rs)(σ:St)(es:List (Value×IV×Nat))(ds:List IV):Prop:=
 All2 (fun(e:Value×IV×Nat) d=>∃z,d=.av [lift e.1,z]∧aY true R σ e.2.1 z) es ds
def Canon(es:List (Value×IV×Nat))(clock:Nat):Prop:=clock=es.length∧∀(i:Nat) (e:Value×IV×Nat),es[i]?=some e→e.2.2=i
theorem Canon.app{es:List (Value×IV×Nat)}{clock:Nat}(h:Canon es clock)(k:Value)(x:IV):Canon (es++[(k,x,clock)]) (clock+1):=by
 refine⟨by simp[h.1],fun i e he=>?_⟩;by_cases hi:i<es.length
 ·rw[aqQ hi]at he;exact h.2 i e he
 ·rw[aq_ (by omega)]at he
  have h0:i- es.length=0:=by
   have:=(aqF.1 he).1;simp at this;omega
  rw[h0]at he;simp at he;subst he;have:=h.1;show clock=i;omega
theorem Canon.set{es:List (Value×IV×Nat)}{clock q:Nat}{e:Value×IV×Nat}(h:Canon es clock)(hq:es[q]?=some e)(k:Value)(x:IV):Canon (es.set q (k,x,e.2.2)) clock:=by
 refine⟨by simp[h.1],fun i e' he=>?_⟩;rw[List.getElem?_set]at he;split at he
 ·rename_i hh;subst hh;split at he
  ·cases he;exact h.2 q e hq
  ·cases he
 ·exact h.2 i e' he
def OIt(R:Rs)(φ:Ph)(L:List (LO α))(σ:St)(k:Nat)(kt:Nat)(z:α):Prop:=
 (kt=0∧∃id ba p,ev z=some (.av [.raw (.string ba),.raw (.int .i64 (p:Nat))])∧φ k=some id∧R id=none∧σ.at id=some (.pD ba p))∨
 (1000000≤kt∧∃id m ds seen rem rest,ev z=some (.av (.av ds::.av rem::rest))∧φ k=some id∧R id=none∧(∃ly z',L[kt % 1000000]?=some (.mp ly z'))∧φ (kt % 1000000)=some m∧
  σ.at id=some (.jm (some m) ds.length seen ds.length)∧(∀s∈seen,s<ds.length)∧Left ds seen rem∧(rest=[]∨∃i last,rest=[last]∧seen.getLast?=some i∧ds[i]?=some last))
def OR(R:Rs)(φ:Ph)(L:List (LO α))(σ:St)(k:Nat):LO α→Prop
 |.var cs=>∃id cA,φ k=some id∧R id=none∧σ.at id=some (.cells cA 0 0)∧All2 (cz ev R φ L σ) cA cs
 |.row s st cut fr z=>0<s∧∃es,ev z=some (.tree s es)∧(∀e∈es,(cellsOf e).length=s)∧
   ((φ k=none∧es=[])∨∃id cs au mn,φ k=some id∧σ.at id=some (.cells cs au mn)∧mn≤au∧es.length*s≤cs.length∧R id=(if st then some (es.length*s)else none)∧
     cs.all af=true∧∀(j:Nat) x d,cs[j]?=some x→(flat es)[j]?=some d→aY fr R σ x d)
 |.mp kt z=>if gp kt=true then OIt ev R φ L σ k kt z
  else∃id es clock ds,ev z=some (.av ds)∧φ k=some id∧R id=none∧σ.at id=some (.map es clock)∧yp R σ es ds∧Canon es clock
 |.dead=>True
theorem gB{R:Rs}{φ:Ph}{L:List (LO α)}{σ:St}{k:Nat}{kt:TypeId}{z:α}:OR ev R φ L σ k (.mp kt z)=if gp kt=true then OIt ev R φ L σ k kt z
 else∃id es clock ds,ev z=some (.av ds)∧φ k=some id∧R id=none∧σ.at id=some (.map es clock)∧yp R σ es ds∧Canon es clock:=rfl
abbrev Gm(α:Type):=List (Nat×Nat×PV α)
def ct(d t:Nat):List (Nat×Nat×PV α)→Option (PV α)
 |[]=>none
 |(d',t',pv)::g=>if(aqP d d'&&aqP t t')=true then some pv else ct d t g
structure J(R:Rs)(φ:Ph)(Γ:Gm α)(L:List (LO α))(E:Nat→Env)(σ:St):Prop where
 slot:∀d t pv,ct d t Γ=some pv→VR ev R φ L σ ((E d).at t) pv
 obj:∀k ob,L[k]?=some ob→OR ev R φ L σ k ob
 inj:∀k k' id,φ k=some id→φ k'=some id→k=k'
 lt:∀k id,φ k=some id→k<L.length∧id<σ.n
 p6:∀id m,R id=some m→id<σ.n
 fits:∀id m cs au mn,R id=some m→σ.at id=some (.cells cs au mn)→m≤cs.length
 wf:σ.t.WF
 top:∀id,σ.n≤id→σ.at id=none
structure jZ(ev gW:α→Option IV)(R:Rs)(φ:Ph)(L:List (LO α))(σ:St)(R':Rs)(aG:Ph)(L':List (LO α))(ah:St)(bad:Nat→Prop):Prop where
 up:∀e z,ev e=some z→gW e=some z
 grow:iv R σ R' ah
 var:∀k cs,L[k]?=some (.var cs)→(∃cq,L'[k]?=some (.var cq))∧aG k=φ k
 map:∀k kt es,L[k]?=some (.mp kt es)→(∃aB,L'[k]?=some (.mp kt aB))∧aG k=φ k
 row:∀k s st cut fr z,L[k]?=some (.row s st cut fr z)→¬bad k→(∃lr cX z',L'[k]?=some (.row s lr cut cX z')∧∀es,ev z=some (.tree s es)→∃aB,gW z'=some (.tree s aB)∧aB.length=es.length)∧aG k=φ k∧
  ∀id cs au mn,φ k=some id→σ.at id=some (.cells cs au mn)→∃cq oS,ah.at id=some (.cells cq au oS)∧cq.length=cs.length∧(mn=au→oS=au)
end ev
variable{α:Type}{ev gW:α→Option IV}
def Cl.ok(bad:Nat→Prop):Cl α→Prop
 |.sr k|.sv k _|.pr k _ _ _=>¬bad k
 |_=>True
variable{R R':Rs}{φ aG:Ph}{L L':List (LO α)}{bad:Nat→Prop}
theorem jZ.mk'(h0:∀e z,ev e=some z→gW e=some z)(h1:iv R σ R' ah)(h2:∀k cs,L[k]?=some (.var cs)→(∃cq,L'[k]?=some (.var cq))∧aG k=φ k)
 (h3:∀k kt es,L[k]?=some (.mp kt es)→(∃aB,L'[k]?=some (.mp kt aB))∧aG k=φ k)
 (h4:∀k s st cut fr z,L[k]?=some (.row s st cut fr z)→¬bad k→(∃lr,L'[k]?=some (.row s lr cut fr z))∧aG k=φ k∧∀id,φ k=some id→ah.at id=σ.at id):jZ ev gW R φ L σ R' aG L' ah bad:=
 ⟨h0,h1,h2,h3,fun k s st cut fr z hk hb=>by
  obtain⟨⟨lr,a⟩,b,c⟩:=h4 k s st cut fr z hk hb;exact⟨⟨lr,fr,z,a,fun es he=>⟨es,h0 _ _ he,rfl⟩⟩,b,fun id cs au mn hid aA=>⟨cs,mn,by rw[c id hid];exact aA,rfl,fun h=>h⟩⟩⟩
theorem JE.step{k s lo len:Nat}{cut:Bool}{x:IV}(h1:aG k=φ k)(h2:∀id cs au mn,φ k=some id→σ.at id=some (.cells cs au mn)→∃cq oS,ah.at id=some (.cells cq au oS)∧cq.length=cs.length∧(mn=au→oS=au))
 (h:JE φ σ k s cut lo len x):JE aG ah k s cut lo len x:=by
 rcases h with⟨a,b,c⟩|⟨id,cs,au,mn,cap,a,b,c,d,e,f⟩
 ·exact .inl ⟨by rw[h1];exact a,b,c⟩
 ·obtain⟨cq,oS,g1,g2,g3⟩:=h2 id cs au mn a b;exact .inr ⟨id,cq,au,oS,cap,by rw[h1];exact a,g1,c,d,fun x y=>by rw[g2];exact e x y,fun c hc=>by rw[g2];exact⟨g3 (f c hc).1,(f c hc).2⟩⟩
theorem cz.step(hs:jZ ev gW R φ L σ R' aG L' ah bad){x:IV}{c:Cl α}(bo:c.ok bad)(h:cz ev R φ L σ x c):cz gW R' aG L' ah x c:=by
 cases c with
 |un=>trivial
 |v z=>obtain⟨y,h1,h2⟩:=h;exact⟨y,hs.up _ _ h1,h2⟩
 |w fr z=>obtain⟨y,h1,h2,h3⟩:=h;exact⟨y,hs.up _ _ h1,h2.mono hs.grow,h3⟩
 |pt k off ext=>
  obtain⟨id,cs,h1,h2,h3⟩:=h;obtain⟨⟨cq,h4⟩,h5⟩:=hs.var k cs h2;exact⟨id,cq,by rw[h5];exact h1,h4,h3⟩
 |tp cs=>
  obtain⟨ds,h1,h2⟩:=h;exact⟨ds,h1,h2.mono fun d c ⟨y,h3,h4⟩=>⟨y,hs.up _ _ h3,h4⟩⟩
 |tw fr cs=>
  obtain⟨h0,h|⟨id,off,ep,m,cA,au,mn,h1,h2,h3,h4,h5,h6,h7,h8⟩⟩:=h
  ·obtain⟨hf,ds,h1,h2⟩:=h;exact⟨fun c hc=>(h0 c hc).imp fun y hy=>⟨hs.up _ _ hy.1,hy.2⟩,.inl ⟨hf,ds,h1,h2.mono fun d c ⟨y,h3,h4⟩=>⟨y,hs.up _ _ h3,h4⟩⟩⟩
  ·obtain⟨cq,ik,N8,hle,HN⟩:=hs.grow.keep id m cA au mn h1 h2;obtain⟨m',N9,hmm⟩:=hs.grow.le id m h1;refine⟨fun c hc=>(h0 c hc).imp fun y hy=>⟨hs.up _ _ hy.1,hy.2⟩,.inr ⟨id,off,ep,m',cq,ik,mn,N9,N8,h3,aq2 h4 hle,h5,by omega,hs.grow.fits id m' cq ik mn N9 N8,fun j c d hd hc=>?_⟩⟩;have hj:=(aqF.1 hd).1;rw[HN _ (by omega)]at hc;obtain⟨y,zR,HO⟩:=h8 j c d hd hc;exact⟨y,hs.up _ _ zR,HO.mono hs.grow⟩
 |sr k=>
  obtain⟨s,st,cut,fr,z,es,h1,he,h2⟩:=h;obtain⟨⟨lr,cX,z',h3,h6⟩,h4,h5⟩:=hs.row k _ _ _ _ _ h1 bo;obtain⟨aB,h7,h8⟩:=h6 es he;exact⟨s,lr,cut,cX,z',aB,h3,h7,h8▸h2.step h4 h5⟩
 |sv k lo=>
  obtain⟨s,st,cut,fr,z,es,y,n,h1,he,hy,hn,hl,h2⟩:=h;obtain⟨⟨lr,cX,z',h3,h6⟩,h4,h5⟩:=hs.row k _ _ _ _ _ h1 bo;obtain⟨aB,h7,h8⟩:=h6 es he;exact⟨s,lr,cut,cX,z',aB,y,n,h3,h7,hs.up _ _ hy,hn,by omega,h2.elim (fun h2=>.inl (h8▸h2.step h4 h5)) (fun h2=>.inr ⟨by omega,h2.2⟩)⟩
 |pr k i off ext=>
  obtain⟨s,st,cut,fr,z,es,y,n,id,cs,au,mn,h1,he,hy,hn,hl,hx,h6,h7,h8⟩:=h;obtain⟨⟨lr,cX,z',h3,h9⟩,h4,h5⟩:=hs.row k _ _ _ _ _ h1 bo;obtain⟨aB,FQ,HP⟩:=h9 es he;obtain⟨cq,oS,g1,g2,g3⟩:=h5 id cs au mn h6 h7;exact⟨s,lr,cut,cX,z',aB,y,n,id,cq,au,oS,h3,FQ,hs.up _ _ hy,hn,by omega,hx,by rw[h4];exact h6,g1,h8⟩
 |mp k=>
  obtain⟨id,kt,es,h1,h2,h3⟩:=h;obtain⟨⟨aB,h4⟩,h5⟩:=hs.map k kt es h2;exact⟨id,kt,aB,by rw[h5];exact h1,h4,h3⟩
 |nl b s=>exact h
 |fn f bs=>
  rcases h with h|⟨ys,h1,h2⟩
  ·exact .inl h
  ·refine .inr ⟨ys,h1,h2.mono fun y p ⟨id,cs,h3,h4,h5⟩=>?_⟩;obtain⟨⟨cq,h6⟩,h7⟩:=hs.var p.1 cs h4;exact⟨id,cq,by rw[h7];exact h3,h6,h5⟩
def PV.ok(bad:Nat→Prop):PV α→Prop
 |.one c=>c.ok bad
 |.ag cs=>∀c∈cs,c.ok bad
 |.tu vs=>∀p∈vs,∀c∈p.2,c.ok bad
theorem VR.step(hs:jZ ev gW R φ L σ R' aG L' ah bad){x:IV}{c:PV α}(bo:c.ok bad)(h:VR ev R φ L σ x c):VR gW R' aG L' ah x c:=by
 cases c with
 |one c=>exact cz.step hs bo h
 |ag cs=>
  obtain⟨xs,h1,h2⟩:=h;exact⟨xs,h1,h2.wG fun a b hb bT=>cz.step hs (bo b hb) bT⟩
 |tu vs=>
  obtain⟨xs,h1,h2⟩:=h;refine⟨xs,h1,h2.wG fun a p hp bT=>?_⟩;unfold sJ at bT⊢;split at bT
  ·rename_i hb;rw[if_pos hb];obtain⟨ys,h3,h4⟩:=bT;exact⟨ys,h3,h4.wG fun a b hb bT=>cz.step hs (bo p hp b hb) bT⟩
  ·rename_i hb;rw[if_neg hb];obtain⟨c,h3,h4⟩:=bT;exact⟨c,h3,cz.step hs (bo p hp c (by rw[h3];simp)) h4⟩
def LO.ok(bad:Nat→Prop):LO α→Prop
 |.var cs=>∀c∈cs,c.ok bad
 |_=>True
theorem OR.step(hs:jZ ev gW R φ L σ R' aG L' ah bad){k:Nat}{o:LO α}(ky:aG k=φ k)(aA:∀id,φ k=some id→ah.at id=σ.at id∧R' id=R id)(bo:o.ok bad)(h:OR ev R φ L σ k o):OR gW R' aG L' ah k o:=by
 cases o with
 |var cs=>
  obtain⟨id,cA,h1,h2,h3,h4⟩:=h;obtain⟨h6,h7⟩:=aA id h1;exact⟨id,cA,by rw[ky];exact h1,by rw[h7];exact h2,by rw[h6];exact h3,h4.wG fun a b hb bT=>cz.step hs (bo b hb) bT⟩
 |row s st cut fr z=>
  obtain⟨h1,es,h2,h3,h4⟩:=h;refine⟨h1,es,hs.up _ _ h2,h3,?_⟩;rcases h4 with⟨h4,h5⟩|⟨id,cs,au,mn,h4,h5,h6,h7,h8,h9,FQ⟩
  ·exact .inl ⟨by rw[ky];exact h4,h5⟩
  ·obtain⟨ha,hb⟩:=aA id h4;exact .inr ⟨id,cs,au,mn,by rw[ky];exact h4,by rw[ha];exact h5,h6,h7,by rw[hb];exact h8,h9,fun j x d hx hd=>(FQ j x d hx hd).mono hs.grow⟩
 |mp kt z=>
  rw[gB]at h⊢;by_cases hk:gp kt=true
  ·rw[if_pos hk]at h⊢;rcases h with⟨h0,id,ba,p,h1,h2,h3,h4⟩|⟨h0,id,m,ds,seen,rem,rest,h1,h2,h3,⟨ly,z',h8⟩,h9,h4,h5⟩
   ·obtain⟨h6,h7⟩:=aA id h2;exact .inl ⟨h0,id,ba,p,hs.up _ _ h1,by rw[ky];exact h2,by rw[h7];exact h3,by rw[h6];exact h4⟩
   ·obtain⟨h6,h7⟩:=aA id h2;obtain⟨⟨aB,g1⟩,g2⟩:=hs.map _ _ _ h8;exact .inr ⟨h0,id,m,ds,seen,rem,rest,hs.up _ _ h1,by rw[ky];exact h2,by rw[h7];exact h3,⟨ly,aB,g1⟩,by rw[g2];exact h9,by rw[h6];exact h4,h5⟩
  ·rw[if_neg hk]at h⊢;obtain⟨id,es,clock,ds,h1,h2,h3,h4,h5⟩:=h;obtain⟨h6,h7⟩:=aA id h2;exact⟨id,es,clock,ds,hs.up _ _ h1,by rw[ky];exact h2,by rw[h7];exact h3,by rw[h6];exact h4,h5.1.mono fun a d ⟨z,h8,h9⟩=>⟨z,h8,h9.mono hs.grow⟩,h5.2⟩
 |dead=>trivial
variable{Γ FR:Gm α}{E:Nat→Env}
def qn(E:Nat→Env)(d:Nat)(e:Env):Nat→Env:=fun j=>if j=d then e else E j
@[simp] theorem bY(E:Nat→Env)(d:Nat)(e:Env):qn E d e d=e:=by simp[qn]
def AN(d t:Nat):List (Nat×Nat×PV α)→List (Nat×Nat×PV α)
 |[]=>[]
 |(d',t',pv)::g=>if(aqP d d'&&aqP t t')=true then AN d t g else(d',t',pv)::AN d t g
theorem GB{d t d' t':Nat}{pv:PV α}:∀(g:List (Nat×Nat×PV α)),ct d' t' (AN d t g)=some pv→¬(d'=d∧t'=t)∧ct d' t' g=some pv:=by
 intro g;induction g with
 |nil=>intro h;cases h
 |cons p g ih=>
  obtain⟨a,b,q⟩:=p;intro h;unfold AN at h;split at h
  ·rename_i bT;simp only[aqG,ark]at bT;obtain⟨h1,h2⟩:=ih h;refine⟨h1,?_⟩;unfold ct;rw[if_neg]
   ·exact h2
   ·simp only[aqG,ark];rintro⟨rfl,rfl⟩;exact h1 ⟨bT.1.symm,bT.2.symm⟩
  ·rename_i bT;simp only[aqG,ark]at bT;unfold ct at h⊢;split at h
   ·rename_i hc;rw[if_pos hc];simp only[aqG,ark]at hc;obtain⟨rfl,rfl⟩:=hc;exact⟨fun hh=>bT ⟨hh.1.symm,hh.2.symm⟩,h⟩
   ·rename_i hc;rw[if_neg hc];exact ih h
def N_(d t:Nat)(pv:PV α)(g:List (Nat×Nat×PV α)):List (Nat×Nat×PV α):=(d,t,pv)::AN d t g
theorem mL{d t a b:Nat}{q pv:PV α}{g:List (Nat×Nat×PV α)}(h:ct d t ((a,b,q)::g)=some pv):(d=a∧t=b∧pv=q)∨(¬(d=a∧t=b)∧ct d t g=some pv):=by
 unfold ct at h;split at h
 ·rename_i hc;simp only[aqG,ark]at hc;cases h;exact .inl ⟨hc.1,hc.2,rfl⟩
 ·rename_i hc;simp only[aqG,ark]at hc;exact .inr ⟨hc,h⟩
theorem Cn(e:Env)(dst:Option Nat)(x:IV)(t:Nat)(h:dst≠some t):(e.put dst x).at t=e.at t:=by
 cases dst with
 |none=>rfl
 |some d=>rw[Env.cS,if_neg (fun hc=>h (by rw[hc.2]))]
theorem J.UJ(h:J ev R φ Γ L E σ)(d:Nat)(dst:Option Nat)(x:IV)(fS:∀t,dst=some t→FR=AN d t Γ)(hn:dst=none→FR=Γ):J ev R φ FR L (qn E d ((E d).put dst x)) σ:=by
 refine{h with slot:=fun d' t' pv hg=>?_}
 have hold:¬(d'=d∧dst=some t')∧ct d' t' Γ=some pv:=by
  cases hd:dst with
  |none=>rw[hn hd]at hg;exact⟨fun hh=>(by cases hh.2),hg⟩
  |some t=>
   rw[fS t hd]at hg;obtain⟨h1,h2⟩:=GB Γ hg;exact⟨fun hh=>h1 ⟨hh.1,(by injection hh.2 with hh;exact hh.symm)⟩,h2⟩
 have:=h.slot d' t' pv hold.2;unfold qn;split
 ·rename_i hd;subst hd;rw[Cn _ _ _ _ (fun hh=>hold.1 ⟨rfl,hh⟩)];exact this
 ·exact this
theorem J.put(h:J ev R φ Γ L E σ)(d:Nat){t:Nat}(ht:t<(E d).n){x:IV}{pv:PV α}(hx:VR ev R φ L σ x pv):J ev R φ (N_ d t pv Γ) L (qn E d ((E d).put (some t) x)) σ:=by
 have hb:=h.UJ (FR:=AN d t Γ) d (some t) x (fun t' h=>by cases h;rfl) (fun h=>by cases h);refine{hb with slot:=fun d' t' Co hg=>?_};rcases mL hg with⟨rfl,rfl,rfl⟩|⟨_,h2⟩
 ·rw[bY,Env.cS,if_pos ⟨ht,rfl⟩];exact hx
 ·exact hb.slot d' t' Co h2
theorem J.less(h:J ev R φ Γ L E σ)(hs:∀d t pv,ct d t FR=some pv→ct d t Γ=some pv):J ev R φ FR L E σ:={h with slot:=fun d t pv ht=>h.slot d t pv (hs d t pv ht)}
end Go.Ev
namespace Go.Ev
variable{P:Program}{σ ah:St}{R R':Rs}{φ aG:Ph}{α:Type}{ev gW:α→Option IV}{L L':List (LO α)}{bad:Nat→Prop}{Γ FR:Gm α}{E:Nat→Env}
theorem J.qF(h:J ev R φ Γ L E σ):R σ.n=none:=by
 cases hr:R σ.n with
 |none=>rfl
 |some m=>exact absurd (h.p6 _ _ hr) (Nat.lt_irrefl _)
theorem c7{α:Type}{l:List α}{i:Nat}{a:α}(h:l[i]?=some a):i<l.length:=(aqF.1 h).1
def bQ(φ:Ph)(k id:Nat):Ph:=fun j=>if j=k then some id else φ j
theorem La(h:J ev R φ Γ L E σ)(ob:Ob):iv R σ R (σ.add ob):=by
 refine⟨fun _ m h=>⟨m,h,aqK _⟩,fun id m cs au mn hR aA=>⟨cs,au,?_,aqK _,fun _ _=>rfl⟩,fun id m cs au mn hR aA=>?_⟩
 ·have:=h.p6 _ _ hR;rw[St.gP,if_neg (by omega)];exact aA
 ·have:=h.p6 _ _ hR;rw[St.gP,if_neg (by omega)]at aA;exact h.fits _ _ _ _ _ hR aA
theorem EN(h:J ev R φ Γ L E σ)(ob:Ob)(lo:LO α):jZ ev ev R φ L σ R (bQ φ L.length σ.n) (L++[lo]) (σ.add ob) (fun _=>False):=by
 have hL:∀k o,L[k]?=some o→(L++[lo])[k]?=some o∧bQ φ L.length σ.n k=φ k:=fun k o hk=>by
  have:=c7 hk;exact⟨by rw[aqQ this];exact hk,by simp[bQ,show k≠L.length by omega]⟩
 refine .mk' (fun _ _ h=>h) (La h ob) (fun k cs hk=>⟨⟨cs,(hL k _ hk).1⟩,(hL k _ hk).2⟩) (fun k kt es hk=>⟨⟨es,(hL k _ hk).1⟩,(hL k _ hk).2⟩) (fun k s st cut fr z hk _=>⟨⟨st,(hL k _ hk).1⟩,(hL k _ hk).2,fun id hid=>?_⟩);have:=(h.lt _ _ hid).2;rw[St.gP,if_neg (by omega)]
theorem Cl.aU(c:Cl α):c.ok (fun _=>False):=by cases c<;>simp[Cl.ok]
theorem PV.aU(c:PV α):c.ok (fun _=>False):=by
 cases c with
 |one c=>exact c.aU
 |ag cs=>exact fun c _=>c.aU
 |tu vs=>exact fun _ _ c _=>c.aU
theorem LO.aU(o:LO α):o.ok (fun _=>False):=by
 cases o with
 |var cs=>exact fun c _=>c.aU
 |_=>trivial
theorem J.xm(h:J ev R φ Γ L E σ)(ob:Ob)(lo:LO α)(ho:OR ev R (bQ φ L.length σ.n) (L++[lo]) (σ.add ob) L.length lo):J ev R (bQ φ L.length σ.n) Γ (L++[lo]) E (σ.add ob):=by
 have hs:=EN h ob lo;refine⟨fun d t pv hg=>(h.slot d t pv hg).step hs pv.aU,fun k o hk=>?_,fun k k' id h1 h2=>?_,fun k id hk=>?_,fun id m hR=>?_,hs.grow.fits,h.wf.set _ _,fun id hid=>?_⟩
 ·by_cases ot:k<L.length
  ·rw[aqQ ot]at hk;refine(h.obj k o hk).step hs (by simp[bQ,show k≠L.length by omega]) (fun id hid=>⟨?_,rfl⟩) o.aU;have:=(h.lt _ _ hid).2;rw[St.gP,if_neg (by omega)]
  ·have:k=L.length:=by have:=c7 hk;simp at this;omega
   subst this;simp at hk;subst hk;exact ho
 ·unfold bQ at h1 h2;split at h1<;>split at h2
  ·omega
  ·cases h1;have:=(h.lt _ _ h2).2;omega
  ·cases h2;have:=(h.lt _ _ h1).2;omega
  ·exact h.inj k k' id h1 h2
 ·unfold bQ at hk;split at hk
  ·cases hk;simp[St.add];omega
  ·have:=h.lt _ _ hk;simp[St.add];omega
 ·have:=h.p6 _ _ hR;simp[St.add];omega
 ·have iH:σ.n+1≤id:=hid;rw[St.gP,if_neg (by omega)];exact h.top id (by omega)
theorem J.up(h:J ev R φ Γ L E σ)(ef:∀e z,ev e=some z→gW e=some z):J gW R φ Γ L E σ:=by
 have hs:jZ ev gW R φ L σ R φ L σ (fun _=>False):=(.mk' ef (iv.refl h.fits) (fun k cs hk=>⟨⟨cs,hk⟩,rfl⟩) (fun k kt es hk=>⟨⟨es,hk⟩,rfl⟩) (fun k s st cut fr z hk _=>⟨⟨st,hk⟩,rfl,fun _ _=>rfl⟩));exact{h with slot:=fun d t pv hg=>(h.slot d t pv hg).step hs pv.aU,obj:=fun k o hk=>(h.obj k o hk).step hs rfl (fun _ _=>⟨rfl,rfl⟩) o.aU}
theorem VR.up{x:IV}{pv:PV α}(h:J ev R φ Γ L E σ)(hx:VR ev R φ L σ x pv)(ef:∀e z,ev e=some z→gW e=some z):VR gW R φ L σ x pv:=
 hx.step (bad:=fun _=>False) (.mk' ef (iv.refl h.fits) (fun k cs hk=>⟨⟨cs,hk⟩,rfl⟩) (fun k kt es hk=>⟨⟨es,hk⟩,rfl⟩) (fun k s st cut fr z hk _=>⟨⟨st,hk⟩,rfl,fun _ _=>rfl⟩)) pv.aU
def Cl.drop(k:Nat):Cl α→Cl α
 |.sr k'=>if aqP k' k=true then .un else .sr k'
 |.sv k' lo=>if aqP k' k=true then .un else .sv k' lo
 |.pr k' i off ext=>if aqP k' k=true then .un else .pr k' i off ext
 |c=>c
def PV.drop(k:Nat):PV α→PV α
 |.one c=>.one (c.drop k)
 |.ag cs=>.ag (cs.map (Cl.drop k))
 |.tu vs=>.tu (vs.map fun p=>(p.1,p.2.map (Cl.drop k)))
def LO.drop(k:Nat):LO α→LO α
 |.var cs=>.var (cs.map (Cl.drop k))
 |o=>o
def HQ(k:Nat):List (Nat×Nat×PV α)→List (Nat×Nat×PV α)
 |[]=>[]
 |(d,t,pv)::g=>(d,t,pv.drop k)::HQ k g
theorem Cl.me(k:Nat)(c:Cl α):(c.drop k).ok (·=k):=by
 cases c<;>simp only[Cl.drop]<;>first|trivial|(split<;>first|trivial|(rename_i hh;simpa[Cl.ok,ark]using hh))
theorem PV.me(k:Nat)(c:PV α):(c.drop k).ok (·=k):=by
 cases c with
 |one c=>exact c.me k
 |ag cs=>intro c hc;simp at hc;obtain⟨a,_,rfl⟩:=hc;exact a.me k
 |tu vs=>intro p hp c hc;obtain⟨q,_,rfl⟩:=List.mem_map.1 hp;simp at hc;obtain⟨a,_,rfl⟩:=hc;exact a.me k
theorem LO.me(k:Nat)(o:LO α):(o.drop k).ok (·=k):=by
 cases o with
 |var cs=>intro c hc;simp at hc;obtain⟨a,_,rfl⟩:=hc;exact a.me k
 |_=>trivial
theorem cz.drop{x:IV}{c:Cl α}(k:Nat)(h:cz ev R φ L σ x c):cz ev R φ L σ x (c.drop k):=by
 cases c<;>simp only[Cl.drop]<;>first|exact h|(split<;>first|trivial|exact h)
theorem VR.drop{x:IV}{c:PV α}(k:Nat)(h:VR ev R φ L σ x c):VR ev R φ L σ x (c.drop k):=by
 cases c with
 |one c=>exact cz.drop k h
 |ag cs=>
  obtain⟨xs,h1,h2⟩:=h;exact⟨xs,h1,h2.map fun a b bT=>bT.drop k⟩
 |tu vs=>
  obtain⟨xs,h1,h2⟩:=h;refine⟨xs,h1,h2.map fun a p bT=>?_⟩;unfold sJ at bT⊢;split at bT
  ·rename_i hb;rw[if_pos hb];obtain⟨ys,h3,h4⟩:=bT;exact⟨ys,h3,h4.map fun a b bT=>bT.drop k⟩
  ·rename_i hb;rw[if_neg hb];obtain⟨c,h3,h4⟩:=bT;exact⟨c.drop k,by simp[h3],h4.drop k⟩
theorem GC(h:J ev R φ Γ L E σ)(k:Nat):jZ ev ev R φ L σ R φ (L.map (LO.drop k)) σ (fun _=>False):=by
 refine .mk' (fun _ _ h=>h) (iv.refl h.fits) (fun j cs hj=>⟨⟨cs.map (Cl.drop k),?_⟩,rfl⟩) (fun j kt es hj=>⟨⟨es,?_⟩,rfl⟩) (fun j s st cut fr z hj _=>⟨⟨st,?_⟩,rfl,fun _ _=>rfl⟩)<;>simp[aqU,hj,LO.drop]
theorem Dk{d t k:Nat}{pv:PV α}:∀(g:Gm α),ct d t (HQ k g)=some pv→∃q,ct d t g=some q∧pv=q.drop k:=by
 intro g;induction g with
 |nil=>intro h;cases h
 |cons p g ih=>
  obtain⟨a,b,q⟩:=p;intro h;rcases mL h with⟨rfl,rfl,rfl⟩|⟨h1,h2⟩
  ·exact⟨q,by simp[ct],rfl⟩
  ·obtain⟨q',h3,h4⟩:=ih h2;refine⟨q',?_,h4⟩;unfold ct;rw[if_neg]
   ·exact h3
   ·simpa[ark]using h1
theorem J.UK(h:J ev R φ Γ L E σ)(k:Nat):J ev R φ (HQ k Γ) (L.map (LO.drop k)) E σ:=by
 have hs:=GC h k;refine{h with slot:=fun d t pv hg=>?_,obj:=fun j o hj=>?_,lt:=fun j id hj=>by simpa using h.lt j id hj}
 ·obtain⟨q,h1,rfl⟩:=Dk Γ hg;exact((h.slot d t q h1).drop k).step hs (PV.aU _)
 ·rw[aqU]at hj;obtain⟨o',h1,rfl⟩:=aqL.1 hj;have ho:=(h.obj j o' h1).step hs rfl (fun _ _=>⟨rfl,rfl⟩) (LO.aU _);cases o' with
  |var cs=>
   obtain⟨id,cA,a,b,c,d⟩:=ho;exact⟨id,cA,a,b,c,d.map fun _ _ bT=>bT.drop k⟩
  |row=>exact ho
  |mp=>exact ho
  |dead=>exact ho
theorem J.sK(h:J ev R φ Γ L E σ){k id:Nat}{lo jK:LO α}{eE:Ob}(hid:φ k=some id)(hk:L[k]?=some lo)(hR:∀j,j≠id→R' j=R j)
 (hle:∀m,R id=some m→∃m',R' id=some m'∧m≤m')
 (HN:∀m cs au mn,R id=some m→σ.at id=some (.cells cs au mn)→∃cq ik,eE=.cells cq ik mn∧au≤ik∧∀j,j<m→cq[j]?=cs[j]?)
 (vU:∀m cs au mn,R' id=some m→eE=.cells cs au mn→m≤cs.length)
 (hv:∀cs,lo=.var cs→∃cq,jK=.var cq)(hm:∀kt es,lo=.mp kt es→∃aB,jK=.mp kt aB)(hr:∀s st cut fr z,lo=.row s st cut fr z→bad k)
 (Lb:∀d t pv,ct d t Γ=some pv→pv.ok bad)(hL:∀j o,L[j]?=some o→j≠k→o.ok bad)
 (ho:jZ ev ev R φ L σ R' φ (L.set k jK) (σ.put id eE) bad→OR ev R' φ (L.set k jK) (σ.put id eE) k jK):
 jZ ev ev R φ L σ R' φ (L.set k jK) (σ.put id eE) bad∧J ev R' φ Γ (L.set k jK) E (σ.put id eE):=by
 have ot:=c7 hk;have aT:∀j,j≠k→(L.set k jK)[j]?=L[j]? :=fun j hj=>atK (fun hc=>hj hc.symm);have aW:(L.set k jK)[k]?=some jK:=by simp[ot]
 have JF:∀j br,j≠k→φ j=some br→br≠id:=fun j br hj fJ hc=>hj (h.inj j k id (by rw[←hc];exact fJ) hid)
 have pI:iv R σ R' (σ.put id eE):=by
  refine⟨fun br m hm=>?_,fun br m cs au mn hm aA=>?_,fun br m cs au mn hm aA=>?_⟩
  ·by_cases hc:br=id
   ·subst hc;exact hle m hm
   ·exact⟨m,by rw[hR br hc];exact hm,aqK _⟩
  ·by_cases hc:br=id
   ·subst hc;obtain⟨cq,ik,h1,h2,h3⟩:=HN m cs au mn hm aA;exact⟨cq,ik,by rw[St.cS,if_pos rfl,h1],h2,h3⟩
   ·exact⟨cs,au,by rw[St.cS,if_neg (fun hh=>hc hh.symm)];exact aA,aqK _,fun _ _=>rfl⟩
  ·by_cases hc:br=id
   ·subst hc;rw[St.cS,if_pos rfl]at aA;exact vU m cs au mn hm (by injection aA)
   ·rw[St.cS,if_neg (fun hh=>hc hh.symm)]at aA;exact h.fits br m cs au mn (by rw[←hR br hc];exact hm) aA
 have hs:jZ ev ev R φ L σ R' φ (L.set k jK) (σ.put id eE) bad:=by
  refine .mk' (fun _ _ h=>h) pI (fun j cs hj=>?_) (fun j kt es hj=>?_) (fun j s st cut fr z hj hb=>?_)
  ·by_cases bD:j=k
   ·subst bD;rw[hk]at hj;injection hj with hj
    obtain⟨cq,h1⟩:=hv cs hj;exact⟨⟨cq,by rw[aW,h1]⟩,rfl⟩
   ·exact⟨⟨cs,by rw[aT j bD];exact hj⟩,rfl⟩
  ·by_cases bD:j=k
   ·subst bD;rw[hk]at hj;injection hj with hj
    obtain⟨cq,h1⟩:=hm kt es hj;exact⟨⟨cq,by rw[aW,h1]⟩,rfl⟩
   ·exact⟨⟨es,by rw[aT j bD];exact hj⟩,rfl⟩
  ·by_cases bD:j=k
   ·subst bD;rw[hk]at hj;injection hj with hj
    exact absurd (hr _ _ _ _ _ hj) hb
   ·exact⟨⟨st,by rw[aT j bD];exact hj⟩,rfl,fun br iH=>by rw[St.cS,if_neg (fun hc=>JF j br bD iH hc.symm)]⟩
 refine⟨hs,⟨fun d t pv hg=>(h.slot d t pv hg).step hs (Lb d t pv hg),fun j o hj=>?_,h.inj,fun j br hj=>by simpa[St.put]using h.lt j br hj,fun br m hm=>?_,pI.fits,h.wf.set _ _,fun br iH=>?_⟩⟩
 ·by_cases bD:j=k
  ·subst bD;rw[aW]at hj;cases hj;exact ho hs
  ·rw[aT j bD]at hj;exact(h.obj j o hj).step hs rfl (fun br iH=>⟨by rw[St.cS,if_neg (fun hc=>JF j br bD iH hc.symm)],hR _ (JF j br bD iH)⟩) (hL j o hj bD)
 ·by_cases hc:br=id
  ·subst hc;exact(h.lt _ _ hid).2
  ·rw[hR br hc]at hm;exact h.p6 _ _ hm
 ·have:=(h.lt _ _ hid).2;have MV:σ.n≤br:=iH;rw[St.cS,if_neg (by omega)];exact h.top br MV
theorem J.aeW(h:J ev R φ Γ L E σ){k:Nat}{lo jK:LO α}{eE:Ob}(hk:L[k]?=some lo)(hR:∀j,j≠σ.n→R' j=R j)
 (vU:∀m cs au mn,R' σ.n=some m→eE=.cells cs au mn→m≤cs.length)
 (hr:∃s st cut fr z,lo=.row s st cut fr z)(hb:bad k)
 (Lb:∀d t pv,ct d t Γ=some pv→pv.ok bad)(hL:∀j o,L[j]?=some o→j≠k→o.ok bad)
 (ho:jZ ev ev R φ L σ R' (bQ φ k σ.n) (L.set k jK) (σ.add eE) bad→OR ev R' (bQ φ k σ.n) (L.set k jK) (σ.add eE) k jK):
 jZ ev ev R φ L σ R' (bQ φ k σ.n) (L.set k jK) (σ.add eE) bad∧J ev R' (bQ φ k σ.n) Γ (L.set k jK) E (σ.add eE):=by
 have ot:=c7 hk;have aT:∀j,j≠k→(L.set k jK)[j]?=L[j]? :=fun j hj=>atK (fun hc=>hj hc.symm);have aW:(L.set k jK)[k]?=some jK:=by simp[ot]
 have ky:∀j,j≠k→bQ φ k σ.n j=φ j:=fun j hj=>by simp[bQ,hj]
 have pI:iv R σ R' (σ.add eE):=by
  refine⟨fun br m hm=>?_,fun br m cs au mn hm aA=>?_,fun br m cs au mn hm aA=>?_⟩
  ·have:=h.p6 _ _ hm;exact⟨m,by rw[hR br (by omega)];exact hm,aqK _⟩
  ·have:=h.p6 _ _ hm;exact⟨cs,au,by rw[St.gP,if_neg (by omega)];exact aA,aqK _,fun _ _=>rfl⟩
  ·by_cases hc:br=σ.n
   ·subst hc;rw[St.gP,if_pos rfl]at aA;exact vU m cs au mn hm (by injection aA)
   ·rw[St.gP,if_neg (fun hh=>hc hh.symm)]at aA;exact h.fits br m cs au mn (by rw[←hR br hc];exact hm) aA
 have hs:jZ ev ev R φ L σ R' (bQ φ k σ.n) (L.set k jK) (σ.add eE) bad:=by
  obtain⟨s,st,cut,fr,z,rfl⟩:=hr;refine .mk' (fun _ _ h=>h) pI (fun j cs hj=>?_) (fun j kt es hj=>?_) (fun j s st cut fr z hj pY=>?_)
  ·by_cases bD:j=k
   ·subst bD;rw[hk]at hj;cases hj
   ·exact⟨⟨cs,by rw[aT j bD];exact hj⟩,ky j bD⟩
  ·by_cases bD:j=k
   ·subst bD;rw[hk]at hj;cases hj
   ·exact⟨⟨es,by rw[aT j bD];exact hj⟩,ky j bD⟩
  ·by_cases bD:j=k
   ·subst bD;exact absurd hb pY
   ·exact⟨⟨st,by rw[aT j bD];exact hj⟩,ky j bD,fun br iH=>by have:=(h.lt _ _ iH).2;rw[St.gP,if_neg (by omega)]⟩
 refine⟨hs,⟨fun d t pv hg=>(h.slot d t pv hg).step hs (Lb d t pv hg),fun j o hj=>?_,fun j j' br h1 h2=>?_,fun j br hj=>?_,fun br m hm=>?_,pI.fits,h.wf.set _ _,fun br iH=>?_⟩⟩
 ·by_cases bD:j=k
  ·subst bD;rw[aW]at hj;cases hj;exact ho hs
  ·rw[aT j bD]at hj;refine(h.obj j o hj).step hs (ky j bD) (fun br iH=>?_) (hL j o hj bD);have:=(h.lt _ _ iH).2;exact⟨by rw[St.gP,if_neg (by omega)],hR _ (by omega)⟩
 ·unfold bQ at h1 h2;split at h1<;>split at h2
  ·omega
  ·cases h1;have:=(h.lt _ _ h2).2;omega
  ·cases h2;have:=(h.lt _ _ h1).2;omega
  ·exact h.inj j j' br h1 h2
 ·unfold bQ at hj;split at hj
  ·cases hj;rename_i hh;subst hh;simp[St.add];omega
  ·have:=h.lt _ _ hj;simp[St.add];omega
 ·by_cases hc:br=σ.n
  ·simp[St.add];omega
  ·rw[hR br hc]at hm;have:=h.p6 _ _ hm;simp[St.add];omega
 ·have MV:σ.n+1≤br:=iH;rw[St.gP,if_neg (by omega)];exact h.top br (by omega)
end Go.Ev
namespace Go.Ev
variable{P:Program}{N:Nat}{ι:Io}{w:World}{σ ah:St}{e:Env}{rd:Option Nat}{fn:FuncId}{df:List Df}
abbrev jG:=Ex→Env→St→Prop
def dz(P:Program)(N:Nat)(rd:Option Nat)(c:Code)(e:Env)(df:List Df)(σ:St)(CW:jG):Prop:=
 ∀F ι a w Q,jX F rd ι→Inv N ι σ w→cZ ι e a.tmps→jJ ι df a.defers→(∀ex e' ah,CW ex e' ah→mW N 0 ι w σ ⟨ex,e',df,ah⟩ Q)→c.wpIn F 0 P Q a w
def nU(P:Program)(N:Nat)(rd:Option Nat)(j:Nat)(c:Code)(e:Env)(df:List Df)(σ:St)(CW:jG):Prop:=
 ∀F ι a w Q,jX F rd ι→Inv N ι σ w→cZ ι e a.tmps→jJ ι df a.defers→(∀ex e' ah,CW ex e' ah→mW N 0 ι w σ ⟨ex,e',df,ah⟩ Q)→Code.roundsIn F 0 P c Q j a w
def dg(P:Program)(N:Nat)(rd:Option Nat)(ops:Array Oper)(l:List Oper)(e:Env)(df:List Df)(σ:St)(CW:jG):Prop:=
 ∀F ι a w Q k,ops.toList.drop k=l→jX F rd ι→Inv N ι σ w→cZ ι e a.tmps→jJ ι df a.defers→(∀ex e' ah,CW ex e' ah→mW N 0 ι w σ ⟨ex,e',df,ah⟩ Q)→
  wpOpsIn F 0 P ops Q (as0 k l.length) a w
def dF(P:Program)(N:Nat)(f:FuncId)(args:List IV)(σ:St)(RW:IV→St→Prop):Prop:=
 ∀ι us w,Inv N ι σ w→ax ι args us→CallsIn arb 0 P f us.toArray w (fun ed w'=>∃v ah,RW v ah∧vR N 0 ι w σ v ah ed w')
variable{CW CW':jG}
theorem xn{ex:Ex}{a:Act}{Q:Exit→Act→World→Prop}(hi:Inv N ι σ w)(he:cZ ι e a.tmps)(hd:jJ ι df a.defers)(hQ:mW N 0 ι w σ ⟨ex,e,df,σ⟩ Q)(hp:Ux ι [] ex):Q (Gq [] ex) a w:=
 hQ a w ι [] hi (Le.refl _ _ _ _) he hd hp
theorem dz.skip(h:CW .normal e σ):dz P N rd .skip e df σ CW:=
 fun _ ι a w _ _ hi he hd hQ=>wpIn_skip (xn hi he hd (hQ _ _ _ h) trivial)
theorem dz.label{l:Nat}(h:CW .normal e σ):dz P N rd (.label l) e df σ CW:=
 fun _ ι a w _ _ hi he hd hQ=>wpIn_label (xn hi he hd (hQ _ _ _ h) trivial)
theorem dz.exit{id:Nat}(h:CW (.exit id) e σ):dz P N rd (.exit id) e df σ CW:=
 fun _ ι a w _ _ hi he hd hQ=>wpIn_exit (xn hi he hd (hQ _ _ _ h) trivial)
theorem dz.ret(h:CW .ret e σ):dz P N rd .ret e df σ CW:=
 fun _ ι a w _ _ hi he hd hQ=>wpIn_ret (xn hi he hd (hQ _ _ _ h) trivial)
def va(N:Nat)(next:Env→St→Prop)(CW:jG):jG:=fun ex e1 ai=>ai.n≤N∧(ex=.normal→next e1 ai)∧(ex≠.normal→CW ex e1 ai)
theorem dz.seq{x y:Code}(h:dz P N rd x e df σ (va N (fun e1 ai=>dz P N rd y e1 df ai CW) CW)):dz P N rd (.seq x y) e df σ CW:=by
 intro F ι a w Q hF hi he hd hQ;refine wpIn_seq (h F ι a w _ hF hi he hd fun ex e1 ai hc=>?_);obtain⟨hn,h1,h2⟩:=hc;intro a1 w1 b_ eO i1 l1 cV d1 p1;cases ex with
 |normal=>
  refine h1 rfl F b_ a1 w1 Q (hF.mono l1.ext) i1 cV d1 fun ex e' ah hc=>(hQ ex e' ah hc).from hi l1 hn
 |exit id=>exact hQ _ _ _ (h2 (by simp)) a1 w1 b_ eO i1 l1 cV d1 p1
 |goto l=>exact hQ _ _ _ (h2 (by simp)) a1 w1 b_ eO i1 l1 cV d1 p1
 |ret=>exact hQ _ _ _ (h2 (by simp)) a1 w1 b_ eO i1 l1 cV d1 p1
 |bU v=>exact hQ _ _ _ (h2 (by simp)) a1 w1 b_ eO i1 l1 cV d1 p1
theorem dz.cond{c:Operand}{x y:Code}{t:Bool}(hc:aq e c=.raw (.bool t))(h:dz P N rd (if t then x else y) e df σ CW):dz P N rd (.cond c x y) e df σ CW:=
 fun F ι a w Q hF hi he hd hQ=>wpIn_cond (Gr hc (he.eval c)) (h F ι a w Q hF hi he hd hQ)
theorem dz.block{id:Nat}{x:Code}(h:dz P N rd x e df σ (fun ex e1 ai=>CW (match ex with|.exit i=>if i=id then .normal else .exit i|ex=>ex) e1 ai)):dz P N rd (.block id x) e df σ CW:=by
 intro F ι a w Q hF hi he hd hQ;refine wpIn_block (h F ι a w _ hF hi he hd fun ex e1 ai hc=>?_);intro a1 w1 b_ eO i1 l1 cV d1 p1;cases ex with
 |exit i=>
  simp only[Gq,Exit.inBlock];simp only at hc;split
  ·rename_i hh;rw[if_pos hh]at hc;exact hQ _ _ _ hc a1 w1 b_ eO i1 l1 cV d1 trivial
  ·rename_i hh;rw[if_neg hh]at hc;exact hQ _ _ _ hc a1 w1 b_ eO i1 l1 cV d1 trivial
 |normal=>exact hQ _ _ _ hc a1 w1 b_ eO i1 l1 cV d1 p1
 |goto l=>exact hQ _ _ _ hc a1 w1 b_ eO i1 l1 cV d1 p1
 |ret=>exact hQ _ _ _ hc a1 w1 b_ eO i1 l1 cV d1 p1
 |bU v=>exact hQ _ _ _ hc a1 w1 b_ eO i1 l1 cV d1 p1
theorem dz.scope{x:Code}(h:dz P N rd x e df σ (fun ex e1 ai=>(∀l,ex≠.goto l)∧CW ex e1 ai)):dz P N rd (.scope x) e df σ CW:=by
 intro F ι a w Q hF hi he hd hQ;refine HD (h F ι a w _ hF hi he hd fun ex e1 ai hc=>?_);obtain⟨hx,hc⟩:=hc;intro a1 w1 b_ eO i1 l1 cV d1 p1;have:=hQ _ _ _ hc a1 w1 b_ eO i1 l1 cV d1 p1;cases hh:ex<;>rw[hh]at this<;>first|exact absurd hh (hx _)|exact this
theorem nU.succ{x:Code}{j:Nat}(h:dz P N rd x e df σ (va N (fun e1 ai=>nU P N rd j x e1 df ai CW) CW)):nU P N rd (j+1) x e df σ CW:=by
 intro F ι a w Q hF hi he hd hQ;rw[roundsIn_succ];refine h F ι a w _ hF hi he hd fun ex e1 ai hc=>?_;obtain⟨hn,h1,h2⟩:=hc;intro a1 w1 b_ eO i1 l1 cV d1 p1;cases ex with
 |normal=>
  refine h1 rfl F b_ a1 w1 Q (hF.mono l1.ext) i1 cV d1 fun ex e' ah hc=>(hQ ex e' ah hc).from hi l1 hn
 |exit id=>exact hQ _ _ _ (h2 (by simp)) a1 w1 b_ eO i1 l1 cV d1 p1
 |goto l=>exact hQ _ _ _ (h2 (by simp)) a1 w1 b_ eO i1 l1 cV d1 p1
 |ret=>exact hQ _ _ _ (h2 (by simp)) a1 w1 b_ eO i1 l1 cV d1 p1
 |bU v=>exact hQ _ _ _ (h2 (by simp)) a1 w1 b_ eO i1 l1 cV d1 p1
theorem dz.loop{x:Code}{j:Nat}(h:nU P N rd j x e df σ CW):dz P N rd (.loop x) e df σ CW:=
 fun F ι a w Q hF hi he hd hQ=>wpIn_loop_rounds j (h F ι a w Q hF hi he hd hQ)
theorem dz.region{id:Nat}{ops:Array Oper}(h:dg P N rd ops ops.toList e df σ CW):dz P N rd (.region id ops false) e df σ CW:=by
 intro F ι a w Q hF hi he hd hQ;refine wpIn_region ?_;have:=h F ι a w Q 0 (by simp) hF hi he hd hQ;rw[List.range_eq_range'];simpa using this
theorem dz.HR{c:Code}{cr:CR}(h:fx P 0 rd fn c e df σ cr)(hdf:cr.df=df)(hn:cr.σ.n≤N)(hc:CW cr.ex cr.e cr.σ):dz P N rd c e df σ CW:=by
 intro F ι a w Q hF hi he hd hQ;refine h.wp hn hF hi he hd ?_;have:=hQ _ _ _ hc;rw[←hdf]at this;exact this
variable{ops:Array Oper}{o:Oper}{l:List Oper}
theorem dg.nil(h:CW .normal e σ):dg P N rd ops [] e df σ CW:=
 fun _ ι a w _ _ _ _ hi he hd hQ=>xn hi he hd (hQ _ _ _ h) trivial
theorem dg.cons(hw:aJ o ops e=true)
 (h:∀F ι a w Q k,ops.toList.drop (k+1)=l→jX F rd ι→Inv N ι σ w→cZ ι e a.tmps→jJ ι df a.defers→(∀ex e' ah,CW ex e' ah→mW N 0 ι w σ ⟨ex,e',df,ah⟩ Q)→
  o.wpIn F 0 P a w (wpOpsIn F 0 P ops Q (as0 (k+1) l.length)) Q):dg P N rd ops (o::l) e df σ CW:=by
 intro F ι a w Q k hl hF hi he hd hQ
 have fY:ops.toList.drop (k+1)=l:=by
  rw[←atm (i:=1) (j:=k),hl];rfl
 have bo:ops[k]?=some o:=by
  have:(ops.toList.drop k)[0]?=some o:=by rw[hl];rfl
  simpa using this
 simp only[ary,aul];rw[wpOpsIn_cons];unfold wpOpIn;rw[bo];simp only;rw[rJ he,if_pos hw];exact h F ι a w Q k fY hF hi he hd hQ
theorem dg.skip(hw:aJ o ops e=false)(h:dg P N rd ops l (e.put o.dst .undef) df σ CW):dg P N rd ops (o::l) e df σ CW:=by
 intro F ι a w Q k hl hF hi he hd hQ
 have fY:ops.toList.drop (k+1)=l:=by
  rw[←atm (i:=1) (j:=k),hl];rfl
 have bo:ops[k]?=some o:=by
  have:(ops.toList.drop k)[0]?=some o:=by rw[hl];rfl
  simpa using this
 simp only[ary,aul];rw[wpOpsIn_cons];unfold wpOpIn;rw[bo];simp only;rw[rJ he,hw,if_neg (by simp)];exact⟨fun f _=>hF.fn f,h F ι _ w Q (k+1) fY hF hi (he.put q_ _) (by cases o.dst<;>exact hd) hQ⟩
theorem dg.val{v:IV}{ai:St}(hw:aJ o ops e=true)(hv:ak P 0 (aq e) o σ=some (.val v ai))(hn:ai.n≤N)(h:dg P N rd ops l (e.put o.dst v) df ai CW):dg P N rd ops (o::l) e df σ CW:=by
 refine .cons hw fun F ι a w Q k hl hF hi he hd hQ=>?_;refine⟨fun f _=>hF.fn f,?_⟩;rw[asp _ _ _ (gV hv (by simp))];obtain⟨u,w',aC,hr,h2,h3,h4⟩:=oj hi he.eval hv hn
 have key:wpOpsIn F 0 P ops Q (as0 (k+1) l.length) (a.put o.dst u) w':=
  h F aC _ w' Q (k+1) hl (hF.mono h4.ext) h3 ((he.mono h4.ext).put h2 _) (hd.mono h4.ext|>fun x=>by cases o.dst<;>exact x) (fun ex e' ah hc=>(hQ ex e' ah hc).from hi h4 hn)
 rcases hr with hr|⟨hr,rfl⟩
 ·rw[hr,at0];exact key
 ·rw[hr,Oper.uponIn_skip];exact key
theorem dg.call{f:FuncId}{args:List IV}{RW:IV→St→Prop}(hw:aJ o ops e=true)(hv:ak P 0 (aq e) o σ=some (.enter f args))(hc:dF P N f args σ RW)
 (h:∀v ai,RW v ai→ai.n≤N∧dg P N rd ops l (e.put o.dst v) df ai CW):dg P N rd ops (o::l) e df σ CW:=by
 refine .cons hw fun F ι a w Q k hl hF hi he hd hQ=>?_;refine⟨fun f _=>hF.fn f,?_⟩;rw[asp _ _ _ (gV hv (by simp))];obtain⟨us,hr,h3⟩:=oj hi he.eval hv;rw[hr,aub];refine⟨hF.depth,(hF.calls (hc ι us w hi h3)).mono fun ed w' hR=>?_⟩;obtain⟨v,ai,qG,hR⟩:=hR;obtain⟨hn,h⟩:=h v ai qG;cases ed with
 |returned u=>
  obtain⟨aC,h2,h3,h4⟩:=hR;exact h F aC _ w' Q (k+1) hl (hF.mono h4.ext) h3 ((he.mono h4.ext).put h2 _) (hd.mono h4.ext|>fun x=>by cases o.dst<;>exact x) (fun ex e' ah hc=>(hQ ex e' ah hc).from hi h4 hn)
 |outgrown=>exact hR.elim
 |panicked chain=>exact hR.elim
theorem dF.HR{f:FuncId}{args:List IV}{v:IV}(h:gy P 0 f args σ v ah)(hn:ah.n≤N):dF P N f args σ (fun v1 ai=>v1=v∧ai=ah):=
 fun ι us w hi hr=>(h.2 N hn ι us w hi hr).mono fun ed w' hR=>⟨v,ah,⟨rfl,rfl⟩,hR⟩
theorem dF.body{f:FuncId}{fn:Func}{c:Code}{args:List IV}{RW:IV→St→Prop}(bO:P.funcs[f]?=some fn)(hb:fn.body=some c)(hlen:args.length≤fn.ntmps)
 (h:dz P N none c (cE args fn.ntmps) [] σ (fun ex e1 ai=>(ex=.normal∨ex=.ret)∧ai.n≤N∧∃v,bE P fn e1 ai=some v∧RW v ai)):dF P N f args σ RW:=by
 intro ι us w hi hr;refine callsIn_of_wp_marks bO hb trivial ?_;refine h arb ι {tmps:=us.toArray++arZ (fn.ntmps- us.toArray.size) Go.undef,defers:=[]} w _ (.inl ⟨rfl,rfl⟩) hi (xi hr hlen) trivial fun ex e1 ai hc=>?_;obtain⟨hex,hn,v,hv,qG⟩:=hc;intro a1 w1 b_ eO i1 l1 cV d1 p1
 have:∀u,oq b_ none u→LeavesInM arb 0 P fn a1.tmps (fun ed w'=>∃v ah,RW v ah∧vR N 0 ι w σ v ah ed w') a1.defers u w1:=fun u hu=>
  ra (S:=Self.none) (ro:=0) (rL (P:=P)).1 (rL (P:=P)).2 rfl d1 hu i1 hn fun w2 od u2 i2 l2 qB=>by
   rw[show u2=_ from qB];obtain⟨u,k1,k2⟩:=sx hv i2 (cV.mono l2.ext);exact⟨u,k1,v,ai,qG,od,k2,i2,Le.then hi hn l1 l2⟩
 rcases hex with rfl|rfl
 ·exact this _ rfl
 ·exact this _ rfl
def vV(P:Program)(N:Nat)(f:FuncId)(args:List IV)(σ:St)(RW PW:IV→St→Prop):Prop:=
 ∀ι us w,Inv N ι σ w→ax ι args us→CallsIn arb 0 P f us.toArray w (fun ed w'=>(∃v ah,RW v ah∧vR N 0 ι w σ v ah ed w')∨(∃v ah,PW v ah∧MR N 0 ι w σ v ah ed w'))
theorem dF.toX{f:FuncId}{args:List IV}{RW PW:IV→St→Prop}(h:dF P N f args σ RW):vV P N f args σ RW PW:=
 fun ι us w hi hr=>(h ι us w hi hr).mono fun _ _ hR=>.inl hR
theorem dg.panic{v:IV}(hw:aJ o ops e=true)(hv:ak P 0 (aq e) o σ=some (.bU v))(h:CW (.bU v) e σ):dg P N rd ops (o::l) e df σ CW:=by
 refine .cons hw fun F ι a w Q k hl hF hi he hd hQ=>?_;refine⟨fun f _=>hF.fn f,?_⟩;rw[asp _ _ _ (gV hv (by simp))];obtain⟨u,hr,h3⟩:=oj hi he.eval hv;rw[hr,Oper.uponIn_panic];exact hQ _ _ _ h a w ι [{v:=u,recovered:=false}] hi (Le.refl _ _ _ _) he hd ⟨u,rfl,h3⟩
theorem dg.UL{f:FuncId}{args:List IV}{RW PW:IV→St→Prop}(hw:aJ o ops e=true)(hv:ak P 0 (aq e) o σ=some (.enter f args))(hc:vV P N f args σ RW PW)
 (h:∀v ai,RW v ai→ai.n≤N∧dg P N rd ops l (e.put o.dst v) df ai CW)(hp:∀v ai,PW v ai→CW (.bU v) e ai):dg P N rd ops (o::l) e df σ CW:=by
 refine .cons hw fun F ι a w Q k hl hF hi he hd hQ=>?_;refine⟨fun f _=>hF.fn f,?_⟩;rw[asp _ _ _ (gV hv (by simp))];obtain⟨us,hr,h3⟩:=oj hi he.eval hv;rw[hr,aub];refine⟨hF.depth,(hF.calls (hc ι us w hi h3)).mono fun ed w' hR=>?_⟩;rcases hR with⟨v,ai,qG,hR⟩|⟨v,ai,hpw,hR⟩
 ·obtain⟨hn,h⟩:=h v ai qG;cases ed with
  |returned u=>
   obtain⟨aC,h2,h3,h4⟩:=hR;exact h F aC _ w' Q (k+1) hl (hF.mono h4.ext) h3 ((he.mono h4.ext).put h2 _) (hd.mono h4.ext|>fun x=>by cases o.dst<;>exact x) (fun ex e' ah hc=>(hQ ex e' ah hc).from hi h4 hn)
  |outgrown=>exact hR.elim
  |panicked chain=>exact hR.elim
 ·cases ed with
  |returned u=>exact hR.elim
  |outgrown=>exact hR.elim
  |panicked chain=>
   obtain⟨aC,h4,h5,h6⟩:=hR;exact hQ _ _ _ (hp v ai hpw) a w' aC chain h5 h6 (he.mono h6.ext) (hd.mono h6.ext) h4
def wH(σ:St)(id:Nat)(x:IV):St:=((σ.add (.cells [.int 0] 0 0)).put σ.n (.cells [x] 0 0)).put id (.cells [x] 0 0)
def Dl(P:Program)(g:FuncId)(t:TypeId):Prop:=
 ∀(N:Nat) (cl:IV) (f:FuncId) (as:List IV) (σ:St) (RW PW Sq:IV→St→Prop),gj P cl []=some (.enter f as)→σ.n+1≤N→vV P N f as (σ.add (.cells [.int 0] 0 0)) RW PW→
  (∀v dc,RW v dc→dc.at σ.n=some (.cells [.int 0] 0 0)∧dc.n≤N∧Sq (.int 0) (dc.put σ.n (.cells [.int 0] 0 0)))→
  (∀v dc,PW v dc→∃u,v=.da t (.agg [.raw u])∧af (.raw u)=true∧dc.at σ.n=some (.cells [.int 0] 0 0)∧dc.n+1≤N∧σ.n<dc.n∧Sq (.raw u) (wH dc σ.n (.raw u)))→dF P N g [cl] σ Sq
theorem vV.body{f:FuncId}{fn:Func}{c:Code}{args:List IV}{RW PW:IV→St→Prop}(bO:P.funcs[f]?=some fn)(hb:fn.body=some c)(hlen:args.length≤fn.ntmps)
 (h:dz P N none c (cE args fn.ntmps) [] σ (fun ex e1 ai=>ai.n≤N∧(((ex=.normal∨ex=.ret)∧∃v,bE P fn e1 ai=some v∧RW v ai)∨∃v,ex=.bU v∧PW v ai))):vV P N f args σ RW PW:=by
 intro ι us w hi hr;refine callsIn_of_wp_marks bO hb trivial ?_;refine h arb ι {tmps:=us.toArray++arZ (fn.ntmps- us.toArray.size) Go.undef,defers:=[]} w _ (.inl ⟨rfl,rfl⟩) hi (xi hr hlen) trivial fun ex e1 ai hc=>?_;obtain⟨hn,hc⟩:=hc;intro a1 w1 b_ eO i1 l1 cV d1 p1;rcases hc with⟨hex,v,hv,qG⟩|⟨v,rfl,hpw⟩
 ·have:∀u,oq b_ none u→LeavesInM arb 0 P fn a1.tmps (fun ed w'=>(∃v ah,RW v ah∧vR N 0 ι w σ v ah ed w')∨(∃v ah,PW v ah∧MR N 0 ι w σ v ah ed w')) a1.defers u w1:=fun u hu=>
   ra (S:=Self.none) (ro:=0) (rL (P:=P)).1 (rL (P:=P)).2 rfl d1 hu i1 hn fun w2 od u2 i2 l2 qB=>by
    rw[show u2=_ from qB];obtain⟨u,k1,k2⟩:=sx hv i2 (cV.mono l2.ext);exact⟨u,k1,.inl ⟨v,ai,qG,od,k2,i2,Le.then hi hn l1 l2⟩⟩
  rcases hex with rfl|rfl
  ·exact this _ rfl
  ·exact this _ rfl
 ·have:∀u,oq b_ (some v) u→LeavesInM arb 0 P fn a1.tmps (fun ed w'=>(∃v ah,RW v ah∧vR N 0 ι w σ v ah ed w')∨(∃v ah,PW v ah∧MR N 0 ι w σ v ah ed w')) a1.defers u w1:=fun u hu=>
   ra (S:=Self.none) (ro:=0) (rL (P:=P)).1 (rL (P:=P)).2 rfl d1 hu i1 hn fun w2 od u2 i2 l2 qB=>by
    obtain⟨x,rfl,hx⟩:=qB;exact .inr ⟨v,ai,hpw,od,⟨x,rfl,hx⟩,i2,Le.then hi hn l1 l2⟩
  obtain⟨u,rfl,hu⟩:=p1;exact this _ ⟨u,rfl,hu⟩
theorem eV.Cp{new:Bool}{f:FuncId}{xs:List IV}{z:IV}{RW:IV→St→Prop}{N:Nat}(h:dF P N f xs ⟨0,.lf⟩ RW)(hc:∀v ah,RW v ah→Can (!new) ah v z):eV P false new f xs z:=by
 intro M w us hM hr;refine(h (eo M) us w (EH hM) hr).mono fun e w' hR=>?_;obtain⟨v,ah,qG,hR⟩:=hR;cases e with
 |returned u=>
  obtain⟨aC,h1,h2,h3⟩:=hR;exact⟨rfl,Sl hM (hc v ah qG) h1 h2 h3⟩
 |panicked ch=>exact hR.elim
 |outgrown=>exact hR.elim
end Go.Ev
namespace Go.Ev
variable{P:Program}{N:Nat}{ι:Io}{w:World}{σ ah:St}{e:Env}{rd:Option Nat}{fn:FuncId}{df:List Df}{CW:jG}{ops:Array Oper}{o:Oper}{l:List Oper}
theorem aeX(t m:Nat)(h:m<1000000):((t+1)*1000000+m) % 1000000=m:=by omega
theorem abM(t m:Nat):1000000≤(t+1)*1000000+m:=by omega
theorem abN{kt:Nat}(h:1000000≤kt)(h0:kt=0):False:=by omega
theorem Dm{kt:Nat}(h:1000000≤kt):gp kt=true:=by
 unfold gp;rw[arl];exact .inr (by simpa using h)
theorem Left.init(ds:List IV):Left ds [] ds:=by
 refine⟨ds.zipIdx,by simp,by simp[List.zipIdx_map_snd,List.nodup_range'],fun p hp=>⟨?_,by simp⟩,fun i hi _=>?_⟩
 ·obtain⟨a,b⟩:=p;exact arM.1 hp
 ·exact⟨(ds[i],i),arM.2 (aqE hi),rfl⟩
theorem vt{α β:Type}(f:α→β):∀(l:List α) (i:Nat),(l.map f).eraseIdx i=(l.eraseIdx i).map f
 |[],_=>rfl
 |_::_,0=>rfl
 |_::l,i+1=>by simp[vt f l i]
theorem Left.empty{ds:List IV}{seen:List Nat}{rem:List IV}(h:Left ds seen rem)(hs:∀i,i<ds.length→i∈seen):rem=[]:=by
 obtain⟨ps,rfl,_,h3,_⟩:=h;cases ps with
 |nil=>rfl
 |cons p ps=>
  obtain⟨h1,h2⟩:=h3 p (by simp);exact absurd (hs _ (aqF.1 h1).1) h2
theorem Oa{p:Nat→Nat→Prop}:∀(n:Nat),(∀i,i<n→∃b,∀N,b≤N→p i N)→∃b,∀i,i<n→∀N,b≤N→p i N
 |0,_=>⟨0,fun i hi=>absurd hi (Nat.not_lt_zero _)⟩
 |n+1,h=>by
  obtain⟨b,hb⟩:=Oa n fun i hi=>h i (by omega);obtain⟨c,hc⟩:=h n (by omega);refine⟨max b c,fun i hi N hN=>?_⟩;by_cases he:i=n
  ·subst he;exact hc N (by omega)
  ·exact hb i (by omega) N (by omega)
theorem Left.has{ds:List IV}{seen:List Nat}{rem:List IV}(h:Left ds seen rem){i:Nat}(hi:i<ds.length)(hn:i∉seen):∃(j:Nat) (y:IV),rem[j]?=some y∧ds[i]?=some y∧Left ds (seen++[i]) (rem.eraseIdx j):=by
 obtain⟨ps,rfl,h2,h3,h4⟩:=h;obtain⟨p,hp,rfl⟩:=h4 i hi hn;obtain⟨j,hj⟩:=atH.1 hp;refine⟨j,p.1,by simp[hj],(h3 p hp).1,ps.eraseIdx j,by rw[vt],?_,fun q hq=>?_,fun i hi hn=>?_⟩
 ·rw[←vt];exact h2.sublist (List.eraseIdx_sublist _ _)
 ·obtain⟨k,hk,hkq⟩:=aud.1 hq;have vb:=aqS hkq;refine⟨(h3 q vb).1,?_⟩;simp only[aqX,arx,not_or];refine⟨(h3 q vb).2,fun he=>hk ?_⟩;have a1:(ps.map (·.2))[k]?=some p.2:=by simp[hkq,he]
  have a2:(ps.map (·.2))[j]?=some p.2:=by simp[hj]
  have mK:=(aqF.1 a1).1;exact(List.getElem?_inj mK h2).1 (a1.trans a2.symm)
 ·simp only[aqX,arx,not_or]at hn;obtain⟨q,hq,rfl⟩:=h4 i hi hn.1;obtain⟨k,hk⟩:=atH.1 hq;refine⟨q,aud.2 ⟨k,fun he=>?_,hk⟩,rfl⟩;subst he;rw[hj]at hk;cases hk;exact hn.2 rfl
theorem JG(n:Nat)(hn:0<n)(w:World):∃i w',i<n∧(choose (.mapNext n)).run P w=.ok i w'∧(w'=w∨w'={w with drawn:=w.drawn+1}):=by
 by_cases h:n≤1
 ·exact⟨0,w,hn,by simp[choose,asv,asD,h],.inl rfl⟩
 ·exact⟨w.tape w.drawn (.mapNext n) % n,_,Nat.mod_lt _ hn,by simp[choose,asv,asD,h,Question.cut],.inr rfl⟩
theorem RC{r m:Nat}{res:Array MapEntry}{seen:Array Nat}{n clock:Nat}{t:TypeId}(hh:w.heap[r]?=some (.mapIter (some m) n seen n))(FK:w.heap[m]?=some (.map res clock))(hn:clock=n)(hb:∀e∈res,e.born<n):
 ∃w0,(w0=w∨w0={w with drawn:=w.drawn+1})∧(((∀e∈res,e.born∈seen)∧(asP (.pointer (some ⟨r,0,none⟩)) false t).run P w=.ok (.tuple #[.bool false]) w0)∨
  ∃e∈res,e.born∉seen∧(asP (.pointer (some ⟨r,0,none⟩)) false t).run P w=.ok (.tuple #[.bool true,e.key,e.val]) {w0 with heap:=w0.heap.setIfInBounds r (.mapIter (some m) n (seen.push e.born) n)}):=by
 subst hn
 have bK:¬((!seen.isEmpty&& !res.isEmpty&&res.all (fun e=>decide (e.born≥clock)))=true):=by
  intro hc;simp only[aqG,Array.all_eq_true_iff_forall_mem,decide_eq_true_eq]at hc;have aT:res.size≠0:=by have:=hc.1.2;simpa using this
  have:=hc.2 (res[0]'(by omega)) (by simp)
  have:=hb (res[0]'(by omega)) (by simp)
  omega
 have hold:∀left:Array MapEntry,(∀e∈left,e∈res)→left.filter (fun e=>decide (e.born<clock))=left:=fun left hl=>by
  rw[Array.filter_eq_self];intro a ha;simp[hb a (hl a ha)]
 have eR:∀left:Array MapEntry,(∀e∈left,e∈res)→left.filter (fun e=>decide (e.born≥clock))= #[]:=fun left hl=>by
  rw[Array.filter_eq_empty_iff];intro a ha;have:=hb a (hl a ha);simp;omega
 have eY:∀e∈res.filter (fun e=> !seen.contains e.born),e∈res:=fun e he=>(at5.1 he).1;generalize MW:res.filter (fun e=> !seen.contains e.born)=left at eY;by_cases hl:left= #[]
 ·subst hl;refine⟨w,.inl rfl,.inl ⟨fun e he=>?_,?_⟩⟩
  ·have h1:e∉res.filter (fun e=> !seen.contains e.born):=by rw[MW];simp
   refine arq fun hn=>h1 (at5.2 ⟨he,?_⟩);simpa using hn
  ·simp only[asP,aqM,bP (P:=P) hh (by simp),aqJ,bP (P:=P) FK (by simp)];rw[if_neg bK];simp only[aqM,MW,hold #[] eY,eR #[] eY];simp[choose,asv,asD]
 ·have aL:0<(left.map some).size:=by
   have:left.size≠0:=by simpa using hl
   simp;omega
  obtain⟨c,w0,hc,fF,FT⟩:=JG (P:=P) (left.map some).size aL w;have wY:c<left.size:=by simpa using hc
  have w7:left[c]∈left:=by simp
  refine⟨w0,FT,.inr ⟨left[c],eY _ w7,?_,?_⟩⟩
  ·have:left[c]∈res.filter (fun e=> !seen.contains e.born):=by rw[MW];exact w7
   have:=(at5.1 this).2;simpa using this
  ·have Hz:w0.heap[r]?=some (.mapIter (some m) clock seen clock):=by
    rcases FT with rfl|rfl<;>exact hh
   have hem:left.isEmpty=false:=by simpa using hl
   simp only[asP,aqM,bP (P:=P) hh (by simp),aqJ,bP (P:=P) FK (by simp)];rw[if_neg bK];simp only[aqM,MW,hold left eY,eR left eY,hem,Bool.false_eq_true,if_false,Array.empty_append,Array.append_empty,fF,aqJ];have:(left.map some)[c]?=some (some left[c]):=by simp[wY]
   rw[this];simp only[aqM,eD (P:=P) Hz (by simp),aqJ,Sem.run_pure]
theorem dg.aij{it:Operand}{id m:Nat}{es:List (Value×IV×Nat)}{seen:List Nat}{clock:Nat}(hw:aJ o ops e=true)(ho:o.op=.next it false)(hit:aq e it=.ptr id 0 0 1)
 (aA:σ.at id=some (.jm (some m) es.length seen es.length))(ND:σ.at m=some (.map es clock))(hc:Canon es clock)(hN:σ.n≤N)
 (h0:(∀i,i<es.length→i∈seen)→dg P N rd ops l (e.put o.dst (.av [.bool false])) df σ CW)
 (h1:∀i en,es[i]?=some en→i∉seen→dg P N rd ops l (e.put o.dst (.av [.bool true,lift en.1,en.2.1])) df (σ.put id (.jm (some m) es.length (seen++[i]) es.length)) CW):dg P N rd ops (o::l) e df σ CW:=by
 refine .cons hw fun F ι a w Q k hl hF hi he hd hQ=>?_;refine⟨fun f _=>hF.fn f,?_⟩;rw[asp _ _ _ (fun c hc=>by rw[ho]at hc;cases hc)];have hr:=he.eval it;rw[hit]at hr;generalize hq:a.eval it=q at hr;cases hr with
 |ptr _ _ _ _ lo ye hle=>
  have aa:lo.b<w.heap.size:=hi.iw id _ ⟨_,_,ye,rfl⟩;obtain⟨l',mr,cd,hh,lm,NC,rfl⟩:=hi.obj id _ aA;rw[ye]at cd;cases cd;obtain⟨lm',res,CY,FK,om⟩:=hi.obj m _ ND;rw[NC]at CY;cases CY;have dU:=hc.1
  have UM:∀(i:Nat) (r:MapEntry),res[i]?=some r→i<es.length∧r.born=i:=by
   intro i r hr;have cT:i<es.length:=by have:=(Array.getElem?_eq_some_iff.1 hr).1;rw[om.1];exact this
   exact⟨cT,((om.2 i es[i] r (aqE cT) hr).2.2).trans (hc.2 i _ (aqE cT))⟩
  have p4:∀r∈res,∃i,res[i]?=some r:=fun r hr=>by
   obtain⟨i,hi,rfl⟩:=Array.mem_iff_getElem.1 hr;exact⟨i,aq7 hi⟩
  obtain⟨w0,FT,ej⟩:=RC (P:=P) (t:=o.type) hh FK dU (fun r hr=>by
   obtain⟨i,hi⟩:=p4 r hr;have:=UM i r hi;omega)
  have Cg:Inv N ι σ w0:=by rcases FT with rfl|rfl;exact hi;exact hi.same rfl
  have aeY:Le 0 ι w σ ι w0 σ:=by rcases FT with rfl|rfl;exact Le.refl _ _ _ _;exact Le.same rfl rfl rfl rfl
  rcases ej with⟨bp,fF⟩|⟨r,hrm,FU,fF⟩
  ·have hx:(execOp a.eval o).run P w=.ok (.value (.tuple #[.bool false])) w0:=by
    simp only[execOp,ho,hq];simp only[aqM,awk,fF];rfl
   rw[hx,at0];refine h0 (fun i hi=>?_) F ι _ w0 Q (k+1) hl hF Cg (he.put (pG (ax.cons (.raw _) ax.nil)) _) (by cases o.dst<;>exact hd) (fun ex e' ah hc=>(hQ ex e' ah hc).from hi aeY hN);have cT:i<res.size:=by rw[←om.1];exact hi
   have:=bp res[i] (by simp);rw[(UM i res[i] (aq7 cT)).2]at this;simpa using this
  ·obtain⟨i,hri⟩:=p4 r hrm;obtain⟨tL,Ns⟩:=UM i r hri
   have hx:(execOp a.eval o).run P w=.ok (.value (.tuple #[.bool true,r.key,r.val])) {w0 with heap:=w0.heap.setIfInBounds lo.b (.mapIter (some lm.b) es.length (seen.toArray.push r.born) es.length)}:=by
    simp only[execOp,ho,hq];simp only[aqM,awk,fF];rfl
   rw[hx,at0];obtain⟨hk,hv,hb⟩:=om.2 i es[i] r (aqE tL) hri;have jH:lo.b<w0.heap.size:=by rcases FT with rfl|rfl<;>exact aa
   obtain⟨r1,r2⟩:=Cg.kg (ro:=0) (eE:=.jm (some m) es.length (seen++[i]) es.length) (go:=.mapIter (some lm.b) es.length (seen.toArray.push r.born) es.length) aA (Nat.zero_le _) ye ⟨lo,some lm.b,ye,by simp[jH,Ns],lm,NC,rfl⟩;have GD:=Le.then hi hN aeY r2;refine h1 i es[i] (aqE tL) (by rw[Ns]at FU;simpa using FU) F ι _ _ Q (k+1) hl hF r1 (he.put ?_ _) (by cases o.dst<;>exact hd) (fun ex e' ah hc=>(hQ ex e' ah hc).from hi GD hN);rw[←hk];exact pG (ax.cons (.raw _) (ax.cons (Rv.lift _) (ax.cons hv ax.nil)))
end Go.Ev
namespace Go.Ev
attribute [local instance] aeU
variable{P:Program}{ro:Nat}{σ:St}{ρ:Operand→IV}{o:Oper}{out:ey}
structure jL where
 nt:Nat
 cC:List Nat
 emp:List Nat
 tg:List (Nat×Nat):=[]
 ld:List (Nat×Nat×Nat×Nat):=[]
def vu(l:List Nat)(t:Nat):Bool:=l.any (aqP t)
def HS(l:List Nat):Operand→Bool
 |.tmp t=>vu l t
 |_=>false
def jL.del(T:jL):Option Nat→jL
 |some d=>⟨T.nt,T.cC.filter (fun t=> !aqP t d),T.emp.filter (fun t=> !aqP t d),T.tg.filter (fun p=> !aqP p.1 d),T.ld.filter (fun p=> !aqP p.2.1 d&& !aqP p.2.2.1 d)⟩
 |none=>T
def Oc(T:jL)(o:Oper):jL:=
 let D:=T.del o.dst
 match o.dst with
 |some d=>if !arH d T.nt then D else match o.op with
  |.fieldAddr _ x _=>if HS T.cC x then{D with cC:=d::D.cC}else D
  |.buildSlice _ 0 _=>if o.guard.isNone then{D with emp:=d::D.emp}else D
  |_=>D
 |_=>D
def EO(l:List (Nat×Nat))(t:Nat):Option Nat:=
 match l with
 |[]=>none
 |(a,h)::l=>if aqP a t then some h else EO l t
def Od(T:jL)(o:Oper):List (Nat×Nat):=
 match o.guard,o.dst,o.op with
 |none,some d,.fieldAddr _ (.tmp x) _=>(match EO T.tg x with
  |some h=>if arH d T.nt then(d,h)::(T.del o.dst).tg else(T.del o.dst).tg
  |none=>(T.del o.dst).tg)
 |_,_,_=>(T.del o.dst).tg
def Oe(T:jL)(o:Oper)(j:Nat):List (Nat×Nat×Nat×Nat):=
 match db o with
 |.pure=>(T.del o.dst).ld
 |.load=>(match o.guard,o.dst,o.op with
  |none,some d,.load _ (.tmp a)=>(match EO T.tg a with
   |some h=>if arH d T.nt&& !aqP a d then(j,a,d,h)::(T.del o.dst).ld else(T.del o.dst).ld
   |none=>(T.del o.dst).ld)
  |_,_,_=>(T.del o.dst).ld)
 |_=>[]
def FV(T:jL)(o:Oper)(j:Nat):jL:={Oc T o with tg:=Od T o,ld:=Oe T o j}
def GF(pl:dM)(j:Nat):Bool:=
 (asc j).all fun i=>aq0 (pl.bW.getD j 0) i||(match pl.kinds.getD i .effect with|.alloc|.effect|.call=>false|_=>true)
def aeZ(pl:dM)(j:Nat):Bool:=
 (asc j).all fun i=>aq0 (pl.bW.getD j 0) i||(match pl.kinds.getD i .effect with|.effect=>false|_=>true)
def AO(pl:dM)(j:Nat):Bool:=
 (asc j).all fun i=>aq0 (pl.bW.getD j 0) i||(match pl.kinds.getD i .effect with|.pure=>true|_=>false)
def JH(o:Oper):Option Operand:=
 match o.op with
 |.call {callee:=.builtin .append,args,.. }=>args.toList.head?
 |_=>none
def JI(P:Program)(o:Oper):Bool:=
 match o.op with
 |.call {callee:=.builtin .len,argTypes,.. }=>match(argTypes[0]?).bind P.underlying with
  |some (.slice _)|some .string=>true
  |_=>false
 |_=>false
def Dn(pl:dM)(T:jL)(o:Oper)(j:Nat):Bool:=
 match o.guard,o.op with
 |none,.store _ (.tmp a) _=>(match EO T.tg a with
  |some g=>GF pl j&&(asc j).all fun i=>aq0 (pl.bW.getD j 0) i||(match pl.kinds.getD i .effect with
   |.load=>T.ld.any fun p=>aqP p.1 i&& !aqP p.2.2.2 g
   |.effect=>false
   |_=>true)
  |none=>false)
 |_,_=>false
def kL(P:Program)(pl:dM)(T:jL)(o:Oper)(j:Nat):Bool:=
 match pl.kinds.getD j .effect with
 |.pure=>db o==.pure
 |.alloc=>db o==.alloc&&true
 |.load=>db o==.load&&(GF pl j||(aeZ pl j&&(JI P o||match o.op with|.load _ a=>HS T.cC a|_=>false)))
 |.call=>db o==.call&&GF pl j&&(zQ o||(match JH o with|some a=>HS T.emp a|none=>false))
 |.effect=>AO pl j||Dn pl T o j
def mh(P:Program)(pl:dM):List (Oper×Nat)→jL→Bool
 |[],_=>true
 |(o,j)::l,T=>kL P pl T o j&&mh P pl l (FV T o j)
def Z4(n0:Nat)(x:IV):Prop:=(∃id off ep ext,x=.ptr id off ep ext∧id<n0)∨(∃cs,x=.kU cs)∨x=.undef
structure lK(n0:Nat)(e:Env)(T:jL):Prop where
 n:e.n=T.nt
 cC:∀t,vu T.cC t=true→Z4 n0 (e.at t)
 emp:∀t,vu T.emp t=true→e.at t=.emp
theorem zk{l:List Nat}{d t:Nat}(h:vu (l.filter fun t=> !aqP t d) t=true):vu l t=true∧t≠d:=by
 unfold vu at h⊢;rw[aum]at h⊢;obtain⟨x,hx,hxt⟩:=h;obtain⟨h1,h2⟩:=arN.1 hx;have:=aqO hxt;subst this;exact⟨⟨t,h1,by simp⟩,fun h=>by subst h;simp at h2⟩
theorem yq{l:List Nat}{d t:Nat}(h:vu (d::l) t=true):t=d∨vu l t=true:=by
 unfold vu at h⊢;simp only[List.any_cons,arl]at h;exact h.imp (fun h=>aqO h) id
theorem fj{e:Env}{d t:Nat}{v:IV}(h:t≠d):(e.put (some d) v).at t=e.at t:=by
 unfold Env.put Env.at;simp only;split
 ·rw[T.fQ,if_neg (Ne.symm h)]
 ·rfl
theorem dH{e:Env}{d:Nat}{v:IV}(h:d<e.n):(e.put (some d) v).at d=v:=by
 unfold Env.put Env.at;simp only;rw[if_pos (by simpa using h),T.fQ,if_pos rfl];rfl
theorem ae0(e:Env)(d:Option Nat)(v:IV):(e.put d v).n=e.n:=by
 unfold Env.put;split
 ·rfl
 ·split<;>rfl
theorem lK.del{n0:Nat}{e:Env}{T:jL}(h:lK n0 e T)(d:Option Nat)(v:IV):lK n0 (e.put d v) (T.del d):=by
 cases d with
 |none=>exact h
 |some d=>
  refine⟨by rw[ae0];exact h.n,fun t ht=>?_,fun t ht=>?_⟩
  ·obtain⟨h1,h2⟩:=zk ht;rw[fj h2];exact h.cC t h1
  ·obtain⟨h1,h2⟩:=zk ht;rw[fj h2];exact h.emp t h1
theorem Lc{n0:Nat}{e:Env}{T:jL}(h:lK n0 e T){x:Operand}(hx:HS T.cC x=true):Z4 n0 (aq e x):=by
 cases x with
 |tmp t=>exact h.cC t hx
 |_=>cases hx
theorem W4{n0:Nat}{e:Env}{T:jL}(h:lK n0 e T){x:Operand}(hx:HS T.emp x=true):aq e x=.emp:=by
 cases x with
 |tmp t=>exact h.emp t hx
 |_=>cases hx
theorem lK.aik{n0:Nat}{e:Env}{T:jL}{v:IV}{ai:St}(h:lK n0 e T)(hv:ak P ro (aq e) o σ=some (.val v ai)):lK n0 (e.put o.dst v) (Oc T o):=by
 have hd:=h.del o.dst v;unfold Oc;simp only;split
 ·rename_i d fS;split
  ·exact hd
  ·rename_i aa;have fR:d<e.n:=by rw[h.n];simpa using aa
   split
   ·rename_i s x f ho;split
    ·rename_i hx;refine⟨hd.n,fun t ht=>?_,hd.emp⟩;rcases yq ht with rfl|ht
     ·rw[fS,dH fR];have ho:=Lc h hx;unfold ak at hv;rw[‹o.op=_›]at hv;dsimp only at hv
      repeat' split at hv
      all_goals first|(cases hv;done)|skip
      ·rename_i he _;rcases ho with⟨br,Jn,ep',ext',h1,h2⟩|⟨cs,h1⟩|h1
       ·rw[he]at h1;cases h1;have:=aE hv;cases this;exact .inl ⟨_,_,_,_,rfl,h2⟩
       ·rw[he]at h1;cases h1
       ·rw[he]at h1;cases h1
      ·have:=aE hv;cases this;exact .inr (.inl ⟨_,rfl⟩)
     ·exact hd.cC t ht
    ·exact hd
   ·rename_i t0 parts ho;split
    ·refine⟨hd.n,hd.cC,fun t ht=>?_⟩;rcases yq ht with rfl|ht
     ·rw[fS,dH fR];unfold ak at hv;rw[ho]at hv;dsimp only at hv
      repeat' split at hv
      all_goals first|(cases hv;done)|skip
      all_goals first|(have:=aE hv;cases this;rfl)|(exfalso;omega)|skip
     ·exact hd.emp t ht
    ·exact hd
   ·exact hd
 ·exact hd
theorem lK.ail{n0:Nat}{e:Env}{T:jL}{v:IV}{ops:Array Oper}(h:lK n0 e T)(hw:(aJ o ops e=false∧v=.undef)∨db o=.call∨db o=.effect):lK n0 (e.put o.dst v) (Oc T o):=by
 have hd:=h.del o.dst v;unfold Oc;simp only;split
 ·rename_i d fS;split
  ·exact hd
  ·rename_i aa;have fR:d<e.n:=by rw[h.n];simpa using aa
   rcases hw with⟨hw,rfl⟩|hw
   ·split
    ·split
     ·refine⟨hd.n,fun t ht=>?_,hd.emp⟩;rcases yq ht with rfl|ht
      ·rw[fS,dH fR];exact .inr (.inr rfl)
      ·exact hd.cC t ht
     ·exact hd
    ·split
     ·rename_i hg;unfold aJ at hw;rw[Option.isNone_iff_eq_none.1 hg]at hw;cases hw
     ·exact hd
    ·exact hd
   ·unfold db at hw;split
    ·rename_i ho;rw[ho]at hw;rcases hw with hw|hw<;>cases hw
    ·rename_i ho;rw[ho]at hw;rcases hw with hw|hw<;>cases hw
    ·exact hd
 ·exact hd
theorem UN{n0:Nat}{e:Env}{t:TypeId}{a:Operand}{v:IV}{ai:St}(ho:o.op=.load t a)(ha:Z4 n0 (aq e a))(hv:ak P ro (aq e) o σ=some (.val v ai)){ah:St}(HJ:∀id,id<n0→ah.at id=σ.at id)(fL:Nat):
 ak P fL (aq e) o ah=some (.val v ah):=by
 unfold ak at hv⊢;rw[ho]at hv⊢;dsimp only at hv⊢;rcases ha with⟨id,off,ep,ext,h1,h2⟩|⟨cs,h1⟩|h1
 ·rw[h1]at hv⊢;dsimp only at hv⊢;rw[HJ id h2]
  repeat' split at hv
  all_goals first|(cases hv;done)|skip
  have:=aE hv;cases this
  simp_all[ret]
 ·rw[h1]at hv⊢;dsimp only at hv⊢
  repeat' split at hv
  all_goals first|(cases hv;done)|skip
  have:=aE hv;cases this
  simp_all[ret]
 ·rw[h1]at hv;simp only[IV.undef]at hv
  repeat' split at hv
  all_goals first|(cases hv;done)|skip
theorem Z5{e:Env}{v:IV}{ai:St}(h:JI P o=true)(hv:ak P ro (aq e) o σ=some (.val v ai))(fL:Nat)(ah:St):ak P fL (aq e) o ah=some (.val v ah):=by
 unfold JI at h;split at h<;>first|(cases h;done)|skip
 rename_i args ats ho
 have hl:∀x τ τ' u,n9 P ats x τ=some u→n9 P ats x τ'=some u:=by
  intro x τ τ' u hu;unfold n9 at hu⊢;cases hq:(ats[0]?).bind P.underlying with
  |none=>rw[hq]at h;cases h
  |some td=>
   cases td<;>rw[hq]at h hu<;>first|(cases h;done)|skip
   all_goals
    cases x<;>first|exact hu|skip
    rename_i v;cases v<;>first|exact hu|(rename_i a b c;cases a<;>exact hu)
 simp only[ak,ho,dv]at hv⊢;split at hv<;>first|(cases hv;done)|skip
 obtain⟨u,hu,hv⟩:=aqL.1 hv;cases hv;rw[hl _ _ ah _ hu];rfl
theorem ae1{e:Env}{a:Operand}{v:IV}{ai:St}(hb:JH o=some a)(ha:aq e a=.emp)(hv:ak P ro (aq e) o σ=some (.val v ai)):(∀fL,ak P fL (aq e) o σ=some (.val v ai))∧(ai=σ∨∃ob,ai=σ.add ob):=by
 unfold JH at hb;split at hb<;>first|(cases hb;done)|skip
 rename_i args ats fi;unfold ak at hv⊢;rw[fi]at hv⊢;dsimp only at hv⊢;unfold dv at hv⊢;split at hv
 ·split at hv<;>first|(cases hv;done)|skip
  rename_i s x bc
  have hs:s=.emp:=by
   cases hl:args.toList with
   |nil=>rw[hl]at hb;cases hb
   |cons y l=>
    rw[hl]at hb bc;simp only[List.head?_cons,aqH]at hb;subst hb;simp only[List.map_cons,arF]at bc;rw[←bc.1,ha]
  subst hs;unfold kf at hv⊢
  repeat' split at hv
  all_goals first|(cases hv;done)|skip
  simp only[*];unfold eA at hv⊢;simp only at hv⊢;split at hv
  ·have:=aE hv;cases this;refine⟨fun _=>?_,.inl rfl⟩
   simp_all
  ·refine⟨fun _=>by simp_all,?_⟩;unfold ff at hv
   repeat' split at hv
   all_goals first|(cases hv;done)|skip
   have:=aE hv;cases this;exact .inr ⟨_,rfl⟩
 all_goals (first|(exfalso;simp_all;done)|(simp_all;done))
theorem lK.step{n0:Nat}{e:Env}{T:jL}{v:IV}{ai:St}(j:Nat)(h:lK n0 e T)(hv:ak P ro (aq e) o σ=some (.val v ai)):lK n0 (e.put o.dst v) (FV T o j):=
 have:=h.aik hv
 ⟨this.n,this.cC,this.emp⟩
theorem lK.skip{n0:Nat}{e:Env}{T:jL}{v:IV}{ops:Array Oper}(j:Nat)(h:lK n0 e T)(hw:(aJ o ops e=false∧v=.undef)∨db o=.call∨db o=.effect):lK n0 (e.put o.dst v) (FV T o j):=
 have:=h.ail hw
 ⟨this.n,this.cC,this.emp⟩
structure sL(P:Program)(ops:Array Oper)(θ:Nat→Option Nat)(e:Env)(σ:St)(T:jL):Prop where
 tg:∀t h,(t,h)∈T.tg→∃id off ep ext,θ h=some id∧e.at t=.ptr id off ep ext
 ld:∀i a d h,(i,a,d,h)∈T.ld→∃p ty id off ep ext,ops[i]?=some p∧p.op=.load ty (.tmp a)∧p.dst=some d∧θ h=some id∧e.at a=.ptr id off ep ext∧ak P 0 (aq e) p σ=some (.val (e.at d) σ)
theorem yr:∀{l:List (Nat×Nat)} {t h:Nat},EO l t=some h→(t,h)∈l
 |[],_,_,h=>by cases h
 |(a,q)::l,t,h,hh=>by
  unfold EO at hh;split at hh
  ·rename_i hb;have:=aqO hb;cases hh;subst this;simp
  ·exact arW _ (yr hh)
theorem Of{p:Oper}{ty:TypeId}{a:Operand}(hp:p.op=.load ty a){ρ zN:Operand→IV}(h:ρ a=zN a)(ro:Nat)(σ:St):ak P ro ρ p σ=ak P ro zN p σ:=by
 simp only[ak,hp,h]
theorem Z6{p:Oper}{ty:TypeId}{a:Operand}(hp:p.op=.load ty a){ρ:Operand→IV}{id off ep ext:Nat}{v:IV}{ai:St}(ha:ρ a=.ptr id off ep ext)(hv:ak P ro ρ p σ=some (.val v ai)){ah:St}(HJ:ah.at id=σ.at id)(fL:Nat):ak P fL ρ p ah=some (.val v ah):=by
 unfold ak at hv⊢;rw[hp]at hv⊢;dsimp only at hv⊢;rw[ha]at hv⊢;dsimp only at hv⊢;rw[HJ]
 repeat' split at hv
 all_goals first|(cases hv;done)|skip
 have:=aE hv;cases this
 simp_all[ret]
theorem ae2{T:jL}{dst:Option Nat}{t h:Nat}(hm:(t,h)∈(T.del dst).tg):(t,h)∈T.tg∧dst≠some t:=by
 cases dst with
 |none=>exact⟨hm,by simp⟩
 |some d=>
  obtain⟨h1,h2⟩:=arN.1 hm;exact⟨h1,fun he=>by cases he;simp at h2⟩
theorem ae3{T:jL}{dst:Option Nat}{i a d h:Nat}(hm:(i,a,d,h)∈(T.del dst).ld):(i,a,d,h)∈T.ld∧dst≠some a∧dst≠some d:=by
 cases dst with
 |none=>exact⟨hm,by simp,by simp⟩
 |some q=>
  obtain⟨h1,h2⟩:=arN.1 hm;exact⟨h1,fun he=>by cases he;simp at h2,fun he=>by cases he;simp at h2⟩
theorem yu{e:Env}{dst:Option Nat}{v:IV}{t:Nat}(h:dst≠some t):(e.put dst v).at t=e.at t:=by
 cases dst with
 |none=>rfl
 |some d=>exact fj fun he=>h (by rw[he])
theorem sL.Og{ops:Array Oper}{θ:Nat→Option Nat}{e:Env}{T:jL}(h:sL P ops θ e σ T)(dst:Option Nat)(v:IV):∀t q,(t,q)∈(T.del dst).tg→∃id off ep ext,θ q=some id∧(e.put dst v).at t=.ptr id off ep ext:=by
 intro t q hm;obtain⟨h1,h2⟩:=ae2 hm;rw[yu h2];exact h.tg t q h1
theorem sL.GG{ops:Array Oper}{θ:Nat→Option Nat}{e:Env}{T:jL}(h:sL P ops θ e σ T)(dst:Option Nat)(v:IV):∀i a d q,(i,a,d,q)∈(T.del dst).ld→∃p ty id off ep ext,ops[i]?=some p∧p.op=.load ty (.tmp a)∧p.dst=some d∧θ q=some id∧(e.put dst v).at a=.ptr id off ep ext∧ak P 0 (aq (e.put dst v)) p σ=some (.val ((e.put dst v).at d) σ):=by
 intro i a d q hm;obtain⟨h1,h2,h3⟩:=ae3 hm;obtain⟨p,ty,id,off,ep,ext,g1,g2,g3,g4,g5,g6⟩:=h.ld i a d q h1;refine⟨p,ty,id,off,ep,ext,g1,g2,g3,g4,by rw[yu h2];exact g5,?_⟩;rw[yu h3,←g6];exact Of g2 (by show(e.put dst v).at a=e.at a;exact yu h2) _ _
theorem sL.step{ops:Array Oper}{θ:Nat→Option Nat}{n0:Nat}{e:Env}{T:jL}{v:IV}{ai:St}{j:Nat}(hj:ops[j]?=some o)(h:sL P ops θ e σ T)(hT:lK n0 e T)(hv:ak P ro (aq e) o σ=some (.val v ai)):sL P ops θ (e.put o.dst v) ai (FV T o j):=by
 refine⟨fun t q hm=>?_,fun i a d q hm=>?_⟩
 ·have hm:(t,q)∈Od T o:=hm;unfold Od at hm;split at hm
  ·rename_i d s x f hg fS fi;split at hm
   ·rename_i hh Oh;split at hm
    ·rename_i aa;rcases arv.1 hm with he|hm
     ·cases he;obtain⟨id,off,ep,ext,g1,g2⟩:=h.tg _ _ (yr Oh);have hx:aq e (.tmp x)=.ptr id off ep ext:=g2;have fR:t<e.n:=by rw[hT.n];simpa using aa
      rw[fS,dH fR];unfold ak at hv;rw[fi]at hv;dsimp only at hv
      repeat' split at hv
      all_goals first|(cases hv;done)|skip
      ·rename_i he _;rw[hx]at he;cases he;have:=aE hv;cases this;exact⟨_,_,_,_,g1,rfl⟩
      ·rename_i he _;rw[hx]at he;cases he
     ·exact h.Og _ _ t q hm
    ·exact h.Og _ _ t q hm
   ·exact h.Og _ _ t q hm
  ·exact h.Og _ _ t q hm
 ·have hm:(i,a,d,q)∈Oe T o j:=hm;unfold Oe at hm;split at hm
  ·rename_i hk;obtain⟨rfl,_⟩:=Di hk hv;exact h.GG _ _ i a d q hm
  ·rename_i hk;obtain⟨rfl,mX⟩:=Dj hk hv;split at hm
   ·rename_i d' ty a' hg fS fi;split at hm
    ·rename_i hh Oh;split at hm
     ·rename_i hc;rcases arv.1 hm with he|hm
      ·cases he;simp only[aqG,aru]at hc;have aT:a≠d:=fun he=>by subst he;simp at hc
       have fR:d<e.n:=by rw[hT.n];simpa using hc.1
       obtain⟨id,off,ep,ext,g1,g2⟩:=h.tg _ _ (yr Oh);have ha:(e.put o.dst v).at a=e.at a:=by rw[fS];exact fj aT
       refine⟨o,ty,id,off,ep,ext,hj,fi,fS,g1,by rw[ha];exact g2,?_⟩;rw[Of fi (zN:=aq e) (show(e.put o.dst v).at a=e.at a from ha),mX 0,fS,dH fR]
      ·exact h.GG _ _ i a d q hm
     ·exact h.GG _ _ i a d q hm
    ·exact h.GG _ _ i a d q hm
   ·exact h.GG _ _ i a d q hm
  ·cases hm
theorem sL.skip{ops:Array Oper}{θ:Nat→Option Nat}{e:Env}{T:jL}{v:IV}{ai:St}{j:Nat}(h:sL P ops θ e σ T)(hw:(aJ o ops e=false∧ai=σ)∨db o=.call∨db o=.effect):sL P ops θ (e.put o.dst v) ai (FV T o j):=by
 have hgd:(aJ o ops e=false∧ai=σ)→o.guard≠none:=fun hw hg=>by
  have:=hw.1;unfold aJ at this;rw[hg]at this;cases this
 refine⟨fun t q hm=>?_,fun i a d q hm=>?_⟩
 ·have hm:(t,q)∈Od T o:=hm;unfold Od at hm;split at hm
  ·rename_i d s x f hg fS fi;rcases hw with hw|hw
   ·exact absurd hg (hgd hw)
   ·unfold db at hw;rw[fi]at hw;rcases hw with hw|hw<;>cases hw
  ·exact h.Og _ _ t q hm
 ·have hm:(i,a,d,q)∈Oe T o j:=hm;unfold Oe at hm;split at hm
  ·rename_i hk;rcases hw with⟨_,rfl⟩|hw
   ·exact h.GG _ _ i a d q hm
   ·rw[hk]at hw;rcases hw with hw|hw<;>cases hw
  ·rename_i hk;rcases hw with hw|hw
   ·obtain⟨_,rfl⟩:=id hw;split at hm
    ·rename_i hg _ _;exact absurd hg (hgd hw)
    ·exact h.GG _ _ i a d q hm
   ·rw[hk]at hw;rcases hw with hw|hw<;>cases hw
  ·cases hm
theorem W5{ty:TypeId}{a x:Operand}(ho:o.op=.store ty a x){ρ:Operand→IV}{id off ep ext:Nat}(ha:ρ a=.ptr id off ep ext){v:IV}{ai:St}(hv:ak P ro ρ o σ=some (.val v ai)):ai.n=σ.n∧∀br,br≠id→ai.at br=σ.at br:=by
 unfold ak at hv;rw[ho]at hv;dsimp only at hv;rw[ha]at hv;dsimp only at hv
 repeat' split at hv
 all_goals first|(cases hv;done)|skip
 all_goals
  have:=aE hv;cases this;exact⟨rfl,fun br aT=>by rw[St.cS,if_neg (Ne.symm aT)]⟩
theorem W6{pl:dM}{T:jL}{j:Nat}(h:Dn pl T o j=true):GF pl j=true:=by
 unfold Dn at h;split at h<;>first|(cases h;done)|skip
 split at h<;>first|(cases h;done)|skip
 simp only[aqG]at h;exact h.1
theorem EP{pl:dM}{j i:Nat}(h:GF pl j=true)(hi:i<j)(hk:aV pl i=.alloc∨aV pl i=.effect∨aV pl i=.call):aq0 (pl.bW.getD j 0) i=true:=by
 have:=aqW.1 h i (atn.2 hi);simp only[arl]at this;refine this.resolve_right fun hh=>?_;unfold aV at hk;rcases hk with hk|hk|hk<;>rw[hk]at hh<;>cases hh
theorem adp{pl:dM}{j i:Nat}(h:aeZ pl j=true)(hi:i<j)(hk:aV pl i=.effect):aq0 (pl.bW.getD j 0) i=true:=by
 have:=aqW.1 h i (atn.2 hi);simp only[arl]at this;refine this.resolve_right fun hh=>?_;unfold aV at hk;rw[hk]at hh;cases hh
theorem Sr{pl:dM}{j i:Nat}(h:AO pl j=true)(hi:i<j)(hk:aV pl i≠.pure):aq0 (pl.bW.getD j 0) i=true:=by
 have:=aqW.1 h i (atn.2 hi);simp only[arl]at this;refine this.resolve_right fun hh=>hk ?_;unfold aV;split at hh
 ·assumption
 ·cases hh
theorem Dp:∀(l:List Piece) (b:T Ob),(∀p∈l,p.hi≤p.lo)→l.foldl di b=b
 |[],_,_=>rfl
 |p::l,b,h=>by
  rw[arh,kq b p (h p (asT ..))];exact Dp l b fun q hq=>h q (arW _ hq)
theorem Dq{n0:Nat}:∀(l:List Piece) (b:T Ob),(∀p∈l,n0≤p.lo)→∀id,id<n0→(l.foldl di b).get id=b.get id
 |[],_,_,_,_=>rfl
 |p::l,b,h,id,hid=>by
  rw[arh,Dq l _ (fun q hq=>h q (arW _ hq)) id hid,jY,if_neg];have:=h p (asT ..);omega
structure mj(pl:dM)(n0 j:Nat)(d:DS)(e:Env)(σ:St):Prop where
 e:d.e=e
 n:d.n=σ.n
 le:n0≤σ.n
 bs:∃i b rest,d.bs=(i,b)::rest∧(rest=[]∨(i<j∧aV pl i=.effect))∧d.aD.foldl di b=σ.t∧b.WF
 aD:∀p∈d.aD,(p.hi≤p.lo∨(p.j<j∧(aV pl p.j=.alloc∨aV pl p.j=.call)))∧p.hi≤d.n∧n0≤p.lo
variable{ops:Array Oper}{pl:dM}{d:DS}{e e':Env}{ah:St}{j n0:Nat}
theorem tT{b:T Ob}(hs:mj pl n0 j d e σ)(dZ:d.aD.foldl di b=σ.t)(ho:GF pl j=true):seen d.aD (pl.bW.getD j 0) b=σ.t:=by
 unfold seen;rw[sH _ _ fun p hp=>?_,dZ];rcases(hs.aD p hp).1 with h|⟨h1,h2⟩
 ·exact .inr h
 ·exact .inl (EP ho h1 (h2.elim .inl fun h=>.inr (.inr h)))
theorem W7(h:AO pl j=true):GF pl j=true:=by
 refine aqW.2 fun i hi=>?_;have:=aqW.1 h i hi;simp only[arl]at this⊢;refine this.imp id fun h=>?_;split at h
 ·rename_i hk;rw[hk]
 ·cases h
theorem FW{bits:Nat}{e:Env}{n:Nat}{aD:List Piece}{b:T Ob}{l:List (Oper×Nat)}(h:∀p i,(p,i)∈l→aV pl i=.load→aq0 bits i=true):recheck P pl ops bits e n aD b l=true:=by
 unfold recheck;rw[aqW];rintro⟨p,q⟩ xl;simp only;split
 ·rename_i zM;rw[h p q xl zM];rfl
 ·rfl
theorem yv{U:Self}{ai:St}{v:IV}(hs:mj pl n0 j d e σ)(hk:aV pl j=.effect)(hw:aJ o ops e=true)(gz:∀p i,(p,i)∈ops.toList.zipIdx.take j→(p,i)∈ops.toList.zipIdx∧i<j)(hA:AO pl j=true)
 (hx:jn P U ro e o σ=some (v,ai))(jd:ai.t.WF)(hn:σ.n≤ai.n):∃d1,bL P U pl ro ops o j d=some d1∧mj pl n0 (j+1) d1 (e.put o.dst v) ai:=by
 obtain⟨i,b,rest,cD,e_,dZ,jr⟩:=hs.bs;have l8:=tT hs dZ (W7 hA);have cg:(⟨d.n,seen d.aD (pl.bW.getD j 0) b⟩:St)=σ:=by rw[l8,hs.n]
 refine⟨⟨e.put o.dst v,ai.n,(j,ai.t)::d.bs,d.aD.filter fun p=> !aq0 (pl.bW.getD j 0) p.j⟩,?_,⟨rfl,rfl,aq2 hs.le hn,⟨j,ai.t,d.bs,rfl,.inr ⟨by omega,hk⟩,?_,jd⟩,fun p hp=>?_⟩⟩
 ·unfold bL;rw[cD];simp only;rw[hs.e,hw,if_pos rfl];have cy:pl.kinds.getD j .effect=.effect:=hk;rw[cy];simp only;rw[cg,hx];simp only;rw[if_pos (FW fun p q xl zM=>Sr hA (gz p q xl).2 (by rw[zM];simp))]
 ·refine ym _ _ fun p hp hf=>?_;rcases(hs.aD p hp).1 with h|⟨h1,h2⟩
  ·exact h
  ·rw[EP (W7 hA) h1 (h2.elim .inl fun h=>.inr (.inr h))]at hf;cases hf
 ·have qw:=(arN.1 hp).1;obtain⟨h1,h2,h3⟩:=hs.aD p qw;exact⟨h1.imp id (fun h=>⟨by omega,h.2⟩),by rw[hs.n]at h2;exact aq2 h2 hn,h3⟩
theorem W8{T:jL}{θ:Nat→Option Nat}(W9:∀k k' id,θ k=some id→θ k'=some id→k=k')(hL:sL P ops θ e σ T){U:Self}{ai:St}{v:IV}(hs:mj pl n0 j d e σ)(hk:aV pl j=.effect)(hw:aJ o ops e=true)(gz:∀p i,(p,i)∈ops.toList.zipIdx.take j→(p,i)∈ops.toList.zipIdx∧i<j)(hX:Dn pl T o j=true)
 (hv:ak P ro (aq e) o σ=some (.val v ai))(jd:ai.t.WF)(hn:σ.n≤ai.n):∃d1,bL P U pl ro ops o j d=some d1∧mj pl n0 (j+1) d1 (e.put o.dst v) ai:=by
 obtain⟨i,b,rest,cD,e_,dZ,jr⟩:=hs.bs;have l8:=tT hs dZ (W6 hX);have cg:(⟨d.n,seen d.aD (pl.bW.getD j 0) b⟩:St)=σ:=by rw[l8,hs.n]
 have hx:jn P U ro e o σ=some (v,ai):=by unfold jn;rw[hv]
 have ZP:∀p∈(d.aD.filter fun p=> !aq0 (pl.bW.getD j 0) p.j),p.hi≤p.lo:=fun p hp=>by
  obtain⟨lp,hp2⟩:=arN.1 hp;rcases(hs.aD p lp).1 with h|⟨h1,h2⟩
  ·exact h
  ·rw[EP (W6 hX) h1 (h2.elim .inl fun h=>.inr (.inr h))]at hp2;cases hp2
 refine⟨⟨e.put o.dst v,ai.n,(j,ai.t)::d.bs,d.aD.filter fun p=> !aq0 (pl.bW.getD j 0) p.j⟩,?_,⟨rfl,rfl,aq2 hs.le hn,⟨j,ai.t,d.bs,rfl,.inr ⟨by omega,hk⟩,?_,jd⟩,fun p hp=>?_⟩⟩
 ·unfold bL;rw[cD];simp only;rw[hs.e,hw,if_pos rfl];have cy:pl.kinds.getD j .effect=.effect:=hk;rw[cy];simp only;rw[cg,hx];simp only;rw[if_pos];unfold recheck;rw[aqW];rintro⟨p,q⟩ xl;simp only;split
  ·rename_i zM;obtain⟨amx,WR⟩:=gz p q xl;unfold Dn at hX;split at hX<;>first|(cases hX;done)|skip
   rename_i ty a x hg fi;split at hX<;>first|(cases hX;done)|skip
   rename_i g Oh;simp only[aqG,aqW]at hX;have hq:=hX.2 q (atn.2 WR);rw[arl]at hq;rcases hq with hq|hq
   ·rw[hq];rfl
   ·rw[zM]at hq;simp only[aum,aqG,aru]at hq;obtain⟨⟨i',a',d',h'⟩,hm,cT,aT⟩:=hq;have:=aqO cT;simp only at this;subst this;obtain⟨p',ty',id,off,ep,ext,g1,g2,g3,g4,g5,g6⟩:=hL.ld _ _ _ _ hm
    have hpp:p=p':=by
     have:=arM.1 amx;rw[asA]at this;rw[g1]at this;cases this;rfl
    subst hpp;obtain⟨id2,aqr,ep2,aqs,f1,f2⟩:=hL.tg _ _ (yr Oh);obtain⟨e1,e2⟩:=W5 fi (show aq e (.tmp a)=_ from f2) hv
    have aim:id≠id2:=fun he=>by
     subst he;have:=W9 _ _ _ g4 f1;subst this;simp at aT
    have ain:=Z6 g2 (show aq e (.tmp a')=_ from g5) g6 (e2 id aim) ai.n
    have hse:seen (d.aD.filter fun p=> !aq0 (pl.bW.getD j 0) p.j) (pl.bW.getD i' 0) ai.t=ai.t:=by
     unfold seen;exact Dp _ _ fun p hp=>ZP p (arN.1 hp).1
    rw[g3];simp only;unfold loadAt;rw[hse,ain];simp[Sm.sm]
  ·rfl
 ·exact Dp _ _ ZP
 ·have qw:=(arN.1 hp).1;obtain⟨h1,h2,h3⟩:=hs.aD p qw;exact⟨h1.imp id (fun h=>⟨by omega,h.2⟩),by rw[hs.n]at h2;exact aq2 h2 hn,h3⟩
theorem noX{T:jL}(h:Dn pl T o j=true)(hn:(∃ro ρ f args,ak P ro ρ o σ=some (.enter f args))∨aJ o ops e=false):False:=by
 unfold Dn at h;split at h<;>first|(cases h;done)|skip
 rename_i ty a x hg fi;rcases hn with⟨ro,ρ,f,args,hn⟩|hn
 ·unfold ak at hn;rw[fi]at hn;dsimp only at hn
  repeat' split at hn
  all_goals first|(cases hn;done)|skip
  all_goals (have:=aE hn;cases this)
 ·unfold aJ at hn;rw[hg]at hn;cases hn
theorem UO{fr:Bool}{l:List (Oper×Nat)}{θ:Nat→Option Nat}(W9:∀k k' id,θ k=some id→θ k'=some id→k=k')(h:fT P ro ops pl fr l e σ e' ah):
 ∀(k:Nat) (d:DS) (T:jL),ops.toList.zipIdx.drop k=l→mj pl n0 k d e σ→mh P pl l T=true→lK n0 e T→sL P ops θ e σ T→
  ∃SF:Nat→Self,(∀i,lu P (SF i))∧∃d',iF P SF pl ro ops l d=some d'∧d'.e=e'∧d'.n=ah.n∧∃i b rest,d'.bs=(i,b)::rest∧d'.aD.foldl di b=ah.t:=by
 have iJ:∀{o:Oper} {j:Nat} {l:List (Oper×Nat)} {k:Nat},ops.toList.zipIdx.drop k=(o,j)::l→j=k∧ops.toList.zipIdx.drop (k+1)=l∧
  (∀p i,(p,i)∈ops.toList.zipIdx.take j→(p,i)∈ops.toList.zipIdx∧i<j)∧(∀o' i,(o',i)∈l→i≠j)∧ops[j]?=some o:=by
  intro o j l k h;have h1:(ops.toList.zipIdx.drop k)[0]?=some (o,j):=by rw[h];rfl
  rw[List.getElem?_drop,Nat.add_zero]at h1;rw[List.getElem?_zipIdx]at h1
  have hj:j=k:=by
   cases hk:ops.toList[k]? with
   |none=>rw[hk]at h1;cases h1
   |some o'=>rw[hk]at h1;simp at h1;omega
  have zK:ops.toList.zipIdx.drop (k+1)=l:=by rw[←atm (i:=1) (j:=k),h];rfl
  have lY:ops[j]?=some o:=by
   rw[hj];cases hk:ops.toList[k]? with
   |none=>rw[hk]at h1;cases h1
   |some o'=>
    rw[hk]at h1;simp at h1;rw[asA]at hk;rw[hk,h1.1]
  refine⟨hj,zK,fun p i hp=>⟨List.mem_of_mem_take hp,?_⟩,fun o' i hi=>?_,lY⟩
  ·obtain⟨m,hm,he⟩:=asu hp;rw[List.length_take]at hm;rw[List.getElem_take,atS]at he;cases he;omega
  ·rw[←zK]at hi;obtain⟨m,hm,he⟩:=asu hi;rw[List.getElem_drop,atS]at he;cases he;omega
 induction h with
 |nil e σ=>
  intro k d T _ hs _ _ _;obtain⟨i,b,rest,h1,_,h3,_⟩:=hs.bs;exact⟨fun _=>Self.none,fun _=>nT,d,rfl,hs.e,hs.n,i,b,rest,h1,h3⟩
 | @skip o j l e σ e' ah hw h ih=>
   intro k d T hl hs hc hT Cq;obtain⟨rfl,hd,gz,aa,lY⟩:=iJ hl;simp only[mh,aqG]at hc;obtain⟨bH,gm⟩:=hc;obtain⟨i,b,rest,cD,e_,dZ,jr⟩:=hs.bs;have iK:∀p∈d.aD,(p.hi≤p.lo∨(p.j<j+1∧(aV pl p.j=.alloc∨aV pl p.j=.call)))∧p.hi≤d.n∧n0≤p.lo:=fun p hp=>⟨(hs.aD p hp).1.imp id (fun h=>⟨by omega,h.2⟩),(hs.aD p hp).2⟩
   have key:∃U,lu P U∧∃d1,bL P U pl ro ops o j d=some d1∧mj pl n0 (j+1) d1 (e.put o.dst .undef) σ:=by
    refine⟨Self.none,nT,?_⟩;by_cases hk:aV pl j=.effect
    ·refine⟨⟨d.e.put o.dst .undef,d.n,(j,b)::d.bs,d.aD⟩,?_,⟨by rw[hs.e],hs.n,hs.le,⟨j,b,d.bs,rfl,.inr ⟨by omega,hk⟩,dZ,jr⟩,iK⟩⟩;unfold bL;rw[cD];simp only;rw[hs.e,hw,if_neg (by simp)];have cy:pl.kinds.getD j .effect=.effect:=hk;have hA:AO pl j=true:=by unfold kL at bH;rw[cy,arl]at bH;exact bH.elim id fun h=>(noX (P:=P) (σ:=σ) h (.inr hw)).elim
     rw[cy];simp only;rw[if_pos (FW fun p q xl zM=>Sr hA (gz p q xl).2 (by rw[zM];simp))]
    ·refine⟨{d with e:=d.e.put o.dst .undef},?_,⟨by rw[hs.e],hs.n,hs.le,⟨i,b,rest,cD,e_.imp id (fun h=>⟨by omega,h.2⟩),dZ,jr⟩,iK⟩⟩;unfold bL;rw[cD];simp only;rw[hs.e,hw,if_neg (by simp)];have cy:pl.kinds.getD j .effect≠.effect:=hk;cases hq:pl.kinds.getD j .effect<;>first|exact absurd hq cy|simp only
   obtain⟨U,hU,d1,h1,h2⟩:=key;obtain⟨SF,ku,d',h3,h4⟩:=ih (j+1) d1 (FV T o j) hd h2 gm (hT.skip j (.inl ⟨hw,rfl⟩)) (Cq.skip (.inl ⟨hw,rfl⟩));obtain⟨oQ,h5,h6⟩:=lx hU ku h1 h3 aa;exact⟨oQ,h5,d',h6,h4⟩
 | @val o j l e σ e' ah v ai hw hv h ih=>
   intro k d T hl hs hc hT Cq;obtain⟨rfl,hd,gz,aa,lY⟩:=iJ hl;simp only[mh,aqG]at hc;obtain⟨bH,gm⟩:=hc;obtain⟨i,b,rest,cD,e_,dZ,jr⟩:=hs.bs;have oR:σ.t.WF:=dZ▸kr _ jr;have iK:∀p∈d.aD,(p.hi≤p.lo∨(p.j<j+1∧(aV pl p.j=.alloc∨aV pl p.j=.call)))∧p.hi≤d.n∧n0≤p.lo:=fun p hp=>⟨(hs.aD p hp).1.imp id (fun h=>⟨by omega,h.2⟩),(hs.aD p hp).2⟩
   have one:∀(t:Go.Ev.T Ob),((ai=σ)∨∃ob,ai=σ.add ob∧t.get σ.n=some ob)→(aV pl j=.alloc∨aV pl j=.call)→
    mj pl n0 (j+1) ⟨d.e.put o.dst v,ai.n,d.bs,⟨j,d.n,ai.n,t⟩::d.aD⟩ (e.put o.dst v) ai:=by
    intro t so hk;refine⟨by rw[hs.e],rfl,aq2 hs.le (lJ hv),⟨i,b,rest,cD,e_.imp id (fun h=>⟨by omega,h.2⟩),?_,jr⟩,fun p hp=>?_⟩
    ·simp only[arh];rcases so with rfl|⟨ob,rfl,ht⟩
     ·rw[kq _ _ (by simp[hs.n]),dZ]
     ·refine Go.Ev.T.WF.ext (kr _ (vT jr _)) (oR.set _ _) fun id=>?_
      have:=yn (n:=σ.n) (ob:=ob) d.aD (di b ⟨j,d.n,(σ.add ob).n,t⟩) b (fun p hp=>by rw[←hs.n];exact(hs.aD p hp).2.1) (fun id=>by
       rw[jY,Go.Ev.T.fQ];simp only[hs.n,St.kK];by_cases hid:σ.n=id
       ·subst hid;simp[ht]
       ·rw[if_neg (by omega),if_neg hid]) id
      rw[this,dZ];rfl
    ·rcases arv.1 hp with rfl|hp
     ·exact⟨.inr ⟨by simp,hk⟩,aqK _,by show n0≤d.n;rw[hs.n];exact hs.le⟩
     ·obtain⟨h1,h2,h3⟩:=iK p hp;exact⟨h1,by have:=lJ hv;rw[hs.n]at h2;exact aq2 h2 this,h3⟩
   have key:∃U,lu P U∧∃d1,bL P U pl ro ops o j d=some d1∧mj pl n0 (j+1) d1 (e.put o.dst v) ai:=by
    refine⟨Self.none,nT,?_⟩;cases hk:aV pl j with
    |pure=>
     have cy:pl.kinds.getD j .effect=.pure:=hk;unfold kL at bH;rw[cy]at bH;have mK:db o=.pure:=by simpa using bH
     obtain⟨rfl,mX⟩:=Di mK hv;refine⟨{d with e:=d.e.put o.dst v},?_,⟨by rw[hs.e],hs.n,hs.le,⟨i,b,rest,cD,e_.imp id (fun h=>⟨by omega,h.2⟩),dZ,jr⟩,iK⟩⟩;unfold bL;rw[cD];simp only;rw[hs.e,hw,if_pos rfl];rw[cy];simp only;rw[mX 0 ⟨0,.lf⟩];simp[hs.e,cD]
    |alloc=>
     have cy:pl.kinds.getD j .effect=.alloc:=hk;unfold kL at bH;rw[cy]at bH;simp only[aqG,beq_iff_eq]at bH;obtain⟨t,mX,so⟩:=HL bH.1 hv;refine⟨⟨d.e.put o.dst v,ai.n,d.bs,⟨j,d.n,ai.n,t⟩::d.aD⟩,?_,one t (so.imp (fun h=>h.1) fun⟨ob,h1,h2⟩=>⟨ob,h1,by rw[h2,Go.Ev.T.fQ,if_pos rfl]⟩) (.inl hk)⟩;unfold bL;rw[cD];simp only;rw[hs.e,hw,if_pos rfl];rw[cy];simp only;rw[hs.n,mX 0]
    |load=>
     have cy:pl.kinds.getD j .effect=.load:=hk;unfold kL at bH;rw[cy]at bH;simp only[aqG,beq_iff_eq,arl]at bH;obtain⟨mK,bH⟩:=bH;obtain⟨rfl,mX⟩:=Dj mK hv
     have ef:ak P d.n (aq e) o ⟨d.n,seen d.aD (pl.bW.getD j 0) b⟩=some (.val v ⟨d.n,seen d.aD (pl.bW.getD j 0) b⟩):=by
      rcases bH with ho|⟨_,ho⟩
      ·have l8:=tT hs dZ ho;have cg:(⟨d.n,seen d.aD (pl.bW.getD j 0) b⟩:St)=ai:=by rw[l8,hs.n]
       rw[cg];exact mX d.n
      ·rcases ho with ho|ho
       ·exact Z5 ho hv _ _
       split at ho<;>first|(cases ho;done)|skip
       rename_i t a fi;refine UN fi (Lc hT ho) hv (fun id hid=>?_) d.n;show(seen d.aD (pl.bW.getD j 0) b).get id=ai.t.get id;unfold seen;rw[←dZ,Dq _ _ (fun p hp=>(hs.aD p (arN.1 hp).1).2.2) id hid,Dq _ _ (fun p hp=>(hs.aD p hp).2.2) id hid]
     have aio:(aq0 (pl.bW.getD j 0) i||lH P e o d.n v d.aD (pl.bW.getD j 0) rest)=true:=by
      rcases e_ with rfl|⟨h1,h2⟩
      ·simp[lH]
      ·have:aq0 (pl.bW.getD j 0) i=true:=by
        rcases bH with ho|⟨ho,_⟩
        ·exact EP ho h1 (.inr (.inl h2))
        ·exact adp ho h1 h2
       rw[this];rfl
     refine⟨{d with e:=d.e.put o.dst v},?_,⟨by rw[hs.e],hs.n,hs.le,⟨i,b,rest,cD,e_.imp id (fun h=>⟨by omega,h.2⟩),dZ,jr⟩,iK⟩⟩;unfold bL;rw[cD];simp only;rw[hs.e,hw,if_pos rfl];rw[cy];simp only;rw[ef];simp only;rw[if_pos ⟨trivial,aio⟩]
    |call=>
     have cy:pl.kinds.getD j .effect=.call:=hk;unfold kL at bH;rw[cy]at bH;simp only[aqG,arl]at bH;obtain⟨⟨_,ho⟩,bH⟩:=bH;rcases bH with bH|bH
     ·exact(Ck bH hv).elim
     ·split at bH<;>first|(cases bH;done)|skip
      rename_i a hb;obtain⟨mX,so⟩:=ae1 hb (W4 hT bH) hv;have l8:=tT hs dZ ho;have cg:(⟨d.n,seen d.aD (pl.bW.getD j 0) b⟩:St)=σ:=by rw[l8,hs.n]
      refine⟨⟨d.e.put o.dst v,ai.n,d.bs,⟨j,d.n,ai.n,ai.t⟩::d.aD⟩,?_,one ai.t (so.imp id fun⟨ob,h1⟩=>⟨ob,h1,by rw[h1];exact(by simp[St.add,Go.Ev.T.fQ])⟩) (.inr hk)⟩;unfold bL;rw[cD];simp only;rw[hs.e,hw,if_pos rfl];rw[cy];simp only;rw[cg];unfold jn;rw[mX d.n]
    |effect=>
     have cy:pl.kinds.getD j .effect=.effect:=hk;have hA:(AO pl j||Dn pl T o j)=true:=by unfold kL at bH;rw[cy]at bH;exact bH
     rw[arl]at hA;rcases hA with hA|hA
     ·refine yv hs hk hw gz hA ?_ (UH hv oR) (lJ hv);unfold jn;rw[hv]
     ·exact W8 W9 Cq hs hk hw gz hA hv (UH hv oR) (lJ hv)
   obtain⟨U,hU,d1,h1,h2⟩:=key;obtain⟨SF,ku,d',h3,h4⟩:=ih (j+1) d1 (FV T o j) hd h2 gm (hT.step j hv) (Cq.step lY hT hv);obtain⟨oQ,h5,h6⟩:=lx hU ku h1 h3 aa;exact⟨oQ,h5,d',h6,h4⟩
 | @HM o j l e σ e' ah f args v hw hv dU h ih=>
   intro k d T hl hs hc hT Cq;obtain⟨rfl,hd,gz,aa,lY⟩:=iJ hl;simp only[mh,aqG]at hc;obtain⟨bH,gm⟩:=hc;obtain⟨i,b,rest,cD,e_,dZ,jr⟩:=hs.bs;have oR:σ.t.WF:=dZ▸kr _ jr;have iK:∀p∈d.aD,(p.hi≤p.lo∨(p.j<j+1∧(aV pl p.j=.alloc∨aV pl p.j=.call)))∧p.hi≤d.n∧n0≤p.lo:=fun p hp=>⟨(hs.aD p hp).1.imp id (fun h=>⟨by omega,h.2⟩),(hs.aD p hp).2⟩
   have u_:∀fL,jn P (qj none f args σ v σ) fL e o σ=some (v,σ):=by
    intro fL;unfold jn;rw[AL hv fL σ];simp[qj]
   have je:=sI hv
   have key:∃U,lu P U∧∃d1,bL P U pl ro ops o j d=some d1∧mj pl n0 (j+1) d1 (e.put o.dst v) σ:=by
    refine⟨qj none f args σ v σ,sG fun fL _=>dU fL,?_⟩;cases hk:aV pl j with
    |pure=>
     have cy:pl.kinds.getD j .effect=.pure:=hk;unfold kL at bH;rw[cy]at bH;have mK:db o=.pure:=by simpa using bH
     rw[mK]at je;rcases je with je|je<;>cases je
    |alloc=>
     have cy:pl.kinds.getD j .effect=.alloc:=hk;unfold kL at bH;rw[cy]at bH;simp only[aqG,beq_iff_eq]at bH;rw[bH.1]at je;rcases je with je|je<;>cases je
    |load=>
     have cy:pl.kinds.getD j .effect=.load:=hk;unfold kL at bH;rw[cy]at bH;simp only[aqG,beq_iff_eq]at bH;rw[bH.1]at je;rcases je with je|je<;>cases je
    |call=>
     have cy:pl.kinds.getD j .effect=.call:=hk;unfold kL at bH;rw[cy]at bH;simp only[aqG]at bH;have Ch:=tT hs dZ bH.1.2;refine⟨⟨d.e.put o.dst v,d.n,d.bs,⟨j,d.n,d.n,seen d.aD (pl.bW.getD j 0) b⟩::d.aD⟩,?_,⟨by rw[hs.e],hs.n,hs.le,⟨i,b,rest,cD,e_.imp id (fun h=>⟨by omega,h.2⟩),?_,jr⟩,fun p hp=>?_⟩⟩
     ·unfold bL;rw[cD];simp only;rw[hs.e,hw,if_pos rfl];rw[cy];simp only;have cg:(⟨d.n,seen d.aD (pl.bW.getD j 0) b⟩:St)=σ:=by rw[Ch,hs.n]
      rw[cg,u_,Ch];simp only[hs.n,cD]
     ·simp only[arh];rw[kq _ _ (by simp),dZ]
     ·rcases arv.1 hp with rfl|hp
      ·exact⟨.inl (aqK _),aqK _,by show n0≤d.n;rw[hs.n];exact hs.le⟩
      ·exact iK p hp
    |effect=>
     have cy:pl.kinds.getD j .effect=.effect:=hk;have hA:AO pl j=true:=by unfold kL at bH;rw[cy,arl]at bH;exact bH.elim id fun h=>(noX (ops:=ops) (e:=e) h (.inl ⟨_,_,_,_,hv⟩)).elim
     exact yv hs hk hw gz hA (u_ ro) oR (aqK _)
   obtain⟨U,hU,d1,h1,h2⟩:=key;obtain⟨SF,ku,d',h3,h4⟩:=ih (j+1) d1 (FV T o j) hd h2 gm (hT.skip (ops:=ops) j (.inr je)) (Cq.skip (.inr je));obtain⟨oQ,h5,h6⟩:=lx hU ku h1 h3 aa;exact⟨oQ,h5,d',h6,h4⟩
 | @UI o j l e σ e' ah f args v ob hq hw hv dU h ih=>
   intro k d T hl hs hc hT Cq;obtain⟨rfl,hd,gz,aa,lY⟩:=iJ hl;simp only[mh,aqG]at hc;obtain⟨bH,gm⟩:=hc;obtain⟨i,b,rest,cD,e_,dZ,jr⟩:=hs.bs;have oR:σ.t.WF:=dZ▸kr _ jr;have iK:∀p∈d.aD,(p.hi≤p.lo∨(p.j<j+1∧(aV pl p.j=.alloc∨aV pl p.j=.call)))∧p.hi≤d.n∧n0≤p.lo:=fun p hp=>⟨(hs.aD p hp).1.imp id (fun h=>⟨by omega,h.2⟩),(hs.aD p hp).2⟩
   have u_:∀fL,jn P (qj none f args σ v (σ.add ob)) fL e o σ=some (v,σ.add ob):=by
    intro fL;unfold jn;rw[AL hv fL σ];simp[qj]
   have je:=sI hv
   have key:∃U,lu P U∧∃d1,bL P U pl ro ops o j d=some d1∧mj pl n0 (j+1) d1 (e.put o.dst v) (σ.add ob):=by
    refine⟨qj none f args σ v (σ.add ob),sG fun fL _=>dU fL,?_⟩;cases hk:aV pl j with
    |pure=>
     have cy:pl.kinds.getD j .effect=.pure:=hk;unfold kL at bH;rw[cy]at bH;have mK:db o=.pure:=by simpa using bH
     rw[mK]at je;rcases je with je|je<;>cases je
    |alloc=>
     have cy:pl.kinds.getD j .effect=.alloc:=hk;unfold kL at bH;rw[cy]at bH;simp only[aqG,beq_iff_eq]at bH;rw[bH.1]at je;rcases je with je|je<;>cases je
    |load=>
     have cy:pl.kinds.getD j .effect=.load:=hk;unfold kL at bH;rw[cy]at bH;simp only[aqG,beq_iff_eq]at bH;rw[bH.1]at je;rcases je with je|je<;>cases je
    |call=>
     have cy:pl.kinds.getD j .effect=.call:=hk;unfold kL at bH;rw[cy]at bH;simp only[aqG]at bH;have Ch:=tT hs dZ bH.1.2;refine⟨⟨d.e.put o.dst v,(σ.add ob).n,d.bs,⟨j,d.n,(σ.add ob).n,(σ.add ob).t⟩::d.aD⟩,?_,⟨by rw[hs.e],rfl,aq2 hs.le (by simp),⟨i,b,rest,cD,e_.imp id (fun h=>⟨by omega,h.2⟩),?_,jr⟩,fun p hp=>?_⟩⟩
     ·unfold bL;rw[cD];simp only;rw[hs.e,hw,if_pos rfl];rw[cy];simp only;have cg:(⟨d.n,seen d.aD (pl.bW.getD j 0) b⟩:St)=σ:=by rw[Ch,hs.n]
      rw[cg,u_]
     ·simp only[arh];refine Go.Ev.T.WF.ext (kr _ (vT jr _)) (oR.set _ _) fun id=>?_
      have:=yn (n:=σ.n) (ob:=ob) d.aD (di b ⟨j,d.n,(σ.add ob).n,(σ.add ob).t⟩) b (fun p hp=>by rw[←hs.n];exact(hs.aD p hp).2.1) (fun id=>by
       rw[jY,Go.Ev.T.fQ];simp only[hs.n,St.kK];by_cases hid:σ.n=id
       ·subst hid;rw[if_pos (by omega),if_pos rfl];have:(σ.add ob).t.get σ.n=some ob:=by simpa[St.at]using St.gP σ ob σ.n
        simp[this]
       ·rw[if_neg (by omega),if_neg hid]) id
      rw[this,dZ];rfl
     ·rcases arv.1 hp with rfl|hp
      ·exact⟨.inr ⟨by simp,.inr hk⟩,aqK _,by show n0≤d.n;rw[hs.n];exact hs.le⟩
      ·obtain⟨h1,h2,h3⟩:=iK p hp;exact⟨h1,by rw[hs.n]at h2;simp;omega,h3⟩
    |effect=>
     have cy:pl.kinds.getD j .effect=.effect:=hk;have hA:AO pl j=true:=by unfold kL at bH;rw[cy,arl]at bH;exact bH.elim id fun h=>(noX (ops:=ops) (e:=e) h (.inl ⟨_,_,_,_,hv⟩)).elim
     exact yv hs hk hw gz hA (u_ ro) (oR.set _ _) (by simp)
   obtain⟨U,hU,d1,h1,h2⟩:=key;obtain⟨SF,ku,d',h3,h4⟩:=ih (j+1) d1 (FV T o j) hd h2 gm (hT.skip (ops:=ops) j (.inr je)) (Cq.skip (.inr je));obtain⟨oQ,h5,h6⟩:=lx hU ku h1 h3 aa;exact⟨oQ,h5,d',h6,h4⟩
 | @call o j l e σ e' ah f args v ai hk hw hv dU jd h ih=>
   intro k d T hl hs hc hT Cq;obtain⟨rfl,hd,gz,aa,lY⟩:=iJ hl;simp only[mh,aqG]at hc;obtain⟨bH,gm⟩:=hc;obtain⟨i,b,rest,cD,e_,dZ,jr⟩:=hs.bs;have oR:σ.t.WF:=dZ▸kr _ jr;have cy:pl.kinds.getD j .effect=.effect:=hk;have hA:AO pl j=true:=by unfold kL at bH;rw[cy,arl]at bH;exact bH.elim id fun h=>(noX (ops:=ops) (e:=e) h (.inl ⟨_,_,_,_,hv⟩)).elim
   obtain⟨d1,h1,h2⟩:=yv (U:=qj (some ro) f args σ v ai) (v:=v) (ai:=ai) hs hk hw gz hA (by unfold jn;rw[hv];simp[qj]) (jd oR) dU.1;obtain⟨SF,ku,d',h3,h4⟩:=ih (j+1) d1 (FV T o j) hd h2 gm (hT.skip (ops:=ops) j (.inr (sI hv))) (Cq.skip (.inr (sI hv)));obtain⟨oQ,h5,h6⟩:=lx (sG (R:=some ro) fun fL hR=>by rcases hR with hR|hR<;>cases hR;exact dU) ku h1 h3 aa;exact⟨oQ,h5,d',h6,h4⟩
variable{rd:Option Nat}{fn:FuncId}{df:List Df}
theorem fx.aip{id:Nat}{fr:Bool}{T:jL}(eS:P.follows .mixedOrders=true)(nC:(dq ops).ok=true)(bo:mh P (dq ops) ops.toList.zipIdx T=true)(hT:lK σ.n e T){θ:Nat→Option Nat}(W9:∀k k' id,θ k=some id→θ k'=some id→k=k')(Cq:sL P ops θ e σ T)(jd:σ.t.WF)
 (h:fT P ro ops (dq ops) fr ops.toList.zipIdx e σ e' ah):fx P ro rd fn (.region id ops true) e df σ ⟨.normal,e',df,ah⟩:=by
 obtain⟨SF,ku,d',h1,h2,h3,i,b,rest,h4,h5⟩:=UO (n0:=σ.n) W9 h 0 ⟨e,σ.n,[(0,σ.t)],[]⟩ T (by simp) ⟨rfl,rfl,aqK _,⟨0,σ.t,[],rfl,.inl rfl,rfl,jd⟩,fun p hp=>by cases hp⟩ bo hT Cq
 have ef:pF P SF ro ops e df σ=some ⟨.normal,e',df,ah⟩:=by
  unfold pF;simp only;rw[if_pos nC,h1];obtain⟨de,dn,dbs,amw⟩:=d';simp only at h2 h3 h4 h5;subst h2 h4;simp only[h3,h5]
 refine .mk (AG (fun i=>(ku i).2.2.1) (fun i=>(ku i).2.2.2) ef) (by simp) fun N hN F ι a w Q hF hi he hd hQ=>?_;exact Gx eS (fun i=>(ku i).1) (fun i=>(ku i).2.1) (fun i=>(ku i).2.2.1) (fun i=>(ku i).2.2.2) N ro rd ops e df σ _ ef hN F ι a w Q id hF hi he hd hQ
end Go.Ev
