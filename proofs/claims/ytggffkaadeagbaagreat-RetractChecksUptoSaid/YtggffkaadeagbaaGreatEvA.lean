/- Lemmas over the model, without conditions of their own: the ideal machine, and how its values lie in the model. -/
import Derived.RangeFuncLeaves
import Derived.RecoverIn
import Derived.LoopNIn
import Derived.OrdersIn
import Derived.Laws.CopyRow
import Derived.Laws.Cells
open Nat renaming beq->aqP,blt->arH,min->aty,testBit->aq0,eq_of_beq_eq_true->aqO,beq_eq->ark,le_refl->aqK,le_trans->aq2,lt_of_lt_of_le->as4,lt_or_ge->auk
open Go renaming undef->art
open List renaming replicate->aq1,getElem?_append_left->aqQ,getElem?_append_right->aq_,getElem?_take->ard,getElem?_eq_getElem->aqE,getElem?_map->aqU
open Go.Instr renaming sameBits->ati
open Go.Op renaming bytesLess->as8
open Go.Utf8 renaming decode->ass
open Go.Region renaming binds->ast
open Bool renaming and_eq_true->aqG
open Option renaming none->at1
open Option.some renaming injEq->aqH
open Array renaming getElem?_eq_none->asw,getElem?_push->auV
set_option linter.all false
namespace Go.Ev
inductive T(α:Type) where
 |lf
 |nd (l:T α) (v:Option α) (r:T α)
namespace T
variable{α:Type}
def get:T α→Nat→Option α
 |.lf,_=>none
 |.nd l v r,i=>if aqP i 0 then v else if aqP (i % 2) 1 then l.get (i/2)else r.get (i/2- 1)
def qe:Nat→T α→Nat→α→T α
 |0,t,_,_=>t
 |f+1,t,i,x=>
  match t with
  |.lf=>if aqP i 0 then .nd .lf (some x) .lf else if aqP (i % 2) 1 then .nd (qe f .lf (i/2) x) none .lf else .nd .lf none (qe f .lf (i/2- 1) x)
  |.nd l v r=>if aqP i 0 then .nd l (some x) r else if aqP (i % 2) 1 then .nd (qe f l (i/2) x) v r else .nd l v (qe f r (i/2- 1) x)
def set(t:T α)(i:Nat)(x:α):T α:=qe (i+1) t i x
end T
inductive IV where
 |raw (v:Value)
 |agg (cs:List IV)
 |av (vs:List IV)
 |ptr (id off ep ext:Nat)
 |sl (id off len:Nat) (cap:Option Nat) (ep s:Nat)
 |emp
 |map (id:Nat)
 |fn (f:Fn) (first captured:List IV)
 |zy (id:Nat)
 |da (t:TypeId) (v:IV)
 |tree (s:Nat) (es:List IV)
 |kU (cs:List IV)
 deriving Inhabited
def IV.undef:IV:=.raw art
abbrev IV.bool(b:Bool):IV:=.raw (.bool b)
abbrev IV.int(n:Int):IV:=.raw (.int .i64 n)
inductive Ob where
 |cells (cs:List IV) (ep mn:Nat)
 |map (es:List (Value×IV×Nat)) (clock:Nat)
 |pD (s:ByteArray) (pos:Nat)
 |jm (m:Option Nat) (since:Nat) (seen:List Nat) (wD:Nat)
 |loop (state:LoopState) (pending:Option Code) (f:FuncId) (tm:T IV) (r_:Nat) (params:List Tmp) (assign body:Code) (lX:Nat)
 |FE (taken:Bool)
 deriving Inhabited
inductive Df where
 |CG (id:Nat)
 |call (f:FuncId) (args:List IV)
structure St where
 n:Nat
 t:T Ob
def St.add(σ:St)(o:Ob):St:=⟨σ.n+1,σ.t.set σ.n o⟩
def St.put(σ:St)(id:Nat)(o:Ob):St:=⟨σ.n,σ.t.set id o⟩
def St.at(σ:St)(id:Nat):Option Ob:=σ.t.get id
structure Env where
 n:Nat
 t:T IV
def Env.at(e:Env)(i:Nat):IV:=(e.t.get i).getD .undef
def Env.put(e:Env)(dst:Option Tmp)(v:IV):Env:=
 match dst with
 |none=>e
 |some d=>if arH d e.n then⟨e.n,e.t.set d v⟩else e
def aK{α:Type}(P:Program):Sem α→Option α
 |.pure a=>some a
 |.program k=>aK P (k P)
 |.mark _ k=>aK P k
 |_=>none
def lift:Value→IV
 |.agg cs=>.agg (cs.toList.map .raw)
 |v=>.raw v
def gg:List IV→Option (List Value)
 |[]=>some []
 |c::cs=>match c with
  |.raw v=>match gg cs with
   |some vs=>some (v::vs)
   |none=>none
  |_=>none
def oJ:IV→Option Value
 |.raw v=>some v
 |.agg cs=>match gg cs with
  |some vs=>some (.agg vs.toArray)
  |none=>none
 |_=>none
def iu:IV→Option Value
 |.da t v=>match oJ v with
  |some u=>some (.iface t u)
  |none=>none
 |v=>oJ v
def cellsOf:IV→List IV
 |.agg cs=>cs
 |v=>[v]
def af:IV→Bool
 |.raw (.agg _)|.raw (.tuple _)|.agg _|.av _=>false
 |_=>true
section ops
variable(P:Program)
def aH(t:TypeId):Option Nat:=(P.info? t).map (·.size)
def cn(t:TypeId):Option Value:=(P.info? t).bind (·.zero)
def qf(t:TypeId):Option Bool:=(P.underlying t).map fun|.struct _|.array _ _=>true|_=>false
def partOf(t:TypeId)(cs:List IV)(off:Nat):Option IV:=
 match qf P t,aH P t with
 |some true,some s=>if off+s≤cs.length then some (.agg ((cs.drop off).take s))else none
 |some false,some s=>if s=1 then cs[off]? else none
 |_,_=>none
def dp(cs:List IV)(off:Nat)(new:List IV):List IV:=cs.take off++new++cs.drop (off+new.length)
def pE(place:Nat→Option (Nat×Nat)):List IV→List (Nat×IV)→Option (List IV)
 |cells,[]=>some cells
 |cells,(i,v)::rest=>
  match place i with
  |none=>none
  |some (off,size)=>
   if(cellsOf v).length=size∧off+size≤cells.length∧(cellsOf v).all af then pE place (dp cells off (cellsOf v)) rest else none
def gx(zero:List IV)(n:Nat):List IV:=
 match zero with
 |[z]=>aq1 n z
 |_=>(aq1 (n/zero.length) zero).flatten
def eF(size n:Nat)(σ:St):IV→Option (List IV)
 |.raw (.slice none _ _)=>if n=0 then some []else none
 |.emp=>if n=0 then some []else none
 |.raw (.string s)=>if n≤s.size then some ((s.data.toList.take n).map fun b=>.raw (.int .u8 b.toNat))else none
 |.sl id off len _ ep s=>if s=size∧n≤len then match σ.at id with
   |some (.cells cs au mn)=>if mn≤ep∧ep≤au∧off+n*size≤cs.length then some ((cs.drop off).take (n*size))else none
   |_=>none
  else none
 |.tree s es=>if s=size∧n≤es.length then some ((es.take n).flatMap cellsOf)else none
 |_=>none
def kh:IV→Option Nat
 |.raw (.slice none l _)=>if l=0 then some 0 else none
 |.raw (.string s)=>some s.size
 |.emp=>some 0
 |.sl _ _ len _ _ _=>some len
 |.tree _ es=>some es.length
 |_=>none
inductive ey where
 |val (v:IV) (σ:St)
 |enter (f:FuncId) (args:List IV)
 |round (id:Nat) (args:List IV)
 |RT (d:Df)
 |bU (v:IV)
def ret(v:IV)(σ:St):Option ey:=some (.val v σ)
def rF(size:Nat)(zero:Value)(xd:TypeDesc)(σ:St)(x:IV):Option (Nat×List IV):=
 match xd with
 |.int _=>match x with
  |.raw (.int .i64 l)=>if 0≤l∧l≤1000000 then some (l.toNat,gx (zero.cells.toList.map .raw) (l.toNat*size))else none
  |_=>none
 |_=>match kh x with
  |some n=>match eF size n σ x with
   |some cs=>some (n,cs)
   |none=>none
  |none=>none
def ff(size aS n:Nat)(new:List IV)(s:IV)(σ:St):Option ey:=
 match eF size aS σ s with
 |some cC=>if cC.length=aS*size then ret (.sl σ.n 0 (aS+n) none 0 size) (σ.add (.cells (cC++new) 0 0))else none
 |none=>none
def eA(ro size aS n:Nat)(new:List IV)(s:IV)(σ:St):Option ey:=
 match s with
 |.raw (.slice none l c)=>if l=0∧c=0 then(if n=0 then ret s σ else ff size aS n new s σ)else none
 |.emp=>if n=0 then ret s σ else ff size aS n new s σ
 |.tree _ _=>if n=0 then ret s σ else none
 |.sl id off len cap ep st=>
  if st≠size then none else
  if n=0 then ret (.sl id off len cap ep st) σ else
  match cap with
  |some c=>if len+n≤c then
    match σ.at id with
    |some (.cells cs au _)=>if ro≤id∧ep=au∧off+(len+n)*size≤cs.length then
      ret (.sl id off (len+n) cap ep st) (σ.put id (.cells (dp cs (off+len*size) new) au au))else none
    |_=>none
   else ff size aS n new s σ
  |none=>match σ.at id with
   |some (.cells cs au mn)=>if ro≤id∧ep=au∧off=0∧len*size=cs.length then
     ret (.sl id 0 (len+n) none (ep+1) st) (σ.put id (.cells (cs++new) (au+1) mn))
    else if ro≤id∧ep=au∧off=0∧len*size≤cs.length then
     ret (.sl id 0 (len+n) none (ep+1+1) st) ((σ.put id (.cells (cs.take (len*size)) (au+1) (au+1))).put id (.cells (cs.take (len*size)++new) (au+1+1) (au+1)))
    else none
   |_=>none
 |_=>none
def kf(ro:Nat)(argTypes:Array TypeId)(s x:IV)(σ:St):Option ey:=
 match argTypes[0]?,argTypes[1]? with
 |some sT,some xT=>
  match P.underlying sT,P.underlying xT with
  |some (.slice elem),some xd=>
   match aH P elem,cn P elem,(P.info? elem).map (·.bytes)with
   |some size,some zero,some bytes=>
    if size=0∨zero.cells.size≠size then none else
    match rF size zero xd σ x,kh s with
    |some (n,new),some aS=>
     if new.length=n*size∧new.all af=true∧(4*(aS+n)+4096)*bytes≤2 ^47∧aS+n≤2 ^40 then eA ro size aS n new s σ else none
    |_,_=>none
   |_,_,_=>none
  |_,_=>none
 |_,_=>none
def gh:Option IV→Option (Option Nat)
 |none=>some none
 |some (.raw (.int _ i))=>if 0≤i then some (some i.toNat)else none
 |_=>none
def fg(t:TypeId)(x:IV)(lo hi mx:Option IV):Option IV:=
 match gh lo,gh hi,gh mx with
 |some lo,some hi,some mx=>
  if mx.isSome=true∧hi.isSome=false then none else
  match P.underlying t with
  |some .string=>match x with
   |.raw (.string s)=>
    if mx=none∧lo.getD 0≤hi.getD s.size∧hi.getD s.size≤s.size then some (.raw (.string ⟨((s.data.toList.drop (lo.getD 0)).take (hi.getD s.size- lo.getD 0)).toArray⟩))else none
   |_=>none
  |some (.slice elem)=>match aH P elem with
   |none=>none
   |some sz=>match x with
    |.raw (.slice none 0 0)=>if lo.getD 0=0∧hi.getD 0=0∧mx.getD 0=0 then some (.raw (.slice none 0 0))else none
    |.emp=>if lo.getD 0=0∧hi.getD 0=0∧mx.getD 0=0 then some .emp else none
    |.sl id off len cap ep s=>
     if sz≠s then none else
     match mx,cap with
     |some m,cap=>if lo.getD 0≤hi.getD len∧hi.getD len≤m∧m≤cap.getD len then
       (if m=lo.getD 0 then some .emp else some (.sl id (off+lo.getD 0*s) (hi.getD len- lo.getD 0) (some (m- lo.getD 0)) ep s))else none
     |none,some m=>if lo.getD 0≤hi.getD len∧hi.getD len≤m then
       (if m=lo.getD 0 then some .emp else some (.sl id (off+lo.getD 0*s) (hi.getD len- lo.getD 0) (some (m- lo.getD 0)) ep s))else none
     |none,none=>if lo.getD 0≤hi.getD len∧hi.getD len≤len then some (.sl id (off+lo.getD 0*s) (hi.getD len- lo.getD 0) none ep s)else none
    |.tree s es=>
     if sz≠s then none else
     match mx with
     |none=>if lo.getD 0≤hi.getD es.length∧hi.getD es.length≤es.length then some (.tree s ((es.take (hi.getD es.length)).drop (lo.getD 0)))else none
     |some m=>if m=0∧lo.getD 0=0∧hi.getD es.length=0 then some (.tree s [])else none
    |_=>none
  |some (.array n elem)=>match x,aH P elem with
   |.ptr id off ep ext,some s=>
    if s≠0∧n*s≤ext∧mx=none∧lo.getD 0≤hi.getD n∧hi.getD n≤n then
     (if n=lo.getD 0 then some .emp else some (.sl id (off+lo.getD 0*s) (hi.getD n- lo.getD 0) (some (n- lo.getD 0)) ep s))else none
   |_,_=>none
  |_=>none
 |_,_,_=>none
def gM(empty:Bool)(kt:TypeId)(k:Value)(es:List (Value×IV×Nat)):Option (Option Nat):=
 match aK P (do
  Instr.checkKey empty 10000 kt k
  Instr.findKey kt k (es.map fun e=>{key:=e.1,val:=art,born:=e.2.2}))with
 |some (some (i,_))=>some (some i)
 |some none=>some none
 |none=>none
def entriesOf(σ:St):IV→Option (List (Value×IV×Nat))
 |.raw (.map none)=>some []
 |.map id=>match σ.at id with
  |some (.map es _)=>some es
  |_=>none
 |_=>none
def oK(ro:Nat)(kt:TypeId)(m k v:IV)(σ:St):Option St:=
 match m,iu k with
 |.map id,some key=>
  match σ.at id with
  |some (.map es clock)=>
   if¬ro≤id then none else
   match gM P false kt key es with
   |some (some i)=>match es[i]? with
    |some e=>if ati 10000 e.1 key then some (σ.put id (.map (es.set i (key,v,e.2.2)) clock))else none
    |none=>none
   |some none=>some (σ.put id (.map (es++[(key,v,clock)]) (clock+1)))
   |none=>none
  |_=>none
 |_,_=>none
def zz(t:TypeId):IV→IV→Bool
 |.raw (.pointer none),.ptr .. |.raw (.pointer none),.kU _=>match P.underlying t with|some (.pointer _)=>true|_=>false
 |.raw (.slice none _ _),.sl .. |.raw (.slice none _ _),.emp|.raw (.slice none _ _),.tree _ (_::_)=>match P.underlying t with|some (.slice _)=>true|_=>false
 |.raw (.map none),.map _=>match P.underlying t with|some (.map _ _)=>true|_=>false
 |.raw .nilFunc,.fn .. |.raw .nilFunc,.zy _=>match P.underlying t with|some (.func _ _ _)=>true|_=>false
 |.raw .nilIface,.da .. =>match P.underlying t with|some (.interface _)=>true|_=>false
 |_,_=>false
def Ud(t:TypeId)(a b:IV):Bool:=zz P t a b||zz P t b a
def ptrEq(t:TypeId):IV→IV→Option Bool
 |.ptr i o e _,.ptr j p f _=>match P.underlying t with
  |some (.pointer el)=>match aH P el with
   |some s=>if i=j∧e=f∧s≠0 then some (o==p)else none
   |none=>none
  |_=>none
 |_,_=>none
def oL(op:BinOp)(t:TypeId)(x y:Operand)(a b:IV):Option IV:=
 match op,a,b with
 |.eql,.raw (.string s),.raw (.string u)=>some (.bool (s.data.toList==u.data.toList))
 |.neq,.raw (.string s),.raw (.string u)=>some (.bool (!(s.data.toList==u.data.toList)))
 |.lss,.raw (.string s),.raw (.string u)=>some (.bool (as8 s.data.toList u.data.toList))
 |.gtr,.raw (.string s),.raw (.string u)=>some (.bool (!(as8 s.data.toList u.data.toList||s.data.toList==u.data.toList)))
 |.leq,.raw (.string s),.raw (.string u)=>some (.bool (as8 s.data.toList u.data.toList||s.data.toList==u.data.toList))
 |.geq,.raw (.string s),.raw (.string u)=>some (.bool (!(as8 s.data.toList u.data.toList)))
 |.add,.raw (.string s),.raw (.string u)=>if s.size+u.size≤2 ^40 then some (.raw (.string ⟨(s.data.toList++u.data.toList).toArray⟩))else none
 |op,a,b=>
  match iu a,iu b with
  |some u,some v=>(aK P (do eqGuard op t x y u v;binOp op t u v)).map lift
  |_,_=>
   if Ud P t a b then
    match op with
    |.eql=>some (.bool false)
    |.neq=>some (.bool true)
    |_=>none
   else match op,ptrEq P t a b with
    |.eql,some c=>some (.bool c)
    |.neq,some c=>some (.bool !c)
    |_,_=>none
def gj(f:IV)(args:List IV):Option ey:=
 match f with
 |.fn (.func f) first cap=>
  match P.funcs[f]? with
  |some fn=>if fn.body.isSome&&fn.name != "runtime.NumGoroutine" then some (.enter f (first++args++cap))else none
  |none=>none
 |.raw (.func (.func f) a b)=>
  if a.size=0∧b.size=0 then
   match P.funcs[f]? with
   |some fn=>if fn.body.isSome&&fn.name != "runtime.NumGoroutine" then some (.enter f args)else none
   |none=>none
  else none
 |.zy id=>some (.round id args)
 |_=>none
def tO(recv:IV)(name:String)(args:List IV):Option ey:=
 match recv with
 |.da t v=>match P.info? t,P.underlying t with
  |some i,some (.pointer _)=>match i.methods.find? (·.name==name)with
   |some m=>match m.func with
    |some (f,pr)=>
     if m.path.toList.isEmpty=true∧pr=true then
      match P.funcs[f]? with
      |some fn=>if fn.body.isSome&&fn.name != "runtime.NumGoroutine" then some (.enter f (v::args))else none
      |none=>none
     else none
    |none=>none
   |none=>none
  |_,_=>none
 |_=>none
def n9(argTypes:Array TypeId)(x:IV)(σ:St):Option IV:=
 match(argTypes[0]?).bind P.underlying,x with
 |some (.slice _),.sl _ _ len _ _ _=>some (.int len)
 |some (.slice _),.emp=>some (.int 0)
 |some (.slice _),.tree _ es=>some (.int es.length)
 |some (.slice _),.raw (.slice none l _)=>some (.int l)
 |some .string,.raw (.string s)=>some (.int s.size)
 |some (.map _ _),.raw (.map none)=>some (.int 0)
 |some (.map _ _),.map id=>match σ.at id with
  |some (.map es _)=>some (.int es.length)
  |_=>none
 |some (.array n _),_=>some (.int n)
 |_,_=>none
def Ue(argTypes:Array TypeId)(x:IV):Option IV:=
 match(argTypes[0]?).bind P.underlying,x with
 |some (.slice _),.sl _ _ _ (some c) _ _=>some (.int c)
 |some (.slice _),.emp=>some (.int 0)
 |some (.slice _),.raw (.slice none _ c)=>some (.int c)
 |some (.array n _),_=>some (.int n)
 |_,_=>none
def Ng(args:List IV):Option IV:=
 match gg args with
 |some vs=>(aK P (Builtin.min_ #[] 0 vs.toArray)).map lift
 |none=>none
def Jm(args:List IV):Option IV:=
 match gg args with
 |some vs=>(aK P (Builtin.max_ #[] 0 vs.toArray)).map lift
 |none=>none
def wE(ro:Nat)(argTypes:Array TypeId)(m k:IV)(σ:St):Option ey:=
 match(argTypes[0]?).bind P.underlying,m,iu k with
 |some (.map kt _),.map id,some key=>
  match σ.at id with
  |some (.map es clock)=>
   if¬ro≤id then none else
   match gM P es.isEmpty kt key es with
   |some (some i)=>ret .undef (σ.put id (.map (es.eraseIdx i) clock))
   |some none=>ret .undef (σ.put id (.map es clock))
   |none=>none
  |_=>none
 |_,_,_=>none
def sa(ro:Nat)(argTypes:Array TypeId)(x:IV)(σ:St):Option ey:=
 match(argTypes[0]?).bind P.underlying,x with
 |some _,.raw (.slice none _ _)|some _,.raw (.map none)|some _,.emp=>ret .undef σ
 |some (.map _ _),.map id=>match σ.at id with
  |some (.map _ clock)=>if ro≤id then ret .undef (σ.put id (.map [] clock))else none
  |_=>none
 |some (.slice elem),.sl id off len _ ep s=>if len=0 then ret .undef σ else
  match σ.at id with
  |some (.cells cs au _)=>
   match cn P elem with
   |some z=>if s≠0∧z.cells.size=s∧(gx (z.cells.toList.map .raw) (len*s)).all af=true∧ro≤id∧ep=au∧off+len*s≤cs.length then
     ret .undef (σ.put id (.cells (dp cs off (gx (z.cells.toList.map .raw) (len*s))) au au))else none
   |none=>none
  |_=>none
 |_,_=>none
def Ey(ro:Nat)(argTypes:Array TypeId)(d s:IV)(σ:St):Option ey:=
 match(argTypes[0]?).bind P.underlying with
 |some (.slice elem)=>match aH P elem,kh d,kh s with
  |some size,some dl,some sl=>match eF size (aty sl dl) σ s with
   |some new=>
    if new.length≠aty sl dl*size∨new.all af=false then none else
    match d with
    |.raw (.slice none 0 0)=>ret (.int (aty sl dl)) σ
    |.emp=>ret (.int (aty sl dl)) σ
    |.sl id off len _ ep st=>
     if aty sl dl=0 then ret (.int 0) σ else
     match σ.at id with
     |some (.cells cs au _)=>if st=size∧ro≤id∧ep=au∧off+aty sl dl*size≤cs.length then
       ret (.int (aty sl dl)) (σ.put id (.cells (dp cs off new) au au))else none
     |_=>none
    |_=>none
   |none=>none
  |_,_,_=>none
 |_=>none
def dv(ro:Nat)(b:Builtin)(argTypes:Array TypeId)(args:List IV)(σ:St):Option ey:=
 match b with
 |.append=>match args with
  |[s,x]=>kf P ro argTypes s x σ
  |_=>none
 |.len=>match args with
  |[x]=>(n9 P argTypes x σ).map fun v=>.val v σ
  |_=>none
 |.cap=>match args with
  |[x]=>(Ue P argTypes x).map fun v=>.val v σ
  |_=>none
 |.min=>(Ng P args).map fun v=>.val v σ
 |.max=>(Jm P args).map fun v=>.val v σ
 |.delete=>match args with
  |[m,k]=>wE P ro argTypes m k σ
  |_=>none
 |.clear=>match args with
  |[x]=>sa P ro argTypes x σ
  |_=>none
 |.copy=>match args with
  |[d,s]=>Ey P ro argTypes d s σ
  |_=>none
 |_=>none
def ak(ro:Nat)(ρ:Operand→IV)(o:Oper)(σ:St):Option ey:=
 match o.op with
 |.move x|.assign x=>ret (ρ x) σ
 |.pick c a b=>match ρ c with
  |.raw (.bool t)=>ret (if t then ρ a else ρ b) σ
  |_=>none
 |.alloc elem=>match cn P elem with
  |some z=>ret (.ptr σ.n 0 0 z.cells.size) (σ.add (.cells (z.cells.toList.map .raw) 0 0))
  |none=>none
 |.box _ x=>if(cellsOf (ρ x)).all af then ret (.ptr σ.n 0 0 (cellsOf (ρ x)).length) (σ.add (.cells (cellsOf (ρ x)) 0 0))else none
 |.build t parts=>match cn P t,P.underlying t with
  |some z,some (.struct fields)=>match pE (fun i=>(fields[i]?).bind fun f=>(aH P f.type).map fun s=>(f.offset,s)) (z.cells.toList.map .raw) (parts.toList.map fun(i,x)=>(i,ρ x))with
   |some cs=>if fields.all fun f=>(aH P f.type).isSome then ret (.agg cs) σ else none
   |none=>none
  |some z,some (.array _ elem)=>match aH P elem with
   |some s=>match pE (fun i=>some (i*s,s)) (z.cells.toList.map .raw) (parts.toList.map fun(i,x)=>(i,ρ x))with
    |some cs=>ret (.agg cs) σ
    |none=>none
   |none=>none
  |_,_=>none
 |.buildSlice t len parts=>match P.underlying t with
  |some (.slice elem)=>match aH P elem,cn P elem with
   |some s,some z=>
    if s=0∨z.cells.size≠s∨len*s>2 ^20 then none else
    match pE (fun i=>some (i*s,s)) (gx (z.cells.toList.map .raw) (len*s)) (parts.toList.map fun(i,x)=>(i,ρ x))with
    |some cs=>if cs.length=len*s∧cs.all af then(if len=0 then ret .emp σ else ret (.sl σ.n 0 len (some len) 0 s) (σ.add (.cells cs 0 0)))else none
    |none=>none
   |_,_=>none
  |_=>none
 |.load t a=>match ρ a with
  |.ptr id off ep ext=>match aH P t,σ.at id with
   |some s,some (.cells cs au mn)=>if s≤ext∧mn≤ep∧ep≤au then(match partOf P t cs off with|some v=>ret v σ|none=>none)else none
   |_,_=>none
  |.kU cs=>match partOf P t cs 0 with
   |some v=>ret v σ
   |none=>none
  |_=>none
 |.store t a x=>match ρ a with
  |.ptr id off ep ext=>match aH P t,σ.at id with
   |some s,some (.cells cs au mn)=>
    if ro≤id∧(cellsOf (ρ x)).length=s∧s≤ext∧ep=au∧off+s≤cs.length∧(cellsOf (ρ x)).all af then
     ret .undef (σ.put id (.cells (dp cs off (cellsOf (ρ x))) au au))else none
   |_,_=>none
  |_=>none
 |.nilCheck x=>match ρ x with
  |.ptr a b c d=>ret (.ptr a b c d) σ
  |.kU cs=>ret (.kU cs) σ
  |.fn (.func f) a b=>ret (.fn (.func f) a b) σ
  |.zy l=>ret (.zy l) σ
  |.da t v=>ret (.da t v) σ
  |_=>none
 |.binOp op t x y _=>match oL P op t x y (ρ x) (ρ y)with
  |some v=>ret v σ
  |none=>none
 |.unOp op _ x=>match ρ x with
  |.raw v=>match aK P (Op.unary op v)with
   |some r=>ret (lift r) σ
   |none=>none
  |_=>none
 |.convert src dst x=>match ρ x with
  |.raw (.string s)=>match P.underlying src,P.underlying dst with
   |some _,some .string=>ret (.raw (.string s)) σ
   |_,_=>none
  |.raw v=>match aK P (convert src dst v)with
   |some r=>ret (lift r) σ
   |none=>none
  |_=>none
 |.makeInterface t x=>match P.underlying t with
  |some (.interface _)=>none
  |some _=>ret (.da t (ρ x)) σ
  |none=>none
 |.makeFunc fn first cap=>ret (.fn fn (first.toList.map ρ) (cap.toList.map ρ)) σ
 |.makeMap t r=>match r with
  |none=>ret (.map σ.n) (σ.add (.map [] 0))
  |some h=>match P.underlying t,ρ h with
   |some (.map _ _),.raw (.int _ _)=>ret (.map σ.n) (σ.add (.map [] 0))
   |_,_=>none
 |.makeSlice t l c=>match P.underlying t,ρ l,ρ c with
  |some (.slice elem),.raw (.int _ l),.raw (.int _ c)=>match aH P elem,cn P elem,(P.info? elem).map (·.bytes)with
   |some s,some z,some bytes=>
    if s=0∨z.cells.size≠s∨¬(0≤l∧l≤c∧c≤1000000)∨bytes>1000000 then none else
    if c=0 then ret .emp σ else
    ret (.sl σ.n 0 l.toNat (some c.toNat) 0 s) (σ.add (.cells (gx (z.cells.toList.map .raw) (c.toNat*s)) 0 0))
   |_,_,_=>none
  |_,_,_=>none
 |.slice t x lo hi mx=>match fg P t (ρ x) (lo.map ρ) (hi.map ρ) (mx.map ρ)with
  |some v=>ret v σ
  |none=>none
 |.fieldAddr s x f=>match P.underlying s with
  |some (.struct fields)=>match fields[f]? with
   |some fd=>match aH P fd.type,ρ x with
    |some sz,.ptr id off ep ext=>if sz≠0∧fd.offset+sz≤ext then ret (.ptr id (off+fd.offset) ep sz) σ else none
    |some sz,.kU cs=>if sz≠0∧fd.offset+sz≤cs.length then ret (.kU ((cs.drop fd.offset).take sz)) σ else none
    |_,_=>none
   |none=>none
  |_=>none
 |.field t x f=>match P.underlying t,ρ x with
  |some (.struct fields),.agg cs=>match fields[f]? with
   |some fd=>match partOf P fd.type cs fd.offset with
    |some v=>ret v σ
    |none=>none
   |none=>none
  |_,_=>none
 |.indexAddr t x ix=>match P.underlying t,ρ ix with
  |some (.slice elem),.raw (.int _ i)=>match ρ x with
   |.sl id off len _ ep s=>if aH P elem=some s∧0≤i∧i<len then ret (.ptr id (off+i.toNat*s) ep s) σ else none
   |.tree s es=>if aH P elem=some s∧0≤i then match es[i.toNat]? with
     |some e=>if(cellsOf e).length=s then ret (.kU (cellsOf e)) σ else none
     |none=>none
    else none
   |_=>none
  |some (.array n elem),.raw (.int _ i)=>match ρ x,aH P elem with
   |.ptr id off ep ext,some s=>if s≠0∧0≤i∧i<n∧i.toNat*s+s≤ext then ret (.ptr id (off+i.toNat*s) ep s) σ else none
   |_,_=>none
  |_,_=>none
 |.index t x ix=>match P.underlying t,ρ x,ρ ix with
  |some .string,.raw (.string s),.raw (.int _ i)=>if 0≤i then match s.data.toList[i.toNat]? with
    |some b=>ret (.raw (.int .u8 b.toNat)) σ
    |none=>none
   else none
  |some (.array n elem),.agg cs,.raw (.int _ i)=>match aH P elem with
   |some s=>if 0≤i∧i<n then(match partOf P elem cs (i.toNat*s)with|some v=>ret v σ|none=>none)else none
   |none=>none
  |_,_,_=>none
 |.lookup t x ix ok=>match P.underlying t,entriesOf σ (ρ x),iu (ρ ix)with
  |some (.map kt elem),some es,some key=>match gM P es.isEmpty kt key es,cn P elem with
   |some (some i),some _=>match es[i]? with
    |some e=>ret (if ok then .av [e.2.1,.bool true]else e.2.1) σ
    |none=>none
   |some none,some z=>ret (if ok then .av [lift z,.bool false]else lift z) σ
   |_,_=>none
  |_,_,_=>none
 |.mapUpdate t m k x|.insert t m k x=>match P.underlying t with
  |some (.map kt _)=>match oK P ro kt (ρ m) (ρ k) (ρ x) σ with
   |some ah=>ret .undef ah
   |none=>none
  |_=>none
 |.mapEntry t m k=>match P.underlying t with
  |some (.map kt elem)=>match cn P elem,ρ m,iu (ρ k)with
   |some z,.map id,some key=>match σ.at id with
    |some (.map es clock)=>if¬ro≤id then none else match gM P false kt key es with
     |some (some i)=>match es[i]? with
      |some e=>if ati 10000 e.1 key then ret (.av [e.2.1,.int e.2.2]) (σ.put id (.map (es.set i (key,e.2.1,e.2.2)) clock))else none
      |none=>none
     |some none=>ret (.av [lift z,.int clock]) (σ.put id (.map (es++[(key,lift z,clock)]) (clock+1)))
     |none=>none
    |_=>none
   |_,_,_=>none
  |_=>none
 |.entryStore _ m st x=>match ρ m,ρ st with
  |.map id,.raw (.int _ born)=>match σ.at id with
   |some (.map es clock)=>if¬ro≤id then none else match es.findIdx? (fun e=>(e.2.2:Int)==born)with
    |some i=>match es[i]? with
     |some e=>ret .undef (σ.put id (.map (es.set i (e.1,ρ x,e.2.2)) clock))
     |none=>none
    |none=>none
   |_=>none
  |_,_=>none
 |.range t x=>match P.underlying t,ρ x with
  |some .string,.raw (.string s)=>ret (.ptr σ.n 0 0 1) (σ.add (.pD s 0))
  |some (.map _ _),.raw (.map none)=>ret (.ptr σ.n 0 0 1) (σ.add (.jm none 0 [] 0))
  |some (.map _ _),.map m=>match σ.at m with
   |some (.map _ clock)=>ret (.ptr σ.n 0 0 1) (σ.add (.jm (some m) clock [] clock))
   |_=>none
  |_,_=>none
 |.next it str=>match ρ it with
  |.ptr r 0 0 1=>if¬ro≤r then none else match σ.at r,str with
   |some (.pD s pos),true=>
    if pos<s.size then
     ret (.av [.bool true,.int pos,.raw (.int .i32 (ass s pos).1)]) (σ.put r (.pD s (pos+(ass s pos).2)))
    else ret (.av [.bool false]) σ
   |some (.jm none _ _ _),false=>ret (.av [.bool false]) σ
   |some (.jm (some m) since seen last),false=>match σ.at m with
    |some (.map es clock)=>match es with
     |[]=>ret (.av [.bool false]) σ
     |[e]=>if e.2.2∈seen then(if e.2.2<last then ret (.av [.bool false]) σ else none)else
      if e.2.2<since∧seen=[]then ret (.av [.bool true,lift e.1,e.2.1]) (σ.put r (.jm (some m) since [e.2.2] clock))else none
     |_=>none
    |_=>none
   |_,_=>none
  |_=>none
 |.entry it=>match ρ it with
  |.ptr r 0 0 1=>match σ.at r with
   |some (.jm (some m) _ seen wD)=>match σ.at m,seen.getLast? with
    |some (.map es clock),some Ez=>if clock=wD then match es.find? (fun e=>e.2.2==Ez)with
      |some e=>ret (.av [lift e.1,e.2.1]) σ
      |none=>none
     else none
    |_,_=>none
   |_=>none
  |_=>none
 |.extract t i=>match ρ t with
  |.av vs=>match vs[i]? with
   |some v=>ret v σ
   |none=>none
  |.raw (.tuple vs)=>match vs[i]? with
   |some v=>ret (.raw v) σ
   |none=>none
  |_=>none
 |.panic x=>match ρ x with
  |.da t v=>some (.bU (.da t v))
  |_=>none
 |.typeAssert x _ asserted ok=>match P.underlying asserted,cn P asserted with
  |some (.interface _),_=>none
  |some _,some z=>match ρ x with
   |.da t v=>if aqP t asserted then ret (if ok then .av [v,.bool true]else v) σ else
     if ok then ret (.av [lift z,.bool false]) σ else none
   |.raw .nilIface=>if ok then ret (.av [lift z,.bool false]) σ else none
   |_=>none
  |_,_=>none
 |.call c=>match c.callee with
  |.builtin b=>dv P ro b c.argTypes (c.args.toList.map ρ) σ
  |.value f=>gj P (ρ f) (c.args.toList.map ρ)
  |.invoke x name=>tO P (ρ x) name (c.args.toList.map ρ)
 |.defer c=>match c.callee with
  |.value f=>match gj P (ρ f) (c.args.toList.map ρ)with
   |some (.enter f args)=>some (.RT (.call f args))
   |_=>none
  |_=>none
 |_=>none
end ops
inductive Ex where
 |normal
 |exit (id:Nat)
 |goto (l:Nat)
 |ret
 |bU (v:IV)
def Ex.abE:Ex→Bool
 |.bU _=>true
 |_=>false
def wQ:Ex→Option Code
 |.normal=>none
 |.bU _=>none
 |.ret=>some .ret
 |.exit id=>some (.exit id)
 |.goto t=>some (.goto t)
structure CR where
 ex:Ex
 e:Env
 df:List Df
 σ:St
structure Self where
 code:(ro:Nat)→(rd:Option Nat)→FuncId→Code→Env→List Df→St→Option CR
 call:(ro:Nat)→FuncId→List IV→St→Option (IV×St)
 bU:(ro:Nat)→FuncId→List IV→St→Option (IV×St)
 vF:(ro:Nat)→FuncId→List IV→Option IV→St→Option (Option IV×St)
section steps
variable(P:Program)(S:Self)
def aq(e:Env):Operand→IV
 |.tmp t=>e.at t
 |.const v=>lift v
 |.global g=>.raw (.pointer (some ⟨g,0,none⟩))
 |.func f=>.raw (.func (.func f) #[] #[])
def aJ(o:Oper)(ops:Array Oper)(e:Env):Bool:=
 match o.guard with
 |none=>true
 |some (j,want)=>match((ops[j]?).bind (·.dst))with
  |some d=>if arH d e.n then(match e.at d with|.raw (.bool b)=>b==want|_=>false)else false
  |none=>false
def zA(ro:Nat)(l:Nat)(args:List IV)(σ:St):Option (IV×St):=
 match σ.at l with
 |some (.loop state pending f tm r_ params assign body lX)=>
  if args.length≠params.length∨¬ro≤l∨state≠.ready then none else
  let e:Env:=(params.zip args).foldl (fun e (p,v)=>e.put (some p) v) ⟨r_,tm⟩
  match S.code ro (some l) f assign e [] σ with
  |some ⟨.normal,e,[],σ⟩=>
   match σ.at l with
   |some (.loop .ready pending f1 tm1 aev params1 RU abF aew)=>
    match S.code ro (some l) f body e [] (σ.put l (.loop .busy pending f1 tm1 aev params1 RU abF aew))with
    |some ⟨ex,_,[],σ⟩=>
     if ex.abE then none else
     match σ.at l with
     |some (.loop _ _ f tm r_ params assign body lX)=>
      some (.bool (wQ ex).isNone,σ.put l (.loop (if(wQ ex).isNone then .ready else .done) (wQ ex) f tm r_ params assign body lX))
     |_=>none
    |_=>none
   |_=>none
  |_=>none
 |_=>none
def jn(ro:Nat)(e:Env)(o:Oper)(σ:St):Option (IV×St):=
 match ak P ro (aq e) o σ with
 |some (.val v σ)=>some (v,σ)
 |some (.enter f args)=>S.call ro f args σ
 |some (.round l args)=>zA S ro l args σ
 |_=>none
def xW(ro:Nat)(rd:Option Nat)(ops:Array Oper):List Oper→Env→List Df→St→Option CR
 |[],e,df,σ=>some ⟨.normal,e,df,σ⟩
 |o::rest,e,df,σ=>
  if aJ o ops e then
   match jn P S ro e o σ with
   |some (v,σ)=>xW ro rd ops rest (e.put o.dst v) df σ
   |none=>match ak P ro (aq e) o σ with
    |some (.RT d)=>if rd.isNone then xW ro rd ops rest (e.put o.dst .undef) (d::df) σ else none
    |some (.enter f args)=>match S.bU ro f args σ with
     |some (v,σ)=>some ⟨.bU v,e,df,σ⟩
     |none=>none
    |some (.bU v)=>some ⟨.bU v,e,df,σ⟩
    |_=>none
  else xW ro rd ops rest (e.put o.dst .undef) df σ
inductive Kind where
 |pure|alloc|load|call|effect
 deriving DecidableEq
def db(o:Oper):Kind:=
 match o.op with
 |.move _|.assign _|.pick .. |.build .. |.binOp .. |.unOp .. |.convert .. |.makeInterface .. |.makeFunc .. |.slice .. |.fieldAddr .. |.field ..
 |.indexAddr .. |.index .. |.extract .. |.nilCheck _=>.pure
 |.call {callee:=.builtin .cap,.. }|.call {callee:=.builtin .min,.. }|.call {callee:=.builtin .max,.. }=>.pure
 |.alloc .. |.box .. |.buildSlice .. |.makeMap .. |.makeSlice .. =>.alloc
 |.load .. |.lookup .. |.entry _|.call {callee:=.builtin .len,.. }=>.load
 |.call {callee:=.value _,.. }|.call {callee:=.builtin .append,.. }=>.call
 |_=>.effect
def EA(acc:List Nat)(o:Oper):List Nat:=
 acc++[o.after.toList.foldl (fun s e=>if ast .any e then Nat.lor s (Nat.lor (Nat.shiftLeft 1 e.on) (acc.getD e.on 0))else s) 0]
def Nh(ops:Array Oper):List Nat:=ops.toList.foldl EA []
def tP(ops:Array Oper)(o:Oper):List Nat:=
 (o.op.operands.toList.filterMap fun|.tmp t=>some t|_=>none)++(match o.guard with|some (j,_)=>(((ops[j]?).bind (·.dst)).toList)|none=>[])
structure dM where
 bW:List Nat
 kinds:List Kind
 ok:Bool
def abG:Kind→Kind→Bool
 |.effect,.effect|.effect,.call|.call,.effect=>true
 |_,_=>false
def writes(o:Oper)(l:List Nat):Bool:=
 match o.dst with
 |some a=>l.contains a
 |none=>false
def zB(bW:List Nat)(ks:List Kind)(RV:List (List Nat))(p:Oper)(i:Nat)(o:Oper)(j:Nat):Bool:=
 (match p.dst,o.dst with|some a,some b=> !aqP a b|_,_=>true)&&
 (!(ks.getD i .effect==.load)|| !writes o (RV.getD i []))&&
 (aq0 (bW.getD j 0) i||(!writes p (RV.getD j [])&& !writes o (RV.getD i [])&& !abG (ks.getD i .effect) (ks.getD j .effect)))
def dq(ops:Array Oper):dM:=
 let l:=ops.toList.zipIdx
 let bW:=Nh ops
 let ord (i j:Nat):Bool:=if arH i j then aq0 (bW.getD j 0) i else aq0 (bW.getD i 0) j
 let ks:=l.map fun(o,i)=>match db o with
  |.call=>if l.all fun(p,j)=>aqP i j||(db p)==.pure||ord i j then Kind.effect else Kind.call
  |k=>k
 let RV:=ops.toList.map (tP ops)
 let ok:=l.all fun(o,j)=>
  (o.after.toList.all fun e=> !ast .any e||arH e.on j)&&
  (!(ks.getD j .effect==.load)|| !writes o (RV.getD j []))&&
  (l.all fun(p,i)=> !arH i j||zB bW ks RV p i o j)
 ⟨bW,ks,ok⟩
def Ni:IV→IV→Bool
 |.raw (.int j a),.raw (.int k b)=>j==k&&a==b
 |.raw (.bool a),.raw (.bool b)=>a==b
 |.raw (.string a),.raw (.string b)=>a.data.toList==b.data.toList
 |.ptr a b c d,.ptr a' b' c' d'=>aqP a a'&&aqP b b'&&aqP c c'&&aqP d d'
 |.map a,.map b=>aqP a b
 |.sl a b c d e f,.sl a' b' c' d' e' f'=>aqP a a'&&aqP b b'&&aqP c c'&&(d==d')&&aqP e e'&&aqP f f'
 |.emp,.emp=>true
 |_,_=>false
structure Piece where
 j:Nat
 lo:Nat
 hi:Nat
 t:T Ob
def di(b:T Ob)(p:Piece):T Ob:=
 (List.range' p.lo (p.hi- p.lo)).foldl (fun b id=>match p.t.get id with|some o=>b.set id o|none=>b) b
structure DS where
 e:Env
 n:Nat
 bs:List (Nat×T Ob)
 aD:List Piece
def seen(aD:List Piece)(bits:Nat)(b:T Ob):T Ob:=(aD.filter fun p=>aq0 bits p.j).foldl di b
theorem Wr{u v:IV}(h:Ni u v=true):u=v:=by
 unfold Ni at h;split at h
 ·simp only[aqG,beq_iff_eq]at h;rw[h.1,h.2]
 ·simp only[beq_iff_eq]at h;rw[h]
 ·rename_i a b;simp only[beq_iff_eq]at h
  have:a=b:=by
   cases a with|mk x=>cases b with|mk y=>simp only at h;cases x;cases y;simp only at h;rw[h]
  rw[this]
 ·simp only[aqG]at h;rw[aqO h.1.1.1,aqO h.1.1.2,aqO h.1.2,aqO h.2]
 ·rw[aqO h]
 ·simp only[aqG,beq_iff_eq]at h;obtain⟨⟨⟨⟨⟨h1,h2⟩,h3⟩,h4⟩,h5⟩,h6⟩:=h;rw[aqO h1,aqO h2,aqO h3,h4,aqO h5,aqO h6]
 ·rfl
 ·cases h
class Sm where
 sm:IV→IV→Bool
 ok:∀u v,sm u v=true→u=v
abbrev Nj:Sm:=⟨Ni,fun _ _ h=>Wr h⟩
section draw
variable[Sm]
def loadAt(e:Env)(o:Oper)(n:Nat)(v:IV)(aD:List Piece)(bits:Nat)(b:T Ob):Bool:=
 match ak P n (aq e) o ⟨n,seen aD bits b⟩with
 |some (.val u σ)=>aqP σ.n n&&Sm.sm u v
 |_=>false
def lH(e:Env)(o:Oper)(n:Nat)(v:IV)(aD:List Piece)(bits:Nat):List (Nat×T Ob)→Bool
 |[]=>true
 |(i,b)::rest=>loadAt P e o n v aD bits b&&(aq0 bits i||lH e o n v aD bits rest)
def recheck(pl:dM)(ops:Array Oper)(bits:Nat)(e:Env)(n:Nat)(aD:List Piece)(b:T Ob)(l:List (Oper×Nat)):Bool:=
 l.all fun(o,i)=>match pl.kinds.getD i .effect with
  |.load=>aq0 bits i|| !aJ o ops e||(match o.dst with|some d=>loadAt P e o n (e.at d) aD (pl.bW.getD i 0) b|none=>false)
  |_=>true
def bL(pl:dM)(ro:Nat)(ops:Array Oper)(o:Oper)(j:Nat)(d:DS):Option DS:=
 let bits:=pl.bW.getD j 0
 let RX:=ops.toList.zipIdx.take j
 match d.bs with
 |[]=>none
 |(i,b)::rest=>
  if aJ o ops d.e then
   match pl.kinds.getD j .effect with
   |.pure=>match ak P 0 (aq d.e) o ⟨0,.lf⟩with
    |some (.val v σ)=>if σ.n=0 then some {d with e:=d.e.put o.dst v}else none
    |_=>none
   |.alloc=>match ak P 0 (aq d.e) o ⟨d.n,.lf⟩with
    |some (.val v σ)=>some {d with e:=d.e.put o.dst v,n:=σ.n,aD:=⟨j,d.n,σ.n,σ.t⟩::d.aD}
    |_=>none
   |.load=>match ak P d.n (aq d.e) o ⟨d.n,seen d.aD bits b⟩with
    |some (.val v σ)=>
     if σ.n=d.n∧(aq0 bits i||lH P d.e o d.n v d.aD bits rest)=true then some {d with e:=d.e.put o.dst v}else none
    |_=>none
   |.call=>match jn P S d.n d.e o ⟨d.n,seen d.aD bits b⟩with
    |some (v,σ)=>some {d with e:=d.e.put o.dst v,n:=σ.n,aD:=⟨j,d.n,σ.n,σ.t⟩::d.aD}
    |none=>none
   |.effect=>
    match jn P S ro d.e o ⟨d.n,seen d.aD bits b⟩with
    |some (v,σ)=>
     let e:=d.e.put o.dst v
     if recheck P pl ops bits d.e σ.n (d.aD.filter fun p=> !aq0 bits p.j) σ.t RX then
      some ⟨e,σ.n,(j,σ.t)::d.bs,d.aD.filter fun p=> !aq0 bits p.j⟩
     else none
    |none=>none
  else match pl.kinds.getD j .effect with
   |.effect=>if recheck P pl ops bits d.e d.n d.aD b RX then some ⟨d.e.put o.dst .undef,d.n,(j,b)::d.bs,d.aD⟩else none
   |_=>some {d with e:=d.e.put o.dst .undef}
def iF(SF:Nat→Self)(pl:dM)(ro:Nat)(ops:Array Oper):List (Oper×Nat)→DS→Option DS
 |[],d=>some d
 |(o,j)::rest,d=>match bL P (SF j) pl ro ops o j d with
  |some d=>iF SF pl ro ops rest d
  |none=>none
def pF(SF:Nat→Self)(ro:Nat)(ops:Array Oper)(e:Env)(df:List Df)(σ:St):Option CR:=
 let pl:=dq ops
 if pl.ok then
  match iF P SF pl ro ops ops.toList.zipIdx ⟨e,σ.n,[(0,σ.t)],[]⟩with
  |some ⟨e,n,(_,b)::_,aD⟩=>some ⟨.normal,e,df,⟨n,aD.foldl di b⟩⟩
  |_=>none
 else none
end draw
def Nk(ro:Nat)(ops:Array Oper)(e:Env)(df:List Df)(σ:St):Option CR:= @pF P Nj (fun _=>S) ro ops e df σ
def uX(ro:Nat)(rd:Option Nat)(fn:FuncId)(c:Code)(e:Env)(df:List Df)(σ:St):Option CR:=
 match c with
 |.skip|.label _=>some ⟨.normal,e,df,σ⟩
 |.region _ ops draw=>if draw then Nk P S ro ops e df σ else xW P S ro rd ops ops.toList e df σ
 |.seq a b=>match S.code ro rd fn a e df σ with
  |some ⟨.normal,e,df,σ⟩=>S.code ro rd fn b e df σ
  |r=>r
 |.cond c a b=>match aq e c with
  |.raw (.bool t)=>S.code ro rd fn (if t then a else b) e df σ
  |_=>none
 |.block id a=>match S.code ro rd fn a e df σ with
  |some ⟨.exit br,e,df,σ⟩=>if br=id then some ⟨.normal,e,df,σ⟩else some ⟨.exit br,e,df,σ⟩
  |r=>r
 |.loop a=>match S.code ro rd fn a e df σ with
  |some ⟨.normal,e,df,σ⟩=>S.code ro rd fn (.loop a) e df σ
  |r=>r
 |.scope a=>match S.code ro rd fn a e df σ with
  |some ⟨.goto _,_,_,_⟩=>none
  |r=>r
 |.exit id=>some ⟨.exit id,e,df,σ⟩
 |.goto l=>some ⟨.goto l,e,df,σ⟩
 |.ret=>some ⟨.ret,e,df,σ⟩
 |.rangeFunc g params assign body=>
  let en:Option (Nat×St×List Df):=match rd with
   |none=>some (σ.n,σ.add (.FE false),[.CG σ.n])
   |some l=>match σ.at l with
    |some (.loop _ _ _ _ _ _ _ _ lX)=>some (lX,σ,[])
    |_=>none
  match en with
  |some (lX,σ,mark)=>
   let l:=σ.n
   let σ:=σ.add (.loop .ready none fn e.t e.n params.toList assign body lX)
   match gj P (aq e g) [.zy l]with
   |some (.enter f args)=>match S.call ro f args σ with
    |some (_,σ)=>match σ.at l with
     |some (.loop state pending f tm r_ ps as bd d)=>
      if state=.busy∨¬ro≤l then none else
      let σ:=σ.put l (.loop .exhausted pending f tm r_ ps as bd d)
      match pending with
      |none=>some ⟨.normal,e,mark++df,σ⟩
      |some c=>S.code ro rd fn c e (mark++df) σ
     |_=>none
    |none=>none
   |_=>none
  |none=>none
 |.refuse _=>none
def fP(ro:Nat):List Df→Option IV→St→Option (Option IV×St)
 |[],m,σ=>some (m,σ)
 |.CG id::ds,m,σ=>match σ.at id with
  |some (.FE false)=>if ro≤id then fP ro ds m (σ.put id (.FE true))else none
  |_=>none
 |.call f args::ds,m,σ=>match S.vF ro f args m σ with
  |some (m,σ)=>fP ro ds m σ
  |none=>none
def bE(fn:Func)(e:Env)(σ:St):Option IV:=
 let one (r:ResultVar):Option IV:=match r with
  |.tmp t=>some (e.at t)
  |.cell a t=>match e.at a with
   |.ptr id off ep ext=>match aH P t,σ.at id with
    |some s,some (.cells cs au mn)=>if s≤ext∧mn≤ep∧ep≤au then partOf P t cs off else none
    |_,_=>none
   |_=>none
 match fn.results.toList with
 |[r]=>one r
 |l=>match l.mapM one with
  |some vs=>some (.av vs)
  |none=>none
def zC(ro:Nat)(f:FuncId)(args:List IV)(σ:St):Option (Func×Env×Option IV×St):=
 match P.funcs[f]? with
 |some fn=>match fn.body with
  |some c=>
   if args.length>fn.ntmps then none else
   let e:Env:=(args.zipIdx).foldl (fun e (v,i)=>e.put (some i) v) ⟨fn.ntmps,.lf⟩
   match S.code ro none f c e [] σ with
   |some ⟨.normal,e,df,σ⟩|some ⟨.ret,e,df,σ⟩=>match fP S ro df none σ with
    |some (m,σ)=>some (fn,e,m,σ)
    |none=>none
   |some ⟨.bU v,e,df,σ⟩=>match fP S ro df (some v) σ with
    |some (m,σ)=>some (fn,e,m,σ)
    |none=>none
   |_=>none
  |none=>none
 |none=>none
def Nl(ro:Nat)(f:FuncId)(args:List IV)(σ:St):Option (IV×St):=
 match zC P S ro f args σ with
 |some (fn,e,none,σ)=>match bE P fn e σ with
  |some v=>some (v,σ)
  |none=>none
 |_=>none
def Uf(ro:Nat)(f:FuncId)(args:List IV)(σ:St):Option (IV×St):=
 match zC P S ro f args σ with
 |some (_,_,some v,σ)=>some (v,σ)
 |_=>none
def mF(o:Oper):Bool:=
 match o.op with
 |.call {callee:=.builtin .recover,.. }=>true
 |_=>false
def nA(ro:Nat)(ops:Array Oper):List Oper→Env→Option IV→St→Option (Env×Option IV×St)
 |[],e,m,σ=>some (e,m,σ)
 |o::rest,e,m,σ=>
  if aJ o ops e then
   if mF o then
    match m with
    |some v=>nA ro ops rest (e.put o.dst v) none σ
    |none=>nA ro ops rest (e.put o.dst (.raw .nilIface)) none σ
   else match ak P ro (aq e) o σ with
    |some (.val v σ)=>nA ro ops rest (e.put o.dst v) m σ
    |_=>none
  else nA ro ops rest (e.put o.dst .undef) m σ
def xX(ro:Nat)(fn:FuncId):Code→Env→Option IV→St→Option (CR×Option IV)
 |.seq a b,e,m,σ=>match xX ro fn a e m σ with
  |some (⟨.normal,e,[],σ⟩,m)=>xX ro fn b e m σ
  |some (⟨.normal,_,_,_⟩,_)=>none
  |r=>r
 |.region id ops draw,e,m,σ=>
  if !draw&&ops.any mF then match nA P ro ops ops.toList e m σ with
   |some (e,m,σ)=>some (⟨.normal,e,[],σ⟩,m)
   |none=>none
  else match S.code ro none fn (.region id ops draw) e [] σ with
   |some r=>some (r,m)
   |none=>none
 |c,e,m,σ=>match S.code ro none fn c e [] σ with
  |some r=>some (r,m)
  |none=>none
def Ay(ro:Nat)(f:FuncId)(args:List IV)(m:Option IV)(σ:St):Option (Option IV×St):=
 match P.funcs[f]? with
 |some fn=>
  if !(fn.body.isSome&&fn.name != "runtime.NumGoroutine")then none else
  match fn.body with
  |some c=>
   if args.length>fn.ntmps then none else
   let e:Env:=(args.zipIdx).foldl (fun e (v,i)=>e.put (some i) v) ⟨fn.ntmps,.lf⟩
   match xX P S ro f c e m σ with
   |some (⟨.normal,e,[],σ⟩,m)|some (⟨.ret,e,[],σ⟩,m)=>match bE P fn e σ with
    |some _=>some (m,σ)
    |none=>none
   |_=>none
  |none=>none
 |none=>none
end steps
def Self.none:Self:=⟨fun _ _ _ _ _ _ _=>at1,fun _ _ _ _=>at1,fun _ _ _ _=>at1,fun _ _ _ _ _=>at1⟩
def lj(P:Program)(S:Self):Self:=⟨uX P S,Nl P S,Uf P S,Ay P S⟩
def ev(P:Program)(n:Nat):Self:=Nat.rec Self.none (fun _ S=>lj P S) n
end Go.Ev
namespace Go.Ev
namespace T
variable{α:Type}
theorem uY(l:T α)(v:Option α)(r:T α)(i:Nat):(T.nd l v r).get i=if i=0 then v else if i % 2=1 then l.get (i/2)else r.get (i/2- 1):=by
 simp[get,ark]
theorem RY(f:Nat)(l:T α)(v:Option α)(r:T α)(i:Nat)(x:α):qe (f+1) (T.nd l v r) i x=
 if i=0 then .nd l (some x) r else if i % 2=1 then .nd (qe f l (i/2) x) v r else .nd l v (qe f r (i/2- 1) x):=by
 simp[qe,ark]
theorem RZ(f:Nat)(i:Nat)(x:α):qe (f+1) (.lf:T α) i x=qe (f+1) (.nd .lf none .lf) i x:=by
 simp[qe]
theorem ac9(i:Nat):(T.lf:T α).get i=(T.nd .lf none .lf:T α).get i:=by
 rw[uY];simp[get]
theorem Gg:∀(f:Nat) (t:T α) (i:Nat) (x:α) (j:Nat),i<f→(qe f t i x).get j=if i=j then some x else t.get j:=by
 intro f;induction f with
 |zero=>intro t i x j h;omega
 |succ f ih=>
  intro t i x j h
  have key:∀(l:T α) (v:Option α) (r:T α),(qe (f+1) (.nd l v r) i x).get j=if i=j then some x else(T.nd l v r).get j:=by
   intro l v r;rw[RY,uY];by_cases hi:i=0
   ·subst hi;rw[if_pos rfl,uY];by_cases hj:j=0
    ·subst hj;simp
    ·have:¬0=j:=fun h=>hj h.symm;simp[hj,this]
   ·rw[if_neg hi];by_cases ho:i % 2=1
    ·rw[if_pos ho,uY];by_cases hj:j=0
     ·subst hj;simp[hi]
     ·by_cases lY:j % 2=1
      ·simp only[hj,lY,if_false,if_true];rw[ih _ _ _ _ (by omega)];by_cases e:i=j
       ·simp[e]
       ·have:i/2≠j/2:=by omega
        simp[e,this]
      ·have:i≠j:=by omega
       simp[hj,lY,this]
    ·rw[if_neg ho,uY];by_cases hj:j=0
     ·subst hj;simp[hi]
     ·by_cases lY:j % 2=1
      ·have:i≠j:=by omega
       simp[hj,lY,this]
      ·simp only[hj,lY,if_false];rw[ih _ _ _ _ (by omega)];by_cases e:i=j
       ·simp[e]
       ·have:i/2- 1≠j/2- 1:=by omega
        simp[e,this]
  cases t with
  |lf=>rw[RZ,key,ac9]
  |nd l v r=>exact key l v r
theorem fQ(t:T α)(i:Nat)(x:α)(j:Nat):(t.set i x).get j=if i=j then some x else t.get j:=Gg _ _ _ _ _ (by omega)
@[simp] theorem apF(j:Nat):(T.lf:T α).get j=none:=rfl
end T
theorem eL{α:Type}{P:Program}(w:World):∀(s:Sem α) {a:α},aK P s=some a→s.run P w=.ok a w
 |.pure _,_,h=>by simp only[aK,aqH]at h;subst h;rfl
 |.program k,_,h=>by simp only[aK]at h;simp only[Sem.run];exact eL w (k P) h
 |.mark m k,_,h=>by simp only[aK]at h;simp only[Sem.run];exact eL w k h
 |.load ..,_,h|.store ..,_,h|.new ..,_,h|.shape ..,_,h|.freeze ..,_,h|.frozen ..,_,h|.getObj ..,_,h|.setObj ..,_,h|.choose ..,_,h|.sys ..,_,h|.halt ..,_,h=>by cases h
structure Loc where
 b:Nat
 n:Nat
 lim:Nat
abbrev Fz:=Nat→Option (Array Value)
structure Io where
 f:Nat→Nat→Option Loc
 m:Fz
instance:CoeFun Io (fun _=>Nat→Nat→Option Loc):=⟨Io.f⟩
structure Ext(ι aC:Io):Prop where
 f:∀id e l,ι id e=some l→aC id e=some l
 m:∀b c,ι.m b=some c→aC.m b=some c
instance{ι aC:Io}:CoeFun (Ext ι aC) (fun _=>∀id e l,ι id e=some l→aC id e=some l):=⟨Ext.f⟩
theorem Ext.refl(ι:Io):Ext ι ι:=⟨fun _ _ _ h=>h,fun _ _ h=>h⟩
theorem Ext.trans{ι b_ od:Io}(h:Ext ι b_)(k:Ext b_ od):Ext ι od:=⟨fun _ _ _ x=>k.f _ _ _ (h.f _ _ _ x),fun _ _ x=>k.m _ _ (h.m _ _ x)⟩
def oe(M:Fz)(b off:Nat):Option Value:=(M b).bind (·[off]?)
theorem Az{M M':Fz}(h:∀b c,M b=some c→M' b=some c){b off:Nat}{v:Value}(hc:oe M b off=some v):oe M' b off=some v:=by
 unfold oe at hc⊢;cases hb:M b with
 |none=>rw[hb]at hc;cases hc
 |some c=>rw[hb]at hc;rw[h b c hb];exact hc
inductive Rv(ι:Io):IV→Value→Prop
 |raw (v:Value):Rv ι (.raw v) v
 |agg (cs:List IV) (vs:List Value) (hl:cs.length=vs.length) (h:∀(i:Nat) (c:IV) (v:Value),cs[i]?=some c→vs[i]?=some v→Rv ι c v):Rv ι (.agg cs) (.agg vs.toArray)
 |av (cs:List IV) (vs:List Value) (hl:cs.length=vs.length) (h:∀(i:Nat) (c:IV) (v:Value),cs[i]?=some c→vs[i]?=some v→Rv ι c v):Rv ι (.av cs) (.tuple vs.toArray)
 |ptr (id off ep ext:Nat) (l:Loc) (hl:ι id ep=some l) (hx:off+ext≤l.n∧off+ext≤l.lim):Rv ι (.ptr id off ep ext) (.pointer (some ⟨l.b,off,none⟩))
 |sl (id off len:Nat) (cap:Option Nat) (ep s:Nat) (l:Loc) (c:Nat) (a:Addr) (hl:ι id ep=some l) (hn:off+len*s≤l.n) (gN:off+c*s≤l.lim) (hs:0<s) (hle:len≤c)
   (fw:∀k,cap=some k→c=k∧off+c*s≤l.n) (ha:0<c→a=⟨l.b,off,none⟩):Rv ι (.sl id off len cap ep s) (.slice (some a) len c)
 |emp (a:Addr):Rv ι .emp (.slice (some a) 0 0)
 |map (id:Nat) (l:Loc) (hl:ι id 0=some l):Rv ι (.map id) (.map (some l.b))
 |fn (f:Fn) (as bs:List IV) (cs ds:List Value) (hl:as.length=cs.length) (h:∀(i:Nat) (c:IV) (v:Value),as[i]?=some c→cs[i]?=some v→Rv ι c v)
   (eN:bs.length=ds.length) (h2:∀(i:Nat) (c:IV) (v:Value),bs[i]?=some c→ds[i]?=some v→Rv ι c v):Rv ι (.fn f as bs) (.func f cs.toArray ds.toArray)
 |zy (id:Nat) (l:Loc) (hl:ι id 0=some l):Rv ι (.zy id) (.func (.yield l.b) #[] #[])
 |da (t:TypeId) (x:IV) (v:Value) (h:Rv ι x v):Rv ι (.da t x) (.iface t v)
 |tree (s:Nat) (es:List IV) (b off c:Nat) (us:Nat→Value) (hs:0<s) (hc:es.length≤c) (bC:∀e∈es,(cellsOf e).length=s)
   (hu:∀k,k<es.length*s→oe ι.m b (off+k)=some (us k)) (h:∀(i:Nat) (e:IV) (j:Nat) (c:IV),es[i]?=some e→(cellsOf e)[j]?=some c→Rv ι c (us (i*s+j))):
   Rv ι (.tree s es) (.slice (some ⟨b,off,none⟩) es.length c)
 |dN (s:Nat) (a:Option Addr) (c:Nat) (hs:0<s) (hn:a=none→c=0):Rv ι (.tree s []) (.slice a 0 c)
 |kU (cs:List IV) (b off:Nat) (us:Nat→Value) (hu:∀k,k<cs.length→oe ι.m b (off+k)=some (us k)) (h:∀(j:Nat) (c:IV),cs[j]?=some c→Rv ι c (us j)):
   Rv ι (.kU cs) (.pointer (some ⟨b,off,none⟩))
theorem Rv.mono{ι aC:Io}(gJ:Ext ι aC){x:IV}{v:Value}(h:Rv ι x v):Rv aC x v:=by
 induction h with
 |raw v=>exact .raw v
 |agg cs vs hl _ ih=>exact .agg cs vs hl ih
 |av cs vs hl _ ih=>exact .av cs vs hl ih
 |ptr id off ep ext l hl hx=>exact .ptr id off ep ext l (gJ _ _ _ hl) hx
 |sl id off len cap ep s l c a hl hn gN hs hle fw ha=>exact .sl id off len cap ep s l c a (gJ _ _ _ hl) hn gN hs hle fw ha
 |emp a=>exact .emp a
 |map id l hl=>exact .map id l (gJ _ _ _ hl)
 |fn f as bs cs ds hl _ eN _ ih eH=>exact .fn f as bs cs ds hl ih eN eH
 |zy id l hl=>exact .zy id l (gJ _ _ _ hl)
 |da t x v _ ih=>exact .da t x v ih
 |tree s es b off c us hs hc bC hu _ ih=>exact .tree s es b off c us hs hc bC (fun k hk=>Az gJ.m (hu k hk)) ih
 |dN s a c hs hn=>exact .dN s a c hs hn
 |kU cs b off us hu _ ih=>exact .kU cs b off us (fun k hk=>Az gJ.m (hu k hk)) ih
def ax(ι:Io)(cs:List IV)(vs:List Value):Prop:=cs.length=vs.length∧∀(i:Nat) (c:IV) (v:Value),cs[i]?=some c→vs[i]?=some v→Rv ι c v
section lists
variable{ι:Io}
theorem ax.mono{aC:Io}(gJ:Ext ι aC){cs:List IV}{vs:List Value}(h:ax ι cs vs):ax aC cs vs:=
 ⟨h.1,fun i c v h1 h2=>(h.2 i c v h1 h2).mono gJ⟩
theorem ax.nil:ax ι [] []:=⟨rfl,fun i c v h _=>by simp at h⟩
theorem ax.cons{c:IV}{v:Value}{cs:List IV}{vs:List Value}(h:Rv ι c v)(hs:ax ι cs vs):ax ι (c::cs) (v::vs):=by
 refine⟨by simp[hs.1],fun i=>?_⟩;cases i with
 |zero=>intro c' v' h1 h2;simp at h1 h2;subst h1 h2;exact h
 |succ i=>intro c' v' h1 h2;simp at h1 h2;exact hs.2 i c' v' h1 h2
theorem ax.sb{c:IV}{cs:List IV}{vs:List Value}(h:ax ι (c::cs) vs):∃v vG,vs=v::vG∧Rv ι c v∧ax ι cs vG:=by
 cases vs with
 |nil=>simp[ax]at h
 |cons v vG=>exact⟨v,vG,rfl,h.2 0 c v rfl rfl,by simpa[ax]using h.1,fun i c' v' h1 h2=>h.2 (i+1) c' v' h1 h2⟩
theorem ax.of_nil{vs:List Value}(h:ax ι [] vs):vs=[]:=List.eq_nil_of_length_eq_zero h.1.symm
theorem ax.append{cs ds:List IV}{vs us:List Value}(h:ax ι cs vs)(k:ax ι ds us):ax ι (cs++ds) (vs++us):=by
 refine⟨by simp[h.1,k.1],fun i c v h1 h2=>?_⟩;by_cases hi:i<cs.length
 ·rw[aqQ hi]at h1;rw[aqQ (h.1▸hi)]at h2;exact h.2 i c v h1 h2
 ·rw[aq_ (by omega)]at h1;rw[aq_ (by have:=h.1;omega),←h.1]at h2;exact k.2 _ c v h1 h2
theorem ax.drop(n:Nat){cs:List IV}{vs:List Value}(h:ax ι cs vs):ax ι (cs.drop n) (vs.drop n):=
 ⟨by simp[h.1],fun i c v h1 h2=>h.2 (n+i) c v (by simpa using h1) (by simpa using h2)⟩
theorem ax.take(n:Nat){cs:List IV}{vs:List Value}(h:ax ι cs vs):ax ι (cs.take n) (vs.take n):=by
 refine⟨by simp[h.1],fun i c v h1 h2=>?_⟩;rw[ard]at h1 h2;split at h1
 ·rename_i hi;rw[if_pos hi]at h2;exact h.2 i c v h1 h2
 ·cases h1
theorem ax.dp(off:Nat){cs ds:List IV}{vs us:List Value}(h:ax ι cs vs)(k:ax ι ds us):ax ι (dp cs off ds) (vs.take off++us++vs.drop (off+us.length)):=by
 unfold Ev.dp;rw[k.1];exact((h.take off).append k).append (h.drop _)
theorem ax.get{cs:List IV}{vs:List Value}(h:ax ι cs vs){i:Nat}{c:IV}(hc:cs[i]?=some c):∃v,vs[i]?=some v∧Rv ι c v:=by
 have hi:i<vs.length:=by have:=(List.getElem?_eq_some_iff.1 hc).1;have:=h.1;omega
 exact⟨vs[i],aqE hi,h.2 i c _ hc (aqE hi)⟩
theorem ax.sc(vs:List Value):ax ι (vs.map .raw) vs:=by
 refine⟨by simp,fun i c v h1 h2=>?_⟩;simp only[aqU,h2,Option.map_some,aqH]at h1;subst h1;exact .raw v
theorem ax.of_map{α:Type}{f:α→IV}{g:α→Value}{l:List α}(h:∀a∈l,Rv ι (f a) (g a)):ax ι (l.map f) (l.map g):=by
 refine⟨by simp,fun i c v h1 h2=>?_⟩;simp only[aqU,Option.map_eq_some_iff]at h1 h2;obtain⟨a,ha,rfl⟩:=h1;obtain⟨b,hb,rfl⟩:=h2;rw[ha]at hb;cases hb;exact h a (List.mem_of_getElem? ha)
end lists
section shapes
variable{ι:Io}
theorem Rv.lift(v:Value):Rv ι (Ev.lift v) v:=by
 unfold Ev.lift;split
 ·rename_i cs;have:=Rv.agg (ι:=ι) (cs.toList.map .raw) cs.toList (by simp) (ax.sc cs.toList).2;simpa using this
 ·exact .raw _
theorem ur:∀{cs:List IV} {us:List Value},gg cs=some us→∀{vs:List Value},ax ι cs vs→vs=us
 |[],us,h,vs,hr=>by simp only[gg,aqH]at h;subst h;exact hr.of_nil
 |c::cs,us,h,vs,hr=>by
  obtain⟨v,vG,rfl,h1,h2⟩:=hr.sb;simp only[gg]at h;split at h
  ·split at h
   ·rename_i u oM hu;simp only[aqH]at h;subst h;cases h1;rw[ur hu h2]
   ·cases h
  ·cases h
theorem KH{x:IV}{u v:Value}(h:oJ x=some u)(hr:Rv ι x v):v=u:=by
 unfold oJ at h;split at h
 ·cases hr;simpa using h
 ·split at h
  ·rename_i us hu;cases hr with
   |agg cs vs hl hh=>
    simp only[aqH]at h;subst h;rw[ur hu ⟨hl,hh⟩]
  ·cases h
 ·cases h
theorem tQ{x:IV}{u v:Value}(h:iu x=some u)(hr:Rv ι x v):v=u:=by
 unfold iu at h;split at h
 ·split at h
  ·rename_i hu;cases hr with
   |da t x v hh=>
    simp only[aqH]at h;subst h;rw[KH hu hh]
  ·cases h
 ·exact KH h hr
theorem Rv.cells{x:IV}{v:Value}(h:Rv ι x v)(hx:∀u,x=.raw u→∀c,u≠.agg c):ax ι (cellsOf x) v.cells.toList:=by
 cases h with
 |agg cs vs hl hh=>exact⟨hl,hh⟩
 |raw v=>
  have:v.cells= #[v]:=by
   cases v<;>first|rfl|exact absurd rfl (hx _ rfl _)
  simp only[cellsOf,this];exact ax.cons (.raw v) ax.nil
 |av cs vs hl hh=>exact ax.cons (.av cs vs hl hh) ax.nil
 |ptr id off ep ext l hl ib=>exact ax.cons (.ptr id off ep ext l hl ib) ax.nil
 |sl id off len cap ep s l c a hl hn gN hs hle fw ha=>exact ax.cons (.sl id off len cap ep s l c a hl hn gN hs hle fw ha) ax.nil
 |emp a=>exact ax.cons (.emp a) ax.nil
 |map id l hl=>exact ax.cons (.map id l hl) ax.nil
 |fn f as bs cs ds hl h1 eN h2=>exact ax.cons (.fn f as bs cs ds hl h1 eN h2) ax.nil
 |zy id l hl=>exact ax.cons (.zy id l hl) ax.nil
 |da t x v h=>exact ax.cons (.da t x v h) ax.nil
 |tree s es b off c us hs hc bC hu h=>exact ax.cons (.tree s es b off c us hs hc bC hu h) ax.nil
 |dN s a c hs hn=>exact ax.cons (.dN s a c hs hn) ax.nil
 |kU cs b off us hu h=>exact ax.cons (.kU cs b off us hu h) ax.nil
theorem Rv.AA{x:IV}{v:Value}(h:Rv ι x v)(hx:(cellsOf x).all af=true):ax ι (cellsOf x) v.cells.toList:=by
 refine h.cells fun u hu c hc=>?_;subst hu hc;simp[cellsOf,af]at hx
theorem Ws{x:IV}{v:Value}(h:Rv ι x v)(hx:af x=true):(∀c,v≠.agg c)∧(∀c,v≠.tuple c):=by
 cases h<;>first|(simp[af]at hx;done)|(constructor<;>(intro c hc;first|(cases hc;done)|(subst hc;simp[af]at hx;done)))
end shapes
end Go.Ev
namespace Go.Ev
def Own(ι:Io)(id b:Nat):Prop:=∃e l,ι id e=some l∧l.b=b
def gk(ι:Io)(es:List (Value×IV×Nat))(res:Array MapEntry):Prop:=
 es.length=res.size∧∀(i:Nat) (e:Value×IV×Nat) (r:MapEntry),es[i]?=some e→res[i]?=some r→r.key=e.1∧Rv ι e.2.1 r.val∧r.born=e.2.2
def ki(ι:Io)(w:World)(id:Nat):Ob→Prop
 |.cells cs ep mn=>(mn≤ep∧∀e,ep<e→ι id e=none)∧(∃l,ι id ep=some l∧l.n=cs.length)∧∀e,mn≤e→e≤ep→∃l c el,ι id e=some l∧l.n≤cs.length∧w.heap[l.b]?=some (.cells c el (0,0))∧
   l.lim=c.size∧∀k x,k<l.n→cs[k]?=some x→∃u,c[k]?=some u∧Rv ι x u
 |.map es clock=>∃l res,ι id 0=some l∧w.heap[l.b]?=some (.map res clock)∧gk ι es res
 |.pD s pos=>∃l,ι id 0=some l∧w.heap[l.b]?=some (.stringIter s pos)
 |.jm m since seen wD=>∃l mr,ι id 0=some l∧w.heap[l.b]?=some (.mapIter mr since seen.toArray wD)∧
   (match m with|none=>mr=none|some m=>∃lm,ι m 0=some lm∧mr=some lm.b)
 |.loop st zd _ tm r_ ps nB bd lX=>∃l ld ts f,ι id 0=some l∧ι lX 0=some ld∧
   w.heap[l.b]?=some (.loop {state:=st,pending:=zd,fn:=f,tmps:=ts,params:=ps.toArray,assign:=nB,body:=bd,defers:=ld.b})∧
   ts.size=r_∧∀t,Rv ι ((tm.get t).getD .undef) (ts.getD t art)
 |.FE taken=>∃l,ι id 0=some l∧w.heap[l.b]?=some (.deferred (if taken then none else some []))
structure Inv(N:Nat)(ι:Io)(σ:St)(w:World):Prop where
 mem:∀b c,ι.m b=some c→∃e f,w.heap[b]?=some (.cells c e f)
 sep:∀b c id,ι.m b=some c→¬Own ι id b
 iw:∀id b,Own ι id b→b<w.heap.size
 fresh:∀id,σ.n≤id→id<N→∀e,ι id e=none
 inj:∀i j b,Own ι i b→Own ι j b→i=j
 obj:∀id o,σ.at id=some o→ki ι w id o
 wf:∀id,σ.n≤id→σ.at id=none
structure Le(ro:Nat)(ι:Io)(w:World)(σ:St)(aC:Io)(w':World)(ah:St):Prop where
 ext:Ext ι aC
 own:∀id b,Own aC id b→Own ι id b∨w.heap.size≤b
 zD:∀id,σ.at id=none→(id<σ.n∨ah.n≤id)→∀e,aC id e=ι id e
 dead:∀id,σ.at id=none→(id<σ.n∨ah.n≤id)→ah.at id=none
 vp:∀id,id<ro→id<σ.n→ah.at id=σ.at id
 zf:σ.n≤ah.n
 os:w'.os=w.os
 tape:w'.tape=w.tape
 output:w'.output=w.output
 size:w.heap.size≤w'.heap.size
 frame:∀b,b<w.heap.size→(∀id,Own ι id b→id<ro∨σ.at id=none)→w'.heap[b]?=w.heap[b]?
 wR:∀b c,aC.m b=some c→ι.m b=some c∨w.heap.size≤b
theorem Le.refl(ro:Nat)(ι:Io)(w:World)(σ:St):Le ro ι w σ ι w σ:=
 ⟨Ext.refl _,fun _ _ h=>.inl h,fun _ _ _ _=>rfl,fun _ h _=>h,fun _ _ _=>rfl,aqK _,rfl,rfl,rfl,aqK _,fun _ _ _=>rfl,fun _ _ h=>.inl h⟩
theorem Le.trans{ro:Nat}{ι b_ od:Io}{w w1 w2:World}{σ ai dc:St}(hf:∀id,σ.n≤id→id<ai.n→∀e,ι id e=none)
 (h:Le ro ι w σ b_ w1 ai)(k:Le ro b_ w1 ai od w2 dc):Le ro ι w σ od w2 dc where
 ext:=h.ext.trans k.ext
 own:=fun id b hb=>(k.own id b hb).elim (fun hb=>h.own id b hb) (fun hb=>.inr (aq2 h.size hb))
 zD:=fun id hn hr e=>(k.zD id (h.dead id hn (by have:=k.zf;omega)) (by have:=h.zf;omega) e).trans (h.zD id hn (by have:=k.zf;omega) e)
 dead:=fun id hn hr=>k.dead id (h.dead id hn (by have:=k.zf;omega)) (by have:=h.zf;omega)
 vp:=fun id hr hn=>(k.vp id hr (by have:=h.zf;omega)).trans (h.vp id hr hn)
 zf:=aq2 h.zf k.zf
 os:=k.os.trans h.os
 tape:=k.tape.trans h.tape
 output:=k.output.trans h.output
 size:=aq2 h.size k.size
 frame:=fun b hb hc=>by
  rw[k.frame b (as4 hb h.size) ?_,h.frame b hb hc];intro id hid;rcases h.own id b hid with ho|ho
  ·rcases hc id ho with aa|hd
   ·exact .inl aa
   ·right;refine h.dead id hd ?_;by_cases hn:id<σ.n
    ·exact .inl hn
    ·by_cases dD:id<ai.n
     ·obtain⟨e,l,hl,_⟩:=ho;rw[hf id (by omega) dD e]at hl;cases hl
     ·exact .inr (by omega)
  ·omega
 wR:=fun b c hb=>(k.wR b c hb).elim (fun hb=>h.wR b c hb) (fun hb=>.inr (aq2 h.size hb))
theorem gk.mono{ι aC:Io}(gJ:Ext ι aC){es:List (Value×IV×Nat)}{res:Array MapEntry}(h:gk ι es res):gk aC es res:=
 ⟨h.1,fun i e r h1 h2=>let⟨a,b,c⟩:=h.2 i e r h1 h2;⟨a,b.mono gJ,c⟩⟩
theorem ki.keep{ι aC:Io}{w w':World}{id:Nat}(gJ:Ext ι aC)(hid:∀e,aC id e=ι id e)(hb:∀b,Own ι id b→w'.heap[b]?=w.heap[b]?):
 ∀{o:Ob},ki ι w id o→ki aC w' id o
 |.cells cs ep mn,h=>by
  obtain⟨h1,⟨l,hl,hn⟩,h3⟩:=h;refine⟨⟨h1.1,fun e he=>(hid e).trans (h1.2 e he)⟩,⟨l,gJ _ _ _ hl,hn⟩,fun e he gO=>?_⟩;obtain⟨l,c,el,hl,hn,hc,gN,hk⟩:=h3 e he gO;refine⟨l,c,el,gJ _ _ _ hl,hn,by rw[hb _ ⟨e,l,hl,rfl⟩];exact hc,gN,fun k x hkn hx=>?_⟩;obtain⟨u,hu,hr⟩:=hk k x hkn hx;exact⟨u,hu,hr.mono gJ⟩
 |.map es clock,h=>by
  obtain⟨l,res,hl,hh,he⟩:=h;exact⟨l,res,gJ _ _ _ hl,by rw[hb _ ⟨0,l,hl,rfl⟩];exact hh,he.mono gJ⟩
 |.pD s pos,h=>by
  obtain⟨l,hl,hh⟩:=h;exact⟨l,gJ _ _ _ hl,by rw[hb _ ⟨0,l,hl,rfl⟩];exact hh⟩
 |.jm m since seen wD,h=>by
  obtain⟨l,mr,hl,hh,hm⟩:=h;refine⟨l,mr,gJ _ _ _ hl,by rw[hb _ ⟨0,l,hl,rfl⟩];exact hh,?_⟩;cases m with
  |none=>exact hm
  |some m=>obtain⟨lm,h1,h2⟩:=hm;exact⟨lm,gJ _ _ _ h1,h2⟩
 |.loop st zd f tm r_ ps nB bd lX,h=>by
  obtain⟨l,ld,ts,f,hl,hd,hh,hs,ht⟩:=h;exact⟨l,ld,ts,f,gJ _ _ _ hl,gJ _ _ _ hd,by rw[hb _ ⟨0,l,hl,rfl⟩];exact hh,hs,fun t=>(ht t).mono gJ⟩
 |.FE taken,h=>by
  obtain⟨l,hl,hh⟩:=h;exact⟨l,gJ _ _ _ hl,by rw[hb _ ⟨0,l,hl,rfl⟩];exact hh⟩
@[simp] theorem St.cS(σ:St)(id:Nat)(o:Ob)(j:Nat):(σ.put id o).at j=if id=j then some o else σ.at j:=by simp[St.at,St.put,T.fQ]
@[simp] theorem St.gP(σ:St)(o:Ob)(j:Nat):(σ.add o).at j=if σ.n=j then some o else σ.at j:=by simp[St.at,St.add,T.fQ]
@[simp] theorem St.mU(σ:St)(id:Nat)(o:Ob):(σ.put id o).n=σ.n:=rfl
@[simp] theorem St.kK(σ:St)(o:Ob):(σ.add o).n=σ.n+1:=rfl
theorem Inv.change{N:Nat}{ι aC:Io}{σ ah:St}{w w':World}{qv:Nat}{eE:Ob}(h:Inv N ι σ w)
 (gJ:Ext ι aC)(q9:∀i,i≠qv→∀e,aC i e=ι i e)(kV:∀id b,Own aC id b→Own ι id b∨(id=qv∧w.heap.size≤b))
 (Ug:∀b,Own aC qv b→b<w'.heap.size)(aL:w.heap.size≤w'.heap.size)
 (Gh:∀b,b<w.heap.size→¬Own ι qv b→w'.heap[b]?=w.heap[b]?)(dt:ki aC w' qv eE)
 (aA:∀j,ah.at j=if qv=j then some eE else σ.at j)(hn:σ.n≤ah.n∧qv<ah.n)(tI:∀id,ah.n≤id→id<N→∀e,aC id e=none)(hm:aC.m=ι.m:=by rfl):Inv N aC ah w' where
 mem:=fun b c hb=>by
  rw[hm]at hb;obtain⟨e,f,hh⟩:=h.mem b c hb
  have aa:b<w.heap.size:=by
   rcases auk b w.heap.size with aa|sg
   ·exact aa
   ·rw[asw sg]at hh;cases hh
  exact⟨e,f,by rw[Gh b aa (h.sep b c qv hb)];exact hh⟩
 sep:=fun b c id hb ho=>by
  rw[hm]at hb;rcases kV id b ho with ho|⟨_,ho⟩
  ·exact h.sep b c id hb ho
  ·obtain⟨e,f,hh⟩:=h.mem b c hb;rw[asw ho]at hh;cases hh
 iw:=fun id b ho=>by
  rcases kV id b ho with ho'|⟨rfl,_⟩
  ·exact as4 (h.iw id b ho') aL
  ·exact Ug b ho
 fresh:=tI
 inj:=fun i j b hi hj=>by
  rcases kV i b hi with cT|⟨rfl,cT⟩<;>rcases kV j b hj with fJ|⟨rfl,fJ⟩
  ·exact h.inj i j b cT fJ
  ·exact absurd (h.iw i b cT) (by omega)
  ·exact absurd (h.iw j b fJ) (by omega)
  ·rfl
 obj:=fun id o ho=>by
  rw[aA]at ho;split at ho
  ·rename_i e;subst e;cases ho;exact dt
  ·rename_i aT;refine(h.obj id o ho).keep gJ (q9 id (Ne.symm aT)) fun b hb=>?_;refine Gh b (h.iw id b hb) fun CH=>aT (h.inj qv id b CH hb)
 wf:=fun id hid=>by
  rw[aA,if_neg (by omega)];exact h.wf id (by omega)
theorem Inv.same{N:Nat}{ι:Io}{σ:St}{w w':World}(h:Inv N ι σ w)(hh:w'.heap=w.heap):Inv N ι σ w' where
 mem:=fun b c hb=>by rw[hh];exact h.mem b c hb
 sep:=h.sep
 iw:=fun id b ho=>by rw[hh];exact h.iw id b ho
 fresh:=h.fresh
 inj:=h.inj
 obj:=fun id o ho=>(h.obj id o ho).keep (Ext.refl _) (fun _=>rfl) fun b _=>by rw[hh]
 wf:=h.wf
theorem Le.same{ro:Nat}{ι:Io}{σ:St}{w w':World}(hh:w'.heap=w.heap)(ho:w'.os=w.os)(ht:w'.tape=w.tape)(hp:w'.output=w.output):Le ro ι w σ ι w' σ:=
 ⟨Ext.refl _,fun _ _ h=>.inl h,fun _ _ _ _=>rfl,fun _ h _=>h,fun _ _ _=>rfl,aqK _,ho,ht,hp,by rw[hh];exact aqK _,fun _ _ _=>by rw[hh],fun _ _ h=>.inl h⟩
def dG(ι:Io)(id ep:Nat)(l:Loc):Io:=⟨fun i e=>if i=id∧e=ep then some l else ι i e,ι.m⟩
theorem bX(ι:Io)(id ep:Nat)(l:Loc):dG ι id ep l id ep=some l:=by simp[dG]
theorem kj{ι:Io}{id ep:Nat}{l:Loc}(h:ι id ep=none):Ext ι (dG ι id ep l):=by
 refine⟨?_,fun _ _ h=>h⟩;intro i e l' hl;show(if i=id∧e=ep then some l else ι i e)=some l';split
 ·rename_i hh;rw[hh.1,hh.2,h]at hl;cases hl
 ·exact hl
theorem lI{ι:Io}{id ep:Nat}{l:Loc}{i b:Nat}(h:Own (dG ι id ep l) i b):Own ι i b∨(i=id∧b=l.b):=by
 obtain⟨e,l',hl,hb⟩:=h;change(if i=id∧e=ep then some l else ι i e)=some l' at hl;split at hl
 ·rename_i hh;cases hl;exact .inr ⟨hh.1,hb.symm⟩
 ·exact .inl ⟨e,l',hl,hb⟩
theorem Inv.add{N ro:Nat}{ι:Io}{σ:St}{w w':World}{o:Go.Obj}{ob:Ob}{l:Loc}(h:Inv N ι σ w)(hN:σ.n<N)(hw:w'.heap=w.heap.push o)
 (uZ:w'.os=w.os)(wS:w'.tape=w.tape)(wT:w'.output=w.output)(hl:l.b=w.heap.size)(dt:ki (dG ι σ.n 0 l) w' σ.n ob):
 Inv N (dG ι σ.n 0 l) (σ.add ob) w'∧Le ro ι w σ (dG ι σ.n 0 l) w' (σ.add ob):=by
 have jP:=h.fresh σ.n (aqK _) hN;have aL:w'.heap.size=w.heap.size+1:=by rw[hw];simp
 have hold:∀b,b<w.heap.size→w'.heap[b]?=w.heap[b]? :=fun b hb=>by rw[hw,auV,if_neg (by omega)]
 refine⟨h.change (qv:=σ.n) (kj (jP 0)) (fun i hi e=>by simp[dG,hi]) ?_ ?_ (by omega) (fun b hb _=>hold b hb) dt (fun j=>by simp) ⟨by simp,by simp⟩ ?_,?_⟩
 ·intro id b hb;rcases lI hb with hb|⟨h1,h2⟩
  ·exact .inl hb
  ·exact .inr ⟨h1,by omega⟩
 ·intro b hb;rcases lI hb with hb|⟨h1,h2⟩
  ·have:=h.iw _ _ hb;omega
  ·omega
 ·intro id hid aa e;simp only[St.kK]at hid;have:id≠σ.n:=by omega
  simp[dG,this,h.fresh id (by omega) aa e]
 ·refine⟨kj (jP 0),?_,?_,?_,?_,by simp,uZ,wS,wT,by omega,fun b hb _=>hold b hb,fun _ _ h=>.inl h⟩
  ·intro id b hb;rcases lI hb with hb|⟨h1,h2⟩
   ·exact .inl hb
   ·exact .inr (by omega)
  ·intro id hn hr e;simp only[St.kK]at hr;have:id≠σ.n:=by omega
   simp[dG,this]
  ·intro id hn hr;simp only[St.kK]at hr;have:σ.n≠id:=by omega
   simp[this,hn]
  ·intro id hr hn;have:σ.n≠id:=by omega
   simp[this]
theorem Inv.push{N ro:Nat}{ι:Io}{σ:St}{w w':World}{o:Go.Obj}(h:Inv N ι σ w)(hw:w'.heap=w.heap.push o)
 (uZ:w'.os=w.os)(wS:w'.tape=w.tape)(wT:w'.output=w.output):Inv N ι σ w'∧Le ro ι w σ ι w' σ:=by
 have aL:w'.heap.size=w.heap.size+1:=by rw[hw];simp
 have hold:∀b,b<w.heap.size→w'.heap[b]?=w.heap[b]? :=fun b hb=>by rw[hw,auV,if_neg (by omega)]
 refine⟨⟨fun b c hb=>?_,h.sep,fun id b ho=>by have:=h.iw id b ho;omega,h.fresh,h.inj,fun id o ho=>(h.obj id o ho).keep (Ext.refl _) (fun _=>rfl) fun b hb=>hold b (h.iw _ _ hb),h.wf⟩,?_⟩
 ·obtain⟨e,f,hh⟩:=h.mem b c hb;refine⟨e,f,?_⟩;rw[hold b ?_];exact hh;rcases auk b w.heap.size with aa|sg
  ·exact aa
  ·rw[asw sg]at hh;cases hh
 ·exact⟨Ext.refl _,fun _ _ h=>.inl h,fun _ _ _ _=>rfl,fun _ h _=>h,fun _ _ _=>rfl,aqK _,uZ,wS,wT,by omega,fun b hb _=>hold b hb,fun _ _ h=>.inl h⟩
theorem Inv.put{N ro:Nat}{ι aC:Io}{σ:St}{w w':World}{id:Nat}{ob eE:Ob}(h:Inv N ι σ w)(aA:σ.at id=some ob)(cx:ro≤id)(hid:∃e l,ι id e=some l)
 (gJ:Ext ι aC)(Uh:∀i,i≠id→∀e,aC i e=ι i e)(kV:∀b,Own aC id b→Own ι id b∨(w.heap.size≤b∧b<w'.heap.size))
 (aL:w.heap.size≤w'.heap.size)(Gh:∀b,b<w.heap.size→¬Own ι id b→w'.heap[b]?=w.heap[b]?)
 (uZ:w'.os=w.os)(wS:w'.tape=w.tape)(wT:w'.output=w.output)(dt:ki aC w' id eE)(hm:aC.m=ι.m:=by rfl):
 Inv N aC (σ.put id eE) w'∧Le ro ι w σ aC w' (σ.put id eE):=by
 obtain⟨e0,l0,ja⟩:=hid;have aT:∀i,(∀e,ι i e=none)→i≠id:=fun i hn hi=>by rw[hi]at hn;rw[hn e0]at ja;cases ja
 have hd:∀i,(∀e,ι i e=none)→∀e,aC i e=none:=fun i hn e=>(Uh i (aT i hn) e).trans (hn e)
 have Hr:∀i b,Own aC i b→Own ι i b∨(i=id∧w.heap.size≤b∧b<w'.heap.size):=by
  intro i b hb;by_cases hi:i=id
  ·subst hi;rcases kV b hb with hb|hb
   ·exact .inl hb
   ·exact .inr ⟨rfl,hb⟩
  ·obtain⟨e,l,hl,zE⟩:=hb;rw[Uh i hi e]at hl;exact .inl ⟨e,l,hl,zE⟩
 refine⟨h.change (qv:=id) gJ Uh (fun i b hb=>(Hr i b hb).imp (fun x=>x) (fun x=>⟨x.1,x.2.1⟩)) ?_ aL Gh dt (fun j=>by simp) ⟨by simp,by rw[St.mU];exact Nat.lt_of_not_le fun hle=>by rw[h.wf id hle]at aA;cases aA⟩ ?_ hm,?_⟩
 ·intro b hb;rcases kV b hb with hb|hb
  ·exact as4 (h.iw _ _ hb) aL
  ·exact hb.2
 ·intro i hi aa e;exact hd i (h.fresh i hi aa) e
 ·refine⟨gJ,fun i b hb=>(Hr i b hb).imp (fun x=>x) (fun x=>x.2.1),?_,?_,?_,by simp,uZ,wS,wT,aL,?_,fun b c hb=>.inl (by rw[←hm];exact hb)⟩
  ·intro i hn _ e;exact Uh i (fun hi=>by subst hi;rw[aA]at hn;cases hn) e
  ·intro i hn _;have:id≠i:=fun hi=>by subst hi;rw[aA]at hn;cases hn
   simp[this,hn]
  ·intro i hr _;have:id≠i:=by omega
   simp[this]
  ·intro b hb hc;refine Gh b hb fun ho=>?_;rcases hc id ho with h1|h1
   ·omega
   ·rw[aA]at h1;cases h1
end Go.Ev
namespace Go.Ev
variable{P:Program}{N:Nat}{ι:Io}{w:World}{σ:St}
theorem eB{t:TypeId}{s:Nat}(h:aH P t=some s)(w:World):(sizeOf t).run P w=.ok s w:=by
 unfold aH at h;cases hi:P.info? t with
 |none=>simp[hi]at h
 |some i=>simp[hi]at h;simp[sizeOf,typeInfo,hi,h]
theorem iG{t:TypeId}{z:Value}(h:cn P t=some z)(w:World):(zeroValue t).run P w=.ok z w:=by
 unfold cn at h;cases hi:P.info? t with
 |none=>simp[hi]at h
 |some i=>simp[hi]at h;simp[zeroValue,typeInfo,hi,h]
theorem aO{t:TypeId}{d:TypeDesc}(h:P.underlying t=some d)(w:World):(underlying t).run P w=.ok d w:=by simp[underlying,h]
theorem AB{t:TypeId}{b:Bool}(h:qf P t=some b)(w:World):(isAgg t).run P w=.ok b w:=by
 unfold qf at h;cases hu:P.underlying t with
 |none=>simp[hu]at h
 |some d=>
  simp[hu]at h;simp only[isAgg,Sem.run_bind,aO hu,Result.andThen_ok];cases d<;>simp at h<;>subst h<;>rfl
theorem CI{t:TypeId}{n:Nat}(h:(P.info? t).map (·.bytes)=some n)(w:World):∃i,P.info? t=some i∧i.bytes=n∧(typeInfo t).run P w=.ok i w:=by
 cases hi:P.info? t with
 |none=>simp[hi]at h
 |some i=>simp[hi]at h;exact⟨i,rfl,h,by simp[typeInfo,hi]⟩
theorem gQ(b off n:Nat):(⟨b,off,none⟩:Addr).add n=⟨b,off+n,none⟩:=by
 unfold Addr.add;split<;>simp_all
theorem cell_of{b off:Nat}{c:Array Value}{el:TypeId}{f:Nat×Nat}(h:w.heap[b]?=some (.cells c el f)):w.cell? ⟨b,off,none⟩=c[off]? :=by
 simp[World.cell?,h]
theorem Nn{t:TypeId}{cs:List IV}{vs:List Value}{off:Nat}{v:IV}(h:partOf P t cs off=some v)(hr:ax ι cs vs)(w:World):
 ∃u,(part t vs.toArray off).run P w=.ok u w∧Rv ι v u:=by
 unfold partOf at h;split at h
 ·rename_i s ha hs;split at h
  ·rename_i hle;cases h;refine⟨.agg (vs.toArray.extract off (off+s)),by simp[part,AB ha,eB hs],?_⟩
   have e:vs.toArray.extract off (off+s)=((vs.drop off).take s).toArray:=by
    apply Array.ext';simp
   rw[e];have:=(hr.drop off).take s;exact .agg _ _ this.1 this.2
  ·cases h
 ·rename_i s ha hs;split at h
  ·obtain⟨u,hu,iR⟩:=hr.get h;exact⟨u,by simp[part,AB ha,hu],iR⟩
  ·cases h
 ·cases h
def xY(w:World)(b off:Nat)(vs:List Value):Prop:=∀j v,vs[j]?=some v→w.cell? ⟨b,off+j,none⟩=some v
theorem Hs{t:TypeId}{cs:List IV}{vs:List Value}{b off k:Nat}{v:IV}(h:partOf P t cs k=some v)(hr:ax ι cs vs)(jQ:xY w b off vs):
 ∃u,(loadVar t ⟨b,off+k,none⟩).run P w=.ok u w∧Rv ι v u:=by
 unfold partOf at h;split at h
 ·rename_i s ha hs;split at h
  ·rename_i hle;cases h;have hl:((vs.drop k).take s).length=s:=by simp;have:=hr.1;omega
   have hc:(loadCells ⟨b,off+k,none⟩ s).run P w=.ok ((vs.drop k).take s).toArray w:=by
    have:=run_loadCells_list (P:=P) w ⟨b,off+k,none⟩ ((vs.drop k).take s) ?_
    ·rwa[hl]at this
    ·intro j v hj;rw[gQ]
     have fJ:vs[k+j]?=some v:=by
      rw[ard]at hj;split at hj
      ·simpa using hj
      ·cases hj
     have:=jQ _ _ fJ;rw[show off+k+j=off+(k+j) by omega];exact this
   refine⟨.agg ((vs.drop k).take s).toArray,by simp[loadVar,AB ha,eB hs,hc],?_⟩;have:=(hr.drop k).take s;exact .agg _ _ this.1 this.2
  ·cases h
 ·rename_i s ha hs;split at h
  ·obtain⟨u,hu,iR⟩:=hr.get h;exact⟨u,by simp[loadVar,AB ha,jQ _ _ hu],iR⟩
  ·cases h
 ·cases h
theorem EB{id:Nat}{cs:List IV}{ep au mn:Nat}(h:ki ι w id (.cells cs au mn))(h1:mn≤ep)(h2:ep≤au):
 ∃l c el,ι id ep=some l∧l.n≤cs.length∧l.n≤c.size∧w.heap[l.b]?=some (.cells c el (0,0))∧l.lim=c.size∧ax ι (cs.take l.n) (c.toList.take l.n):=by
 obtain⟨_,_,h3⟩:=h;obtain⟨l,c,el,hl,hn,hc,gN,hk⟩:=h3 ep h1 h2
 have aL:l.n≤c.size:=by
  rcases Nat.eq_zero_or_pos l.n with h0|h0
  ·omega
  ·obtain⟨u,hu,_⟩:=hk (l.n- 1) cs[l.n- 1] (by omega) (aqE (by omega));have:=(Array.getElem?_eq_some_iff.1 hu).1;omega
 refine⟨l,c,el,hl,hn,aL,hc,gN,by simp;omega,fun i x v hx hv=>?_⟩;rw[ard]at hx hv;split at hx
 ·rename_i hi;rw[if_pos hi]at hv;obtain⟨u,hu,hr⟩:=hk i x hi hx;have:c.toList[i]?=some u:=by simpa using hu
  rw[this]at hv;cases hv;exact hr
 ·cases hx
theorem Ht{b:Nat}{c:Array Value}{el:TypeId}{f:Nat×Nat}(h:w.heap[b]?=some (.cells c el f))(n:Nat):xY w b 0 (c.toList.take n):=by
 intro j v hj;rw[cell_of h];rw[ard]at hj;split at hj
 ·simpa using hj
 ·cases hj
theorem Ui{b off:Nat}{vs:List Value}(h:xY w b off vs)(n:Nat):xY w b (off+n) (vs.drop n):=by
 intro j v hj;have:=h (n+j) v (by simpa using hj);rwa[show off+n+j=off+(n+j) by omega]
theorem Ro{b off:Nat}{vs:List Value}(h:xY w b off vs)(n:Nat):xY w b off (vs.take n):=by
 intro j v hj;rw[ard]at hj;split at hj
 ·exact h j v hj
 ·cases hj
theorem Rp{t:TypeId}{cs:List IV}{off n s:Nat}{v:IV}(h:partOf P t cs off=some v)(hs:aH P t=some s)(hn:off+s≤n):partOf P t (cs.take n) off=some v:=by
 unfold partOf at h⊢;split at h
 ·rename_i s' ha bf;rw[bf]at hs;cases hs;split at h
  ·cases h;rw[if_pos (by simp;omega)]
   congr 2
   rw[List.drop_take,List.take_take]
   congr 1;omega
  ·cases h
 ·rename_i s' ha bf;rw[bf]at hs;cases hs;split at h
  ·rename_i h1;rw[if_pos h1,ard,if_pos (by omega)];exact h
  ·cases h
 ·cases h
theorem CJ{t:TypeId}{s id off ep ext au mn:Nat}{cs:List IV}{v:IV}{u:Value}(hi:Inv N ι σ w)(hs:aH P t=some s)(aA:σ.at id=some (.cells cs au mn))
 (hx:s≤ext)(h1:mn≤ep)(h2:ep≤au)(hp:partOf P t cs off=some v)(hr:Rv ι (.ptr id off ep ext) u):
 ∃a x,u=.pointer (some a)∧(loadVar t a).run P w=.ok x w∧Rv ι v x:=by
 obtain⟨l,c,el,hl,hn,aL,hc,_,jQ⟩:=EB (hi.obj id _ aA) h1 h2;cases hr with
 |ptr _ _ _ _ l' cd ib=>
  rw[hl]at cd;cases cd;have qw:=Rp hp hs (show off+s≤l.n by omega);obtain⟨x,xZ,vH⟩:=Hs (k:=off) qw jQ (Ht hc l.n);rw[Nat.zero_add]at xZ;exact⟨_,x,rfl,xZ,vH⟩
end Go.Ev
