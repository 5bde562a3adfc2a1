/- Lemmas over the model, without conditions of their own: the ideal machine, and how its values lie in the model. -/
import Derived.RangeFuncLeaves
import Derived.RecoverIn
import Derived.LoopNIn
import Derived.OrdersIn
import Derived.Laws.CopyRow
import Derived.Laws.Cells
open Nat renaming beq->asW,blt->atQ,min->avF,testBit->atb,eq_of_beq_eq_true->asV,beq_eq->atv,le_refl->asR,le_trans->atd,lt_of_lt_of_le->avc,lt_or_ge->awq
open Go renaming undef->atC
open List renaming replicate->ate,getElem?_append_left->asY,getElem?_append_right->atm,getElem?_take->atp,getElem?_eq_getElem->asL,getElem?_map->as4
open Go.Instr renaming sameBits->avq
open Go.Op renaming bytesLess->avg
open Go.Utf8 renaming decode->auE
open Go.Region renaming binds->auF
open Bool renaming and_eq_true->asN
open Option renaming none->av9
open Option.some renaming injEq->asP
open Array renaming getElem?_eq_none->auI,getElem?_push->aw1
open Option renaming some->aa,none->ah
open Bool renaming true->ab,false->af
set_option linter.all false
namespace Go.Ev
inductive T(α:Type) where
 |lf
 |nd (l:T α) (v:Option α) (r:T α)
namespace T
variable{α:Type}
def get:T α->Nat->Option α
 |.lf,_=>ah
 |.nd l v r,i=>if asW i 0 then v else if asW (i % 2) 1 then l.get (i/2)else r.get (i/2- 1)
def q_:Nat->T α->Nat->α->T α
 |0,t,_,_=>t
 |f+1,t,i,x=>
  match t with
  |.lf=>if asW i 0 then .nd .lf (aa x) .lf else if asW (i % 2) 1 then .nd (q_ f .lf (i/2) x) ah .lf else .nd .lf ah (q_ f .lf (i/2- 1) x)
  |.nd l v r=>if asW i 0 then .nd l (aa x) r else if asW (i % 2) 1 then .nd (q_ f l (i/2) x) v r else .nd l v (q_ f r (i/2- 1) x)
def set(t:T α)(i:Nat)(x:α):T α:=q_ (i+1) t i x
end T
inductive IV where
 |raw (v:Value)
 |agg (cs:List IV)
 |az (vs:List IV)
 |ptr (id off ep ext:Nat)
 |sl (id off len:Nat) (cap:Option Nat) (ep s:Nat)
 |emp
 |map (id:Nat)
 |fn (f:Fn) (first captured:List IV)
 |AG (id:Nat)
 |du (t:TypeId) (v:IV)
 |tree (s:Nat) (es:List IV)
 |lN (cs:List IV)
 deriving Inhabited
def IV.undef:IV:=.raw atC
abbrev IV.bool(b:Bool):IV:=.raw (.bool b)
abbrev IV.int(n:Int):IV:=.raw (.int .i64 n)
inductive Ob where
 |cells (cs:List IV) (ep mn:Nat)
 |map (es:List (Value×IV×Nat)) (clock:Nat)
 |qq (s:ByteArray) (pos:Nat)
 |jO (m:Option Nat) (since:Nat) (seen:List Nat) (xI:Nat)
 |loop (state:LoopState) (pending:Option Code) (f:FuncId) (tm:T IV) (tf:Nat) (params:List Tmp) (assign body:Code) (mM:Nat)
 |GK (taken:Bool)
 deriving Inhabited
inductive Df where
 |DQ (id:Nat)
 |call (f:FuncId) (args:List IV)
structure St where
 n:Nat
 t:T Ob
def St.add(σ:St)(o:Ob):St:=⟨σ.n+1,σ.t.set σ.n o⟩
def St.put(σ:St)(id:Nat)(o:Ob):St:=⟨σ.n,σ.t.set id o⟩
def St.at(σ:St)(id:Nat):Option Ob:=σ.t.get id
structure Env where
 n:Nat
 t:T IV
def Env.at(e:Env)(i:Nat):IV:=(e.t.get i).getD .undef
def Env.put(e:Env)(dst:Option Tmp)(v:IV):Env:=
 match dst with
 |none=>e
 |some d=>if atQ d e.n then⟨e.n,e.t.set d v⟩else e
def aT{α:Type}(P:Program):Sem α->Option α
 |.pure a=>aa a
 |.program k=>aT P (k P)
 |.mark _ k=>aT P k
 |_=>ah
def lift:Value->IV
 |.agg cs=>.agg (cs.toList.map .raw)
 |v=>.raw v
def gy:List IV->Option (List Value)
 |[]=>aa []
 |c::cs=>match c with
  |.raw v=>match gy cs with
   |some vs=>aa (v::vs)
   |none=>ah
  |_=>ah
def pN:IV->Option Value
 |.raw v=>aa v
 |.agg cs=>match gy cs with
  |some vs=>aa (.agg vs.toArray)
  |none=>ah
 |_=>ah
def i_:IV->Option Value
 |.du t v=>match pN v with
  |some u=>aa (.iface t u)
  |none=>ah
 |v=>pN v
def cellsOf:IV->List IV
 |.agg cs=>cs
 |v=>[v]
def aj:IV->Bool
 |.raw (.agg _)|.raw (.tuple _)|.agg _|.az _=>af
 |_=>ab
section ops
variable(P:Program)
def aN(t:TypeId):Option Nat:=(P.info? t).map (·.size)
def cy(t:TypeId):Option Value:=(P.info? t).bind (·.zero)
def ra(t:TypeId):Option Bool:=(P.underlying t).map λ|.struct _|.array _ _=>ab|_=>af
def partOf(t:TypeId)(cs:List IV)(off:Nat):Option IV:=
 match ra P t,aN P t with
 |some ab,aa s=>if off+s<=cs.length then aa (.agg ((cs.drop off).take s))else ah
 |some af,aa s=>if s=1 then cs[off]? else ah
 |_,_=>ah
def dF(cs:List IV)(off:Nat)(new:List IV):List IV:=cs.take off++new++cs.drop (off+new.length)
def qs(place:Nat->Option (Nat×Nat)):List IV->List (Nat×IV)->Option (List IV)
 |cells,[]=>aa cells
 |cells,(i,v)::rest=>
  match place i with
  |none=>ah
  |some (off,size)=>
   if(cellsOf v).length=size/\off+size<=cells.length/\(cellsOf v).all aj then qs place (dF cells off (cellsOf v)) rest else ah
def gO(zero:List IV)(n:Nat):List IV:=
 match zero with
 |[z]=>ate n z
 |_=>(ate (n/zero.length) zero).flatten
def eU(size n:Nat)(σ:St):IV->Option (List IV)
 |.raw (.slice ah _ _)=>if n=0 then aa []else ah
 |.emp=>if n=0 then aa []else ah
 |.raw (.string s)=>if n<=s.size then aa ((s.data.toList.take n).map λb=>.raw (.int .u8 b.toNat))else ah
 |.sl id off len _ ep s=>if s=size/\n<=len then match σ.at id with
   |some (.cells cs ay mn)=>if mn<=ep/\ep<=ay/\off+n*size<=cs.length then aa ((cs.drop off).take (n*size))else ah
   |_=>ah
  else ah
 |.tree s es=>if s=size/\n<=es.length then aa ((es.take n).flatMap cellsOf)else ah
 |_=>ah
def kY:IV->Option Nat
 |.raw (.slice ah l _)=>if l=0 then aa 0 else ah
 |.raw (.string s)=>aa s.size
 |.emp=>aa 0
 |.sl _ _ len _ _ _=>aa len
 |.tree _ es=>aa es.length
 |_=>ah
inductive eN where
 |val (v:IV) (σ:St)
 |enter (f:FuncId) (args:List IV)
 |round (id:Nat) (args:List IV)
 |Te (d:Df)
 |b_ (v:IV)
def ret(v:IV)(σ:St):Option eN:=aa (.val v σ)
def sI(size:Nat)(zero:Value)(xd:TypeDesc)(σ:St)(x:IV):Option (Nat×List IV):=
 match xd with
 |.int _=>match x with
  |.raw (.int .i64 l)=>if 0<=l/\l<=1000000 then aa (l.toNat,gO (zero.cells.toList.map .raw) (l.toNat*size))else ah
  |_=>ah
 |_=>match kY x with
  |some n=>match eU size n σ x with
   |some cs=>aa (n,cs)
   |none=>ah
  |none=>ah
def fF(size aY n:Nat)(new:List IV)(s:IV)(σ:St):Option eN:=
 match eU size aY σ s with
 |some cL=>if cL.length=aY*size then ret (.sl σ.n 0 (aY+n) ah 0 size) (σ.add (.cells (cL++new) 0 0))else ah
 |none=>ah
def eO(ro size aY n:Nat)(new:List IV)(s:IV)(σ:St):Option eN:=
 match s with
 |.raw (.slice ah l c)=>if l=0/\c=0 then(if n=0 then ret s σ else fF size aY n new s σ)else ah
 |.emp=>if n=0 then ret s σ else fF size aY n new s σ
 |.tree _ _=>if n=0 then ret s σ else ah
 |.sl id off len cap ep st=>
  if st≠size then ah else
  if n=0 then ret (.sl id off len cap ep st) σ else
  match cap with
  |some c=>if len+n<=c then
    match σ.at id with
    |some (.cells cs ay _)=>if ro<=id/\ep=ay/\off+(len+n)*size<=cs.length then
      ret (.sl id off (len+n) cap ep st) (σ.put id (.cells (dF cs (off+len*size) new) ay ay))else ah
    |_=>ah
   else fF size aY n new s σ
  |none=>match σ.at id with
   |some (.cells cs ay mn)=>if ro<=id/\ep=ay/\off=0/\len*size=cs.length then
     ret (.sl id 0 (len+n) ah (ep+1) st) (σ.put id (.cells (cs++new) (ay+1) mn))
    else if ro<=id/\ep=ay/\off=0/\len*size<=cs.length then
     ret (.sl id 0 (len+n) ah (ep+1+1) st) ((σ.put id (.cells (cs.take (len*size)) (ay+1) (ay+1))).put id (.cells (cs.take (len*size)++new) (ay+1+1) (ay+1)))
    else ah
   |_=>ah
 |_=>ah
def kW(ro:Nat)(argTypes:Array TypeId)(s x:IV)(σ:St):Option eN:=
 match argTypes[0]?,argTypes[1]? with
 |some sT,aa xT=>
  match P.underlying sT,P.underlying xT with
  |some (.slice elem),aa xd=>
   match aN P elem,cy P elem,(P.info? elem).map (·.bytes)with
   |some size,aa zero,aa bytes=>
    if size=0\/zero.cells.size≠size then ah else
    match sI size zero xd σ x,kY s with
    |some (n,new),aa aY=>
     if new.length=n*size/\new.all aj=ab/\(4*(aY+n)+4096)*bytes<=2 ^47/\aY+n<=2 ^40 then eO ro size aY n new s σ else ah
    |_,_=>ah
   |_,_,_=>ah
  |_,_=>ah
 |_,_=>ah
def gz:Option IV->Option (Option Nat)
 |none=>aa ah
 |some (.raw (.int _ i))=>if 0<=i then aa (aa i.toNat)else ah
 |_=>ah
def fG(t:TypeId)(x:IV)(lo hi mx:Option IV):Option IV:=
 match gz lo,gz hi,gz mx with
 |some lo,aa hi,aa mx=>
  if mx.isSome=ab/\hi.isSome=af then ah else
  match P.underlying t with
  |some .string=>match x with
   |.raw (.string s)=>
    if mx=ah/\lo.getD 0<=hi.getD s.size/\hi.getD s.size<=s.size then aa (.raw (.string ⟨((s.data.toList.drop (lo.getD 0)).take (hi.getD s.size- lo.getD 0)).toArray⟩))else ah
   |_=>ah
  |some (.slice elem)=>match aN P elem with
   |none=>ah
   |some sz=>match x with
    |.raw (.slice ah 0 0)=>if lo.getD 0=0/\hi.getD 0=0/\mx.getD 0=0 then aa (.raw (.slice ah 0 0))else ah
    |.emp=>if lo.getD 0=0/\hi.getD 0=0/\mx.getD 0=0 then aa .emp else ah
    |.sl id off len cap ep s=>
     if sz≠s then ah else
     match mx,cap with
     |some m,cap=>if lo.getD 0<=hi.getD len/\hi.getD len<=m/\m<=cap.getD len then
       (if m=lo.getD 0 then aa .emp else aa (.sl id (off+lo.getD 0*s) (hi.getD len- lo.getD 0) (aa (m- lo.getD 0)) ep s))else ah
     |none,aa m=>if lo.getD 0<=hi.getD len/\hi.getD len<=m then
       (if m=lo.getD 0 then aa .emp else aa (.sl id (off+lo.getD 0*s) (hi.getD len- lo.getD 0) (aa (m- lo.getD 0)) ep s))else ah
     |none,ah=>if lo.getD 0<=hi.getD len/\hi.getD len<=len then aa (.sl id (off+lo.getD 0*s) (hi.getD len- lo.getD 0) ah ep s)else ah
    |.tree s es=>
     if sz≠s then ah else
     match mx with
     |none=>if lo.getD 0<=hi.getD es.length/\hi.getD es.length<=es.length then aa (.tree s ((es.take (hi.getD es.length)).drop (lo.getD 0)))else ah
     |some m=>if m=0/\lo.getD 0=0/\hi.getD es.length=0 then aa (.tree s [])else ah
    |_=>ah
  |some (.array n elem)=>match x,aN P elem with
   |.ptr id off ep ext,aa s=>
    if s≠0/\n*s<=ext/\mx=ah/\lo.getD 0<=hi.getD n/\hi.getD n<=n then
     (if n=lo.getD 0 then aa .emp else aa (.sl id (off+lo.getD 0*s) (hi.getD n- lo.getD 0) (aa (n- lo.getD 0)) ep s))else ah
   |_,_=>ah
  |_=>ah
 |_,_,_=>ah
def ia(empty:Bool)(kt:TypeId)(k:Value)(es:List (Value×IV×Nat)):Option (Option Nat):=
 match aT P (do
  Instr.checkKey empty 10000 kt k
  Instr.findKey kt k (es.map λe=>{key:=e.1,val:=atC,born:=e.2.2}))with
 |some (aa (i,_))=>aa (aa i)
 |some ah=>aa ah
 |none=>ah
def entriesOf(σ:St):IV->Option (List (Value×IV×Nat))
 |.raw (.map ah)=>aa []
 |.map id=>match σ.at id with
  |some (.map es _)=>aa es
  |_=>ah
 |_=>ah
def pO(ro:Nat)(kt:TypeId)(m k v:IV)(σ:St):Option St:=
 match m,i_ k with
 |.map id,aa key=>
  match σ.at id with
  |some (.map es clock)=>
   if¬ro<=id then ah else
   match ia P af kt key es with
   |some (aa i)=>match es[i]? with
    |some e=>if avq 10000 e.1 key then aa (σ.put id (.map (es.set i (key,v,e.2.2)) clock))else ah
    |none=>ah
   |some ah=>aa (σ.put id (.map (es++[(key,v,clock)]) (clock+1)))
   |none=>ah
  |_=>ah
 |_,_=>ah
def AH(t:TypeId):IV->IV->Bool
 |.raw (.pointer ah),.ptr .. |.raw (.pointer ah),.lN _=>match P.underlying t with|some (.pointer _)=>ab|_=>af
 |.raw (.slice ah _ _),.sl .. |.raw (.slice ah _ _),.emp|.raw (.slice ah _ _),.tree _ (_::_)=>match P.underlying t with|some (.slice _)=>ab|_=>af
 |.raw (.map ah),.map _=>match P.underlying t with|some (.map _ _)=>ab|_=>af
 |.raw .nilFunc,.fn .. |.raw .nilFunc,.AG _=>match P.underlying t with|some (.func _ _ _)=>ab|_=>af
 |.raw .nilIface,.du .. =>match P.underlying t with|some (.interface _)=>ab|_=>af
 |_,_=>af
def VA(t:TypeId)(a b:IV):Bool:=AH P t a b||AH P t b a
def ptrEq(t:TypeId):IV->IV->Option Bool
 |.ptr i o e _,.ptr j p f _=>match P.underlying t with
  |some (.pointer el)=>match aN P el with
   |some s=>if i=j/\e=f/\s≠0 then aa (o==p)else ah
   |none=>ah
  |_=>ah
 |_,_=>ah
def pP(op:BinOp)(t:TypeId)(x y:Operand)(a b:IV):Option IV:=
 match op,a,b with
 |.eql,.raw (.string s),.raw (.string u)=>aa (.bool (s.data.toList==u.data.toList))
 |.neq,.raw (.string s),.raw (.string u)=>aa (.bool (!(s.data.toList==u.data.toList)))
 |.lss,.raw (.string s),.raw (.string u)=>aa (.bool (avg s.data.toList u.data.toList))
 |.gtr,.raw (.string s),.raw (.string u)=>aa (.bool (!(avg s.data.toList u.data.toList||s.data.toList==u.data.toList)))
 |.leq,.raw (.string s),.raw (.string u)=>aa (.bool (avg s.data.toList u.data.toList||s.data.toList==u.data.toList))
 |.geq,.raw (.string s),.raw (.string u)=>aa (.bool (!(avg s.data.toList u.data.toList)))
 |.add,.raw (.string s),.raw (.string u)=>if s.size+u.size<=2 ^40 then aa (.raw (.string ⟨(s.data.toList++u.data.toList).toArray⟩))else ah
 |op,a,b=>
  match i_ a,i_ b with
  |some u,aa v=>(aT P (do eqGuard op t x y u v;binOp op t u v)).map lift
  |_,_=>
   if VA P t a b then
    match op with
    |.eql=>aa (.bool af)
    |.neq=>aa (.bool ab)
    |_=>ah
   else match op,ptrEq P t a b with
    |.eql,aa c=>aa (.bool c)
    |.neq,aa c=>aa (.bool !c)
    |_,_=>ah
def gD(f:IV)(args:List IV):Option eN:=
 match f with
 |.fn (.func f) first cap=>
  match P.funcs[f]? with
  |some fn=>if fn.body.isSome&&fn.name != "runtime.NumGoroutine" then aa (.enter f (first++args++cap))else ah
  |none=>ah
 |.raw (.func (.func f) a b)=>
  if a.size=0/\b.size=0 then
   match P.funcs[f]? with
   |some fn=>if fn.body.isSome&&fn.name != "runtime.NumGoroutine" then aa (.enter f args)else ah
   |none=>ah
  else ah
 |.AG id=>aa (.round id args)
 |_=>ah
def uV(recv:IV)(name:String)(args:List IV):Option eN:=
 match recv with
 |.du t v=>match P.info? t,P.underlying t with
  |some i,aa (.pointer _)=>match i.methods.find? (·.name==name)with
   |some m=>match m.func with
    |some (f,pr)=>
     if m.path.toList.isEmpty=ab/\pr=ab then
      match P.funcs[f]? with
      |some fn=>if fn.body.isSome&&fn.name != "runtime.NumGoroutine" then aa (.enter f (v::args))else ah
      |none=>ah
     else ah
    |none=>ah
   |none=>ah
  |_,_=>ah
 |_=>ah
def pd(argTypes:Array TypeId)(x:IV)(σ:St):Option IV:=
 match(argTypes[0]?).bind P.underlying,x with
 |some (.slice _),.sl _ _ len _ _ _=>aa (.int len)
 |some (.slice _),.emp=>aa (.int 0)
 |some (.slice _),.tree _ es=>aa (.int es.length)
 |some (.slice _),.raw (.slice ah l _)=>aa (.int l)
 |some .string,.raw (.string s)=>aa (.int s.size)
 |some (.map _ _),.raw (.map ah)=>aa (.int 0)
 |some (.map _ _),.map id=>match σ.at id with
  |some (.map es _)=>aa (.int es.length)
  |_=>ah
 |some (.array n _),_=>aa (.int n)
 |_,_=>ah
def VB(argTypes:Array TypeId)(x:IV):Option IV:=
 match(argTypes[0]?).bind P.underlying,x with
 |some (.slice _),.sl _ _ _ (aa c) _ _=>aa (.int c)
 |some (.slice _),.emp=>aa (.int 0)
 |some (.slice _),.raw (.slice ah _ c)=>aa (.int c)
 |some (.array n _),_=>aa (.int n)
 |_,_=>ah
def Ox(args:List IV):Option IV:=
 match gy args with
 |some vs=>(aT P (Builtin.min_ #[] 0 vs.toArray)).map lift
 |none=>ah
def Kp(args:List IV):Option IV:=
 match gy args with
 |some vs=>(aT P (Builtin.max_ #[] 0 vs.toArray)).map lift
 |none=>ah
def xJ(ro:Nat)(argTypes:Array TypeId)(m k:IV)(σ:St):Option eN:=
 match(argTypes[0]?).bind P.underlying,m,i_ k with
 |some (.map kt _),.map id,aa key=>
  match σ.at id with
  |some (.map es clock)=>
   if¬ro<=id then ah else
   match ia P es.isEmpty kt key es with
   |some (aa i)=>ret .undef (σ.put id (.map (es.eraseIdx i) clock))
   |some ah=>ret .undef (σ.put id (.map es clock))
   |none=>ah
  |_=>ah
 |_,_,_=>ah
def th(ro:Nat)(argTypes:Array TypeId)(x:IV)(σ:St):Option eN:=
 match(argTypes[0]?).bind P.underlying,x with
 |some _,.raw (.slice ah _ _)|some _,.raw (.map ah)|some _,.emp=>ret .undef σ
 |some (.map _ _),.map id=>match σ.at id with
  |some (.map _ clock)=>if ro<=id then ret .undef (σ.put id (.map [] clock))else ah
  |_=>ah
 |some (.slice elem),.sl id off len _ ep s=>if len=0 then ret .undef σ else
  match σ.at id with
  |some (.cells cs ay _)=>
   match cy P elem with
   |some z=>if s≠0/\z.cells.size=s/\(gO (z.cells.toList.map .raw) (len*s)).all aj=ab/\ro<=id/\ep=ay/\off+len*s<=cs.length then
     ret .undef (σ.put id (.cells (dF cs off (gO (z.cells.toList.map .raw) (len*s))) ay ay))else ah
   |none=>ah
  |_=>ah
 |_,_=>ah
def FF(ro:Nat)(argTypes:Array TypeId)(d s:IV)(σ:St):Option eN:=
 match(argTypes[0]?).bind P.underlying with
 |some (.slice elem)=>match aN P elem,kY d,kY s with
  |some size,aa dl,aa sl=>match eU size (avF sl dl) σ s with
   |some new=>
    if new.length≠avF sl dl*size\/new.all aj=af then ah else
    match d with
    |.raw (.slice ah 0 0)=>ret (.int (avF sl dl)) σ
    |.emp=>ret (.int (avF sl dl)) σ
    |.sl id off len _ ep st=>
     if avF sl dl=0 then ret (.int 0) σ else
     match σ.at id with
     |some (.cells cs ay _)=>if st=size/\ro<=id/\ep=ay/\off+avF sl dl*size<=cs.length then
       ret (.int (avF sl dl)) (σ.put id (.cells (dF cs off new) ay ay))else ah
     |_=>ah
    |_=>ah
   |none=>ah
  |_,_,_=>ah
 |_=>ah
def dJ(ro:Nat)(b:Builtin)(argTypes:Array TypeId)(args:List IV)(σ:St):Option eN:=
 match b with
 |.append=>match args with
  |[s,x]=>kW P ro argTypes s x σ
  |_=>ah
 |.len=>match args with
  |[x]=>(pd P argTypes x σ).map λv=>.val v σ
  |_=>ah
 |.cap=>match args with
  |[x]=>(VB P argTypes x).map λv=>.val v σ
  |_=>ah
 |.min=>(Ox P args).map λv=>.val v σ
 |.max=>(Kp P args).map λv=>.val v σ
 |.delete=>match args with
  |[m,k]=>xJ P ro argTypes m k σ
  |_=>ah
 |.clear=>match args with
  |[x]=>th P ro argTypes x σ
  |_=>ah
 |.copy=>match args with
  |[d,s]=>FF P ro argTypes d s σ
  |_=>ah
 |_=>ah
def av(ro:Nat)(ρ:Operand->IV)(o:Oper)(σ:St):Option eN:=
 match o.op with
 |.move x|.assign x=>ret (ρ x) σ
 |.pick c a b=>match ρ c with
  |.raw (.bool t)=>ret (if t then ρ a else ρ b) σ
  |_=>ah
 |.alloc elem=>match cy P elem with
  |some z=>ret (.ptr σ.n 0 0 z.cells.size) (σ.add (.cells (z.cells.toList.map .raw) 0 0))
  |none=>ah
 |.box _ x=>if(cellsOf (ρ x)).all aj then ret (.ptr σ.n 0 0 (cellsOf (ρ x)).length) (σ.add (.cells (cellsOf (ρ x)) 0 0))else ah
 |.build t parts=>match cy P t,P.underlying t with
  |some z,aa (.struct fields)=>match qs (λi=>(fields[i]?).bind λf=>(aN P f.type).map λs=>(f.offset,s)) (z.cells.toList.map .raw) (parts.toList.map λ(i,x)=>(i,ρ x))with
   |some cs=>if fields.all λf=>(aN P f.type).isSome then ret (.agg cs) σ else ah
   |none=>ah
  |some z,aa (.array _ elem)=>match aN P elem with
   |some s=>match qs (λi=>aa (i*s,s)) (z.cells.toList.map .raw) (parts.toList.map λ(i,x)=>(i,ρ x))with
    |some cs=>ret (.agg cs) σ
    |none=>ah
   |none=>ah
  |_,_=>ah
 |.buildSlice t len parts=>match P.underlying t with
  |some (.slice elem)=>match aN P elem,cy P elem with
   |some s,aa z=>
    if s=0\/z.cells.size≠s\/len*s>2 ^20 then ah else
    match qs (λi=>aa (i*s,s)) (gO (z.cells.toList.map .raw) (len*s)) (parts.toList.map λ(i,x)=>(i,ρ x))with
    |some cs=>if cs.length=len*s/\cs.all aj then(if len=0 then ret .emp σ else ret (.sl σ.n 0 len (aa len) 0 s) (σ.add (.cells cs 0 0)))else ah
    |none=>ah
   |_,_=>ah
  |_=>ah
 |.load t a=>match ρ a with
  |.ptr id off ep ext=>match aN P t,σ.at id with
   |some s,aa (.cells cs ay mn)=>if s<=ext/\mn<=ep/\ep<=ay then(match partOf P t cs off with|some v=>ret v σ|none=>ah)else ah
   |_,_=>ah
  |.lN cs=>match partOf P t cs 0 with
   |some v=>ret v σ
   |none=>ah
  |_=>ah
 |.store t a x=>match ρ a with
  |.ptr id off ep ext=>match aN P t,σ.at id with
   |some s,aa (.cells cs ay mn)=>
    if ro<=id/\(cellsOf (ρ x)).length=s/\s<=ext/\ep=ay/\off+s<=cs.length/\(cellsOf (ρ x)).all aj then
     ret .undef (σ.put id (.cells (dF cs off (cellsOf (ρ x))) ay ay))else ah
   |_,_=>ah
  |_=>ah
 |.nilCheck x=>match ρ x with
  |.ptr a b c d=>ret (.ptr a b c d) σ
  |.lN cs=>ret (.lN cs) σ
  |.fn (.func f) a b=>ret (.fn (.func f) a b) σ
  |.AG l=>ret (.AG l) σ
  |.du t v=>ret (.du t v) σ
  |_=>ah
 |.binOp op t x y _=>match pP P op t x y (ρ x) (ρ y)with
  |some v=>ret v σ
  |none=>ah
 |.unOp op _ x=>match ρ x with
  |.raw v=>match aT P (Op.unary op v)with
   |some r=>ret (lift r) σ
   |none=>ah
  |_=>ah
 |.convert src dst x=>match ρ x with
  |.raw (.string s)=>match P.underlying src,P.underlying dst with
   |some _,aa .string=>ret (.raw (.string s)) σ
   |_,_=>ah
  |.raw v=>match aT P (convert src dst v)with
   |some r=>ret (lift r) σ
   |none=>ah
  |_=>ah
 |.makeInterface t x=>match P.underlying t with
  |some (.interface _)=>ah
  |some _=>ret (.du t (ρ x)) σ
  |none=>ah
 |.makeFunc fn first cap=>ret (.fn fn (first.toList.map ρ) (cap.toList.map ρ)) σ
 |.makeMap t r=>match r with
  |none=>ret (.map σ.n) (σ.add (.map [] 0))
  |some h=>match P.underlying t,ρ h with
   |some (.map _ _),.raw (.int _ _)=>ret (.map σ.n) (σ.add (.map [] 0))
   |_,_=>ah
 |.makeSlice t l c=>match P.underlying t,ρ l,ρ c with
  |some (.slice elem),.raw (.int _ l),.raw (.int _ c)=>match aN P elem,cy P elem,(P.info? elem).map (·.bytes)with
   |some s,aa z,aa bytes=>
    if s=0\/z.cells.size≠s\/¬(0<=l/\l<=c/\c<=1000000)\/bytes>1000000 then ah else
    if c=0 then ret .emp σ else
    ret (.sl σ.n 0 l.toNat (aa c.toNat) 0 s) (σ.add (.cells (gO (z.cells.toList.map .raw) (c.toNat*s)) 0 0))
   |_,_,_=>ah
  |_,_,_=>ah
 |.slice t x lo hi mx=>match fG P t (ρ x) (lo.map ρ) (hi.map ρ) (mx.map ρ)with
  |some v=>ret v σ
  |none=>ah
 |.fieldAddr s x f=>match P.underlying s with
  |some (.struct fields)=>match fields[f]? with
   |some fd=>match aN P fd.type,ρ x with
    |some sz,.ptr id off ep ext=>if sz≠0/\fd.offset+sz<=ext then ret (.ptr id (off+fd.offset) ep sz) σ else ah
    |some sz,.lN cs=>if sz≠0/\fd.offset+sz<=cs.length then ret (.lN ((cs.drop fd.offset).take sz)) σ else ah
    |_,_=>ah
   |none=>ah
  |_=>ah
 |.field t x f=>match P.underlying t,ρ x with
  |some (.struct fields),.agg cs=>match fields[f]? with
   |some fd=>match partOf P fd.type cs fd.offset with
    |some v=>ret v σ
    |none=>ah
   |none=>ah
  |_,_=>ah
 |.indexAddr t x ix=>match P.underlying t,ρ ix with
  |some (.slice elem),.raw (.int _ i)=>match ρ x with
   |.sl id off len _ ep s=>if aN P elem=aa s/\0<=i/\i<len then ret (.ptr id (off+i.toNat*s) ep s) σ else ah
   |.tree s es=>if aN P elem=aa s/\0<=i then match es[i.toNat]? with
     |some e=>if(cellsOf e).length=s then ret (.lN (cellsOf e)) σ else ah
     |none=>ah
    else ah
   |_=>ah
  |some (.array n elem),.raw (.int _ i)=>match ρ x,aN P elem with
   |.ptr id off ep ext,aa s=>if s≠0/\0<=i/\i<n/\i.toNat*s+s<=ext then ret (.ptr id (off+i.toNat*s) ep s) σ else ah
   |_,_=>ah
  |_,_=>ah
 |.index t x ix=>match P.underlying t,ρ x,ρ ix with
  |some .string,.raw (.string s),.raw (.int _ i)=>if 0<=i then match s.data.toList[i.toNat]? with
    |some b=>ret (.raw (.int .u8 b.toNat)) σ
    |none=>ah
   else ah
  |some (.array n elem),.agg cs,.raw (.int _ i)=>match aN P elem with
   |some s=>if 0<=i/\i<n then(match partOf P elem cs (i.toNat*s)with|some v=>ret v σ|none=>ah)else ah
   |none=>ah
  |_,_,_=>ah
 |.lookup t x ix ok=>match P.underlying t,entriesOf σ (ρ x),i_ (ρ ix)with
  |some (.map kt elem),aa es,aa key=>match ia P es.isEmpty kt key es,cy P elem with
   |some (aa i),aa _=>match es[i]? with
    |some e=>ret (if ok then .az [e.2.1,.bool ab]else e.2.1) σ
    |none=>ah
   |some ah,aa z=>ret (if ok then .az [lift z,.bool af]else lift z) σ
   |_,_=>ah
  |_,_,_=>ah
 |.mapUpdate t m k x|.insert t m k x=>match P.underlying t with
  |some (.map kt _)=>match pO P ro kt (ρ m) (ρ k) (ρ x) σ with
   |some ao=>ret .undef ao
   |none=>ah
  |_=>ah
 |.mapEntry t m k=>match P.underlying t with
  |some (.map kt elem)=>match cy P elem,ρ m,i_ (ρ k)with
   |some z,.map id,aa key=>match σ.at id with
    |some (.map es clock)=>if¬ro<=id then ah else match ia P af kt key es with
     |some (aa i)=>match es[i]? with
      |some e=>if avq 10000 e.1 key then ret (.az [e.2.1,.int e.2.2]) (σ.put id (.map (es.set i (key,e.2.1,e.2.2)) clock))else ah
      |none=>ah
     |some ah=>ret (.az [lift z,.int clock]) (σ.put id (.map (es++[(key,lift z,clock)]) (clock+1)))
     |none=>ah
    |_=>ah
   |_,_,_=>ah
  |_=>ah
 |.entryStore _ m st x=>match ρ m,ρ st with
  |.map id,.raw (.int _ born)=>match σ.at id with
   |some (.map es clock)=>if¬ro<=id then ah else match es.findIdx? (λe=>(e.2.2:Int)==born)with
    |some i=>match es[i]? with
     |some e=>ret .undef (σ.put id (.map (es.set i (e.1,ρ x,e.2.2)) clock))
     |none=>ah
    |none=>ah
   |_=>ah
  |_,_=>ah
 |.range t x=>match P.underlying t,ρ x with
  |some .string,.raw (.string s)=>ret (.ptr σ.n 0 0 1) (σ.add (.qq s 0))
  |some (.map _ _),.raw (.map ah)=>ret (.ptr σ.n 0 0 1) (σ.add (.jO ah 0 [] 0))
  |some (.map _ _),.map m=>match σ.at m with
   |some (.map _ clock)=>ret (.ptr σ.n 0 0 1) (σ.add (.jO (aa m) clock [] clock))
   |_=>ah
  |_,_=>ah
 |.next it str=>match ρ it with
  |.ptr r 0 0 1=>if¬ro<=r then ah else match σ.at r,str with
   |some (.qq s pos),ab=>
    if pos<s.size then
     ret (.az [.bool ab,.int pos,.raw (.int .i32 (auE s pos).1)]) (σ.put r (.qq s (pos+(auE s pos).2)))
    else ret (.az [.bool af]) σ
   |some (.jO ah _ _ _),af=>ret (.az [.bool af]) σ
   |some (.jO (aa m) since seen last),af=>match σ.at m with
    |some (.map es clock)=>match es with
     |[]=>ret (.az [.bool af]) σ
     |[e]=>if e.2.2∈seen then(if e.2.2<last then ret (.az [.bool af]) σ else ah)else
      if e.2.2<since/\seen=[]then ret (.az [.bool ab,lift e.1,e.2.1]) (σ.put r (.jO (aa m) since [e.2.2] clock))else ah
     |_=>ah
    |_=>ah
   |_,_=>ah
  |_=>ah
 |.entry it=>match ρ it with
  |.ptr r 0 0 1=>match σ.at r with
   |some (.jO (aa m) _ seen xI)=>match σ.at m,seen.getLast? with
    |some (.map es clock),aa FG=>if clock=xI then match es.find? (λe=>e.2.2==FG)with
      |some e=>ret (.az [lift e.1,e.2.1]) σ
      |none=>ah
     else ah
    |_,_=>ah
   |_=>ah
  |_=>ah
 |.extract t i=>match ρ t with
  |.az vs=>match vs[i]? with
   |some v=>ret v σ
   |none=>ah
  |.raw (.tuple vs)=>match vs[i]? with
   |some v=>ret (.raw v) σ
   |none=>ah
  |_=>ah
 |.panic x=>match ρ x with
  |.du t v=>aa (.b_ (.du t v))
  |_=>ah
 |.typeAssert x _ asserted ok=>match P.underlying asserted,cy P asserted with
  |some (.interface _),_=>ah
  |some _,aa z=>match ρ x with
   |.du t v=>if asW t asserted then ret (if ok then .az [v,.bool ab]else v) σ else
     if ok then ret (.az [lift z,.bool af]) σ else ah
   |.raw .nilIface=>if ok then ret (.az [lift z,.bool af]) σ else ah
   |_=>ah
  |_,_=>ah
 |.call c=>match c.callee with
  |.builtin b=>dJ P ro b c.argTypes (c.args.toList.map ρ) σ
  |.value f=>gD P (ρ f) (c.args.toList.map ρ)
  |.invoke x name=>uV P (ρ x) name (c.args.toList.map ρ)
 |.defer c=>match c.callee with
  |.value f=>match gD P (ρ f) (c.args.toList.map ρ)with
   |some (.enter f args)=>aa (.Te (.call f args))
   |_=>ah
  |_=>ah
 |_=>ah
end ops
inductive Ex where
 |normal
 |exit (id:Nat)
 |goto (l:Nat)
 |ret
 |b_ (v:IV)
def Ex.adj:Ex->Bool
 |.b_ _=>ab
 |_=>af
def xW:Ex->Option Code
 |.normal=>ah
 |.b_ _=>ah
 |.ret=>aa .ret
 |.exit id=>aa (.exit id)
 |.goto t=>aa (.goto t)
structure CR where
 ex:Ex
 e:Env
 df:List Df
 σ:St
structure Self where
 code:(ro:Nat)->(rd:Option Nat)->FuncId->Code->Env->List Df->St->Option CR
 call:(ro:Nat)->FuncId->List IV->St->Option (IV×St)
 b_:(ro:Nat)->FuncId->List IV->St->Option (IV×St)
 wP:(ro:Nat)->FuncId->List IV->Option IV->St->Option (Option IV×St)
section steps
variable(P:Program)(S:Self)
def ax(e:Env):Operand->IV
 |.tmp t=>e.at t
 |.const v=>lift v
 |.global g=>.raw (.pointer (aa ⟨g,0,ah⟩))
 |.func f=>.raw (.func (.func f) #[] #[])
def aQ(o:Oper)(ops:Array Oper)(e:Env):Bool:=
 match o.guard with
 |none=>ab
 |some (j,want)=>match((ops[j]?).bind (·.dst))with
  |some d=>if atQ d e.n then(match e.at d with|.raw (.bool b)=>b==want|_=>af)else af
  |none=>af
def AI(ro:Nat)(l:Nat)(args:List IV)(σ:St):Option (IV×St):=
 match σ.at l with
 |some (.loop state pending f tm tf params assign body mM)=>
  if args.length≠params.length\/¬ro<=l\/state≠.ready then ah else
  let e:Env:=(params.zip args).foldl (λe (p,v)=>e.put (aa p) v) ⟨tf,tm⟩
  match S.code ro (aa l) f assign e [] σ with
  |some ⟨.normal,e,[],σ⟩=>
   match σ.at l with
   |some (.loop .ready pending f1 tm1 aga params1 Tf adk agb)=>
    match S.code ro (aa l) f body e [] (σ.put l (.loop .busy pending f1 tm1 aga params1 Tf adk agb))with
    |some ⟨ex,_,[],σ⟩=>
     if ex.adj then ah else
     match σ.at l with
     |some (.loop _ _ f tm tf params assign body mM)=>
      aa (.bool (xW ex).isNone,σ.put l (.loop (if(xW ex).isNone then .ready else .done) (xW ex) f tm tf params assign body mM))
     |_=>ah
    |_=>ah
   |_=>ah
  |_=>ah
 |_=>ah
def jP(ro:Nat)(e:Env)(o:Oper)(σ:St):Option (IV×St):=
 match av P ro (ax e) o σ with
 |some (.val v σ)=>aa (v,σ)
 |some (.enter f args)=>S.call ro f args σ
 |some (.round l args)=>AI S ro l args σ
 |_=>ah
def y9(ro:Nat)(rd:Option Nat)(ops:Array Oper):List Oper->Env->List Df->St->Option CR
 |[],e,df,σ=>aa ⟨.normal,e,df,σ⟩
 |o::rest,e,df,σ=>
  if aQ o ops e then
   match jP P S ro e o σ with
   |some (v,σ)=>y9 ro rd ops rest (e.put o.dst v) df σ
   |none=>match av P ro (ax e) o σ with
    |some (.Te d)=>if rd.isNone then y9 ro rd ops rest (e.put o.dst .undef) (d::df) σ else ah
    |some (.enter f args)=>match S.b_ ro f args σ with
     |some (v,σ)=>aa ⟨.b_ v,e,df,σ⟩
     |none=>ah
    |some (.b_ v)=>aa ⟨.b_ v,e,df,σ⟩
    |_=>ah
  else y9 ro rd ops rest (e.put o.dst .undef) df σ
inductive Kind where
 |pure|alloc|load|call|effect
 deriving DecidableEq
def dv(o:Oper):Kind:=
 match o.op with
 |.move _|.assign _|.pick .. |.build .. |.binOp .. |.unOp .. |.convert .. |.makeInterface .. |.makeFunc .. |.slice .. |.fieldAddr .. |.field ..
 |.indexAddr .. |.index .. |.extract .. |.nilCheck _=>.pure
 |.call {callee:=.builtin .cap,.. }|.call {callee:=.builtin .min,.. }|.call {callee:=.builtin .max,.. }=>.pure
 |.alloc .. |.box .. |.buildSlice .. |.makeMap .. |.makeSlice .. =>.alloc
 |.load .. |.lookup .. |.entry _|.call {callee:=.builtin .len,.. }=>.load
 |.call {callee:=.value _,.. }|.call {callee:=.builtin .append,.. }=>.call
 |_=>.effect
def FH(acc:List Nat)(o:Oper):List Nat:=
 acc++[o.after.toList.foldl (λs e=>if auF .any e then Nat.lor s (Nat.lor (Nat.shiftLeft 1 e.on) (acc.getD e.on 0))else s) 0]
def Oy(ops:Array Oper):List Nat:=ops.toList.foldl FH []
def uW(ops:Array Oper)(o:Oper):List Nat:=
 (o.op.operands.toList.filterMap λ|.tmp t=>aa t|_=>ah)++(match o.guard with|some (j,_)=>(((ops[j]?).bind (·.dst)).toList)|none=>[])
structure dX where
 cd:List Nat
 kinds:List Kind
 ok:Bool
def adl:Kind->Kind->Bool
 |.effect,.effect|.effect,.call|.call,.effect=>ab
 |_,_=>af
def writes(o:Oper)(l:List Nat):Bool:=
 match o.dst with
 |some a=>l.contains a
 |none=>af
def AJ(cd:List Nat)(ks:List Kind)(Tg:List (List Nat))(p:Oper)(i:Nat)(o:Oper)(j:Nat):Bool:=
 (match p.dst,o.dst with|some a,aa b=> !asW a b|_,_=>ab)&&
 (!(ks.getD i .effect==.load)|| !writes o (Tg.getD i []))&&
 (atb (cd.getD j 0) i||(!writes p (Tg.getD j [])&& !writes o (Tg.getD i [])&& !adl (ks.getD i .effect) (ks.getD j .effect)))
def dG(ops:Array Oper):dX:=
 let l:=ops.toList.zipIdx
 let cd:=Oy ops
 let ord (i j:Nat):Bool:=if atQ i j then atb (cd.getD j 0) i else atb (cd.getD i 0) j
 let ks:=l.map λ(o,i)=>match dv o with
  |.call=>if l.all λ(p,j)=>asW i j||(dv p)==.pure||ord i j then Kind.effect else Kind.call
  |k=>k
 let Tg:=ops.toList.map (uW ops)
 let ok:=l.all λ(o,j)=>
  (o.after.toList.all λe=> !auF .any e||atQ e.on j)&&
  (!(ks.getD j .effect==.load)|| !writes o (Tg.getD j []))&&
  (l.all λ(p,i)=> !atQ i j||AJ cd ks Tg p i o j)
 ⟨cd,ks,ok⟩
def Oz:IV->IV->Bool
 |.raw (.int j a),.raw (.int k b)=>j==k&&a==b
 |.raw (.bool a),.raw (.bool b)=>a==b
 |.raw (.string a),.raw (.string b)=>a.data.toList==b.data.toList
 |.ptr a b c d,.ptr a' b' c' d'=>asW a a'&&asW b b'&&asW c c'&&asW d d'
 |.map a,.map b=>asW a b
 |.sl a b c d e f,.sl a' b' c' d' e' f'=>asW a a'&&asW b b'&&asW c c'&&(d==d')&&asW e e'&&asW f f'
 |.emp,.emp=>ab
 |_,_=>af
structure Piece where
 j:Nat
 lo:Nat
 hi:Nat
 t:T Ob
def dB(b:T Ob)(p:Piece):T Ob:=
 (List.range' p.lo (p.hi- p.lo)).foldl (λb id=>match p.t.get id with|some o=>b.set id o|none=>b) b
structure DS where
 e:Env
 n:Nat
 bs:List (Nat×T Ob)
 aI:List Piece
def seen(aI:List Piece)(bits:Nat)(b:T Ob):T Ob:=(aI.filter λp=>atb bits p.j).foldl dB b
theorem X6{u v:IV}(h:Oz u v=ab):u=v:=by
 unfold Oz at h;split at h
 ·simp only[asN,beq_iff_eq]at h;rw[h.1,h.2]
 ·simp only[beq_iff_eq]at h;rw[h]
 ·rename_i a b;simp only[beq_iff_eq]at h
  have:a=b:=by
   cases a with|mk x=>cases b with|mk y=>simp only at h;cases x;cases y;simp only at h;rw[h]
  rw[this]
 ·simp only[asN]at h;rw[asV h.1.1.1,asV h.1.1.2,asV h.1.2,asV h.2]
 ·rw[asV h]
 ·simp only[asN,beq_iff_eq]at h;obtain⟨⟨⟨⟨⟨h1,h2⟩,h3⟩,h4⟩,h5⟩,h6⟩:=h;rw[asV h1,asV h2,asV h3,h4,asV h5,asV h6]
 ·rfl
 ·cases h
class Sm where
 sm:IV->IV->Bool
 ok:∀u v,sm u v=ab->u=v
abbrev OA:Sm:=⟨Oz,λ_ _ h=>X6 h⟩
section draw
variable[Sm]
def loadAt(e:Env)(o:Oper)(n:Nat)(v:IV)(aI:List Piece)(bits:Nat)(b:T Ob):Bool:=
 match av P n (ax e) o ⟨n,seen aI bits b⟩with
 |some (.val u σ)=>asW σ.n n&&Sm.sm u v
 |_=>af
def mv(e:Env)(o:Oper)(n:Nat)(v:IV)(aI:List Piece)(bits:Nat):List (Nat×T Ob)->Bool
 |[]=>ab
 |(i,b)::rest=>loadAt P e o n v aI bits b&&(atb bits i||mv e o n v aI bits rest)
def recheck(pl:dX)(ops:Array Oper)(bits:Nat)(e:Env)(n:Nat)(aI:List Piece)(b:T Ob)(l:List (Oper×Nat)):Bool:=
 l.all λ(o,i)=>match pl.kinds.getD i .effect with
  |.load=>atb bits i|| !aQ o ops e||(match o.dst with|some d=>loadAt P e o n (e.at d) aI (pl.cd.getD i 0) b|none=>af)
  |_=>ab
def bR(pl:dX)(ro:Nat)(ops:Array Oper)(o:Oper)(j:Nat)(d:DS):Option DS:=
 let bits:=pl.cd.getD j 0
 let Th:=ops.toList.zipIdx.take j
 match d.bs with
 |[]=>ah
 |(i,b)::rest=>
  if aQ o ops d.e then
   match pl.kinds.getD j .effect with
   |.pure=>match av P 0 (ax d.e) o ⟨0,.lf⟩with
    |some (.val v σ)=>if σ.n=0 then aa {d with e:=d.e.put o.dst v}else ah
    |_=>ah
   |.alloc=>match av P 0 (ax d.e) o ⟨d.n,.lf⟩with
    |some (.val v σ)=>aa {d with e:=d.e.put o.dst v,n:=σ.n,aI:=⟨j,d.n,σ.n,σ.t⟩::d.aI}
    |_=>ah
   |.load=>match av P d.n (ax d.e) o ⟨d.n,seen d.aI bits b⟩with
    |some (.val v σ)=>
     if σ.n=d.n/\(atb bits i||mv P d.e o d.n v d.aI bits rest)=ab then aa {d with e:=d.e.put o.dst v}else ah
    |_=>ah
   |.call=>match jP P S d.n d.e o ⟨d.n,seen d.aI bits b⟩with
    |some (v,σ)=>aa {d with e:=d.e.put o.dst v,n:=σ.n,aI:=⟨j,d.n,σ.n,σ.t⟩::d.aI}
    |none=>ah
   |.effect=>
    match jP P S ro d.e o ⟨d.n,seen d.aI bits b⟩with
    |some (v,σ)=>
     let e:=d.e.put o.dst v
     if recheck P pl ops bits d.e σ.n (d.aI.filter λp=> !atb bits p.j) σ.t Th then
      aa ⟨e,σ.n,(j,σ.t)::d.bs,d.aI.filter λp=> !atb bits p.j⟩
     else ah
    |none=>ah
  else match pl.kinds.getD j .effect with
   |.effect=>if recheck P pl ops bits d.e d.n d.aI b Th then aa ⟨d.e.put o.dst .undef,d.n,(j,b)::d.bs,d.aI⟩else ah
   |_=>aa {d with e:=d.e.put o.dst .undef}
def jh(SF:Nat->Self)(pl:dX)(ro:Nat)(ops:Array Oper):List (Oper×Nat)->DS->Option DS
 |[],d=>aa d
 |(o,j)::rest,d=>match bR P (SF j) pl ro ops o j d with
  |some d=>jh SF pl ro ops rest d
  |none=>ah
def qt(SF:Nat->Self)(ro:Nat)(ops:Array Oper)(e:Env)(df:List Df)(σ:St):Option CR:=
 let pl:=dG ops
 if pl.ok then
  match jh P SF pl ro ops ops.toList.zipIdx ⟨e,σ.n,[(0,σ.t)],[]⟩with
  |some ⟨e,n,(_,b)::_,aI⟩=>aa ⟨.normal,e,df,⟨n,aI.foldl dB b⟩⟩
  |_=>ah
 else ah
end draw
def OB(ro:Nat)(ops:Array Oper)(e:Env)(df:List Df)(σ:St):Option CR:= @qt P OA (λ_=>S) ro ops e df σ
def wa(ro:Nat)(rd:Option Nat)(fn:FuncId)(c:Code)(e:Env)(df:List Df)(σ:St):Option CR:=
 match c with
 |.skip|.label _=>aa ⟨.normal,e,df,σ⟩
 |.region _ ops draw=>if draw then OB P S ro ops e df σ else y9 P S ro rd ops ops.toList e df σ
 |.seq a b=>match S.code ro rd fn a e df σ with
  |some ⟨.normal,e,df,σ⟩=>S.code ro rd fn b e df σ
  |r=>r
 |.cond c a b=>match ax e c with
  |.raw (.bool t)=>S.code ro rd fn (if t then a else b) e df σ
  |_=>ah
 |.block id a=>match S.code ro rd fn a e df σ with
  |some ⟨.exit bB,e,df,σ⟩=>if bB=id then aa ⟨.normal,e,df,σ⟩else aa ⟨.exit bB,e,df,σ⟩
  |r=>r
 |.loop a=>match S.code ro rd fn a e df σ with
  |some ⟨.normal,e,df,σ⟩=>S.code ro rd fn (.loop a) e df σ
  |r=>r
 |.scope a=>match S.code ro rd fn a e df σ with
  |some ⟨.goto _,_,_,_⟩=>ah
  |r=>r
 |.exit id=>aa ⟨.exit id,e,df,σ⟩
 |.goto l=>aa ⟨.goto l,e,df,σ⟩
 |.ret=>aa ⟨.ret,e,df,σ⟩
 |.rangeFunc g params assign body=>
  let en:Option (Nat×St×List Df):=match rd with
   |none=>aa (σ.n,σ.add (.GK af),[.DQ σ.n])
   |some l=>match σ.at l with
    |some (.loop _ _ _ _ _ _ _ _ mM)=>aa (mM,σ,[])
    |_=>ah
  match en with
  |some (mM,σ,mark)=>
   let l:=σ.n
   let σ:=σ.add (.loop .ready ah fn e.t e.n params.toList assign body mM)
   match gD P (ax e g) [.AG l]with
   |some (.enter f args)=>match S.call ro f args σ with
    |some (_,σ)=>match σ.at l with
     |some (.loop state pending f tm tf ps as bd d)=>
      if state=.busy\/¬ro<=l then ah else
      let σ:=σ.put l (.loop .exhausted pending f tm tf ps as bd d)
      match pending with
      |none=>aa ⟨.normal,e,mark++df,σ⟩
      |some c=>S.code ro rd fn c e (mark++df) σ
     |_=>ah
    |none=>ah
   |_=>ah
  |none=>ah
 |.refuse _=>ah
def gi(ro:Nat):List Df->Option IV->St->Option (Option IV×St)
 |[],m,σ=>aa (m,σ)
 |.DQ id::ds,m,σ=>match σ.at id with
  |some (.GK af)=>if ro<=id then gi ro ds m (σ.put id (.GK ab))else ah
  |_=>ah
 |.call f args::ds,m,σ=>match S.wP ro f args m σ with
  |some (m,σ)=>gi ro ds m σ
  |none=>ah
def bJ(fn:Func)(e:Env)(σ:St):Option IV:=
 let one (r:ResultVar):Option IV:=match r with
  |.tmp t=>aa (e.at t)
  |.cell a t=>match e.at a with
   |.ptr id off ep ext=>match aN P t,σ.at id with
    |some s,aa (.cells cs ay mn)=>if s<=ext/\mn<=ep/\ep<=ay then partOf P t cs off else ah
    |_,_=>ah
   |_=>ah
 match fn.results.toList with
 |[r]=>one r
 |l=>match l.mapM one with
  |some vs=>aa (.az vs)
  |none=>ah
def AK(ro:Nat)(f:FuncId)(args:List IV)(σ:St):Option (Func×Env×Option IV×St):=
 match P.funcs[f]? with
 |some fn=>match fn.body with
  |some c=>
   if args.length>fn.ntmps then ah else
   let e:Env:=(args.zipIdx).foldl (λe (v,i)=>e.put (aa i) v) ⟨fn.ntmps,.lf⟩
   match S.code ro ah f c e [] σ with
   |some ⟨.normal,e,df,σ⟩|some ⟨.ret,e,df,σ⟩=>match gi S ro df ah σ with
    |some (m,σ)=>aa (fn,e,m,σ)
    |none=>ah
   |some ⟨.b_ v,e,df,σ⟩=>match gi S ro df (aa v) σ with
    |some (m,σ)=>aa (fn,e,m,σ)
    |none=>ah
   |_=>ah
  |none=>ah
 |none=>ah
def OC(ro:Nat)(f:FuncId)(args:List IV)(σ:St):Option (IV×St):=
 match AK P S ro f args σ with
 |some (fn,e,ah,σ)=>match bJ P fn e σ with
  |some v=>aa (v,σ)
  |none=>ah
 |_=>ah
def VC(ro:Nat)(f:FuncId)(args:List IV)(σ:St):Option (IV×St):=
 match AK P S ro f args σ with
 |some (_,_,aa v,σ)=>aa (v,σ)
 |_=>ah
def nC(o:Oper):Bool:=
 match o.op with
 |.call {callee:=.builtin .recover,.. }=>ab
 |_=>af
def oB(ro:Nat)(ops:Array Oper):List Oper->Env->Option IV->St->Option (Env×Option IV×St)
 |[],e,m,σ=>aa (e,m,σ)
 |o::rest,e,m,σ=>
  if aQ o ops e then
   if nC o then
    match m with
    |some v=>oB ro ops rest (e.put o.dst v) ah σ
    |none=>oB ro ops rest (e.put o.dst (.raw .nilIface)) ah σ
   else match av P ro (ax e) o σ with
    |some (.val v σ)=>oB ro ops rest (e.put o.dst v) m σ
    |_=>ah
  else oB ro ops rest (e.put o.dst .undef) m σ
def y_(ro:Nat)(fn:FuncId):Code->Env->Option IV->St->Option (CR×Option IV)
 |.seq a b,e,m,σ=>match y_ ro fn a e m σ with
  |some (⟨.normal,e,[],σ⟩,m)=>y_ ro fn b e m σ
  |some (⟨.normal,_,_,_⟩,_)=>ah
  |r=>r
 |.region id ops draw,e,m,σ=>
  if !draw&&ops.any nC then match oB P ro ops ops.toList e m σ with
   |some (e,m,σ)=>aa (⟨.normal,e,[],σ⟩,m)
   |none=>ah
  else match S.code ro ah fn (.region id ops draw) e [] σ with
   |some r=>aa (r,m)
   |none=>ah
 |c,e,m,σ=>match S.code ro ah fn c e [] σ with
  |some r=>aa (r,m)
  |none=>ah
def BF(ro:Nat)(f:FuncId)(args:List IV)(m:Option IV)(σ:St):Option (Option IV×St):=
 match P.funcs[f]? with
 |some fn=>
  if !(fn.body.isSome&&fn.name != "runtime.NumGoroutine")then ah else
  match fn.body with
  |some c=>
   if args.length>fn.ntmps then ah else
   let e:Env:=(args.zipIdx).foldl (λe (v,i)=>e.put (aa i) v) ⟨fn.ntmps,.lf⟩
   match y_ P S ro f c e m σ with
   |some (⟨.normal,e,[],σ⟩,m)|some (⟨.ret,e,[],σ⟩,m)=>match bJ P fn e σ with
    |some _=>aa (m,σ)
    |none=>ah
   |_=>ah
  |none=>ah
 |none=>ah
end steps
def Self.none:Self:=⟨λ_ _ _ _ _ _ _=>av9,λ_ _ _ _=>av9,λ_ _ _ _=>av9,λ_ _ _ _ _=>av9⟩
def lY(P:Program)(S:Self):Self:=⟨wa P S,OC P S,VC P S,BF P S⟩
def ev(P:Program)(n:Nat):Self:=Nat.rec Self.none (λ_ S=>lY P S) n
end Go.Ev
namespace Go.Ev
namespace T
variable{α:Type}
theorem wb(l:T α)(v:Option α)(r:T α)(i:Nat):(T.nd l v r).get i=if i=0 then v else if i % 2=1 then l.get (i/2)else r.get (i/2- 1):=by
 simp[get,atv]
theorem Ti(f:Nat)(l:T α)(v:Option α)(r:T α)(i:Nat)(x:α):q_ (f+1) (T.nd l v r) i x=
 if i=0 then .nd l (aa x) r else if i % 2=1 then .nd (q_ f l (i/2) x) v r else .nd l v (q_ f r (i/2- 1) x):=by
 simp[q_,atv]
theorem Tj(f:Nat)(i:Nat)(x:α):q_ (f+1) (.lf:T α) i x=q_ (f+1) (.nd .lf ah .lf) i x:=by
 simp[q_]
theorem aeO(i:Nat):(T.lf:T α).get i=(T.nd .lf ah .lf:T α).get i:=by
 rw[wb];simp[get]
theorem Ho:∀(f:Nat) (t:T α) (i:Nat) (x:α) (j:Nat),i<f->(q_ f t i x).get j=if i=j then aa x else t.get j:=by
 intro f;induction f with
 |zero=>intro t i x j h;omega
 |succ f ih=>
  intro t i x j h
  have key:∀(l:T α) (v:Option α) (r:T α),(q_ (f+1) (.nd l v r) i x).get j=if i=j then aa x else(T.nd l v r).get j:=by
   intro l v r;rw[Ti,wb];by_cases hi:i=0
   ·subst hi;rw[if_pos rfl,wb];by_cases hj:j=0
    ·subst hj;simp
    ·have:¬0=j:=λh=>hj h.symm;simp[hj,this]
   ·rw[if_neg hi];by_cases ho:i % 2=1
    ·rw[if_pos ho,wb];by_cases hj:j=0
     ·subst hj;simp[hi]
     ·by_cases mN:j % 2=1
      ·simp only[hj,mN,if_false,if_true];rw[ih _ _ _ _ (by omega)];by_cases e:i=j
       ·simp[e]
       ·have:i/2≠j/2:=by omega
        simp[e,this]
      ·have:i≠j:=by omega
       simp[hj,mN,this]
    ·rw[if_neg ho,wb];by_cases hj:j=0
     ·subst hj;simp[hi]
     ·by_cases mN:j % 2=1
      ·have:i≠j:=by omega
       simp[hj,mN,this]
      ·simp only[hj,mN,if_false];rw[ih _ _ _ _ (by omega)];by_cases e:i=j
       ·simp[e]
       ·have:i/2- 1≠j/2- 1:=by omega
        simp[e,this]
  cases t with
  |lf=>rw[Tj,key,aeO]
  |nd l v r=>exact key l v r
theorem gj(t:T α)(i:Nat)(x:α)(j:Nat):(t.set i x).get j=if i=j then aa x else t.get j:=Ho _ _ _ _ _ (by omega)
@[simp] theorem arN(j:Nat):(T.lf:T α).get j=ah:=rfl
end T
theorem e_{α:Type}{P:Program}(w:World):∀(s:Sem α) {a:α},aT P s=aa a->s.run P w=.ok a w
 |.pure _,_,h=>by simp only[aT,asP]at h;subst h;rfl
 |.program k,_,h=>by simp only[aT]at h;simp only[Sem.run];exact e_ w (k P) h
 |.mark m k,_,h=>by simp only[aT]at h;simp only[Sem.run];exact e_ w k h
 |.load ..,_,h|.store ..,_,h|.new ..,_,h|.shape ..,_,h|.freeze ..,_,h|.frozen ..,_,h|.getObj ..,_,h|.setObj ..,_,h|.choose ..,_,h|.sys ..,_,h|.halt ..,_,h=>by cases h
structure Loc where
 b:Nat
 n:Nat
 lim:Nat
abbrev Fz:=Nat->Option (Array Value)
structure Io where
 f:Nat->Nat->Option Loc
 m:Fz
instance:CoeFun Io (λ_=>Nat->Nat->Option Loc):=⟨Io.f⟩
structure Ext(ι aG:Io):Prop where
 f:∀id e l,ι id e=aa l->aG id e=aa l
 m:∀b c,ι.m b=aa c->aG.m b=aa c
instance{ι aG:Io}:CoeFun (Ext ι aG) (λ_=>∀id e l,ι id e=aa l->aG id e=aa l):=⟨Ext.f⟩
theorem Ext.refl(ι:Io):Ext ι ι:=⟨λ_ _ _ h=>h,λ_ _ h=>h⟩
theorem Ext.trans{ι cq pj:Io}(h:Ext ι cq)(k:Ext cq pj):Ext ι pj:=⟨λ_ _ _ x=>k.f _ _ _ (h.f _ _ _ x),λ_ _ x=>k.m _ _ (h.m _ _ x)⟩
def pk(M:Fz)(b off:Nat):Option Value:=(M b).bind (·[off]?)
theorem BG{M M':Fz}(h:∀b c,M b=aa c->M' b=aa c){b off:Nat}{v:Value}(hc:pk M b off=aa v):pk M' b off=aa v:=by
 unfold pk at hc⊢;cases hb:M b with
 |none=>rw[hb]at hc;cases hc
 |some c=>rw[hb]at hc;rw[h b c hb];exact hc
inductive Rv(ι:Io):IV->Value->Prop
 |raw (v:Value):Rv ι (.raw v) v
 |agg (cs:List IV) (vs:List Value) (hl:cs.length=vs.length) (h:∀(i:Nat) (c:IV) (v:Value),cs[i]?=aa c->vs[i]?=aa v->Rv ι c v):Rv ι (.agg cs) (.agg vs.toArray)
 |az (cs:List IV) (vs:List Value) (hl:cs.length=vs.length) (h:∀(i:Nat) (c:IV) (v:Value),cs[i]?=aa c->vs[i]?=aa v->Rv ι c v):Rv ι (.az cs) (.tuple vs.toArray)
 |ptr (id off ep ext:Nat) (l:Loc) (hl:ι id ep=aa l) (hx:off+ext<=l.n/\off+ext<=l.lim):Rv ι (.ptr id off ep ext) (.pointer (aa ⟨l.b,off,ah⟩))
 |sl (id off len:Nat) (cap:Option Nat) (ep s:Nat) (l:Loc) (c:Nat) (a:Addr) (hl:ι id ep=aa l) (hn:off+len*s<=l.n) (ib:off+c*s<=l.lim) (hs:0<s) (hle:len<=c)
   (fO:∀k,cap=aa k->c=k/\off+c*s<=l.n) (ha:0<c->a=⟨l.b,off,ah⟩):Rv ι (.sl id off len cap ep s) (.slice (aa a) len c)
 |emp (a:Addr):Rv ι .emp (.slice (aa a) 0 0)
 |map (id:Nat) (l:Loc) (hl:ι id 0=aa l):Rv ι (.map id) (.map (aa l.b))
 |fn (f:Fn) (as bs:List IV) (cs ds:List Value) (hl:as.length=cs.length) (h:∀(i:Nat) (c:IV) (v:Value),as[i]?=aa c->cs[i]?=aa v->Rv ι c v)
   (fa:bs.length=ds.length) (h2:∀(i:Nat) (c:IV) (v:Value),bs[i]?=aa c->ds[i]?=aa v->Rv ι c v):Rv ι (.fn f as bs) (.func f cs.toArray ds.toArray)
 |AG (id:Nat) (l:Loc) (hl:ι id 0=aa l):Rv ι (.AG id) (.func (.yield l.b) #[] #[])
 |du (t:TypeId) (x:IV) (v:Value) (h:Rv ι x v):Rv ι (.du t x) (.iface t v)
 |tree (s:Nat) (es:List IV) (b off c:Nat) (us:Nat->Value) (hs:0<s) (hc:es.length<=c) (bH:∀e∈es,(cellsOf e).length=s)
   (hu:∀k,k<es.length*s->pk ι.m b (off+k)=aa (us k)) (h:∀(i:Nat) (e:IV) (j:Nat) (c:IV),es[i]?=aa e->(cellsOf e)[j]?=aa c->Rv ι c (us (i*s+j))):
   Rv ι (.tree s es) (.slice (aa ⟨b,off,ah⟩) es.length c)
 |dY (s:Nat) (a:Option Addr) (c:Nat) (hs:0<s) (hn:a=ah->c=0):Rv ι (.tree s []) (.slice a 0 c)
 |lN (cs:List IV) (b off:Nat) (us:Nat->Value) (hu:∀k,k<cs.length->pk ι.m b (off+k)=aa (us k)) (h:∀(j:Nat) (c:IV),cs[j]?=aa c->Rv ι c (us j)):
   Rv ι (.lN cs) (.pointer (aa ⟨b,off,ah⟩))
theorem Rv.mono{ι aG:Io}(gY:Ext ι aG){x:IV}{v:Value}(h:Rv ι x v):Rv aG x v:=by
 induction h with
 |raw v=>exact .raw v
 |agg cs vs hl _ ih=>exact .agg cs vs hl ih
 |az cs vs hl _ ih=>exact .az cs vs hl ih
 |ptr id off ep ext l hl hx=>exact .ptr id off ep ext l (gY _ _ _ hl) hx
 |sl id off len cap ep s l c a hl hn ib hs hle fO ha=>exact .sl id off len cap ep s l c a (gY _ _ _ hl) hn ib hs hle fO ha
 |emp a=>exact .emp a
 |map id l hl=>exact .map id l (gY _ _ _ hl)
 |fn f as bs cs ds hl _ fa _ ih eV=>exact .fn f as bs cs ds hl ih fa eV
 |AG id l hl=>exact .AG id l (gY _ _ _ hl)
 |du t x v _ ih=>exact .du t x v ih
 |tree s es b off c us hs hc bH hu _ ih=>exact .tree s es b off c us hs hc bH (λk hk=>BG gY.m (hu k hk)) ih
 |dY s a c hs hn=>exact .dY s a c hs hn
 |lN cs b off us hu _ ih=>exact .lN cs b off us (λk hk=>BG gY.m (hu k hk)) ih
def aB(ι:Io)(cs:List IV)(vs:List Value):Prop:=cs.length=vs.length/\∀(i:Nat) (c:IV) (v:Value),cs[i]?=aa c->vs[i]?=aa v->Rv ι c v
section lists
variable{ι:Io}
theorem aB.mono{aG:Io}(gY:Ext ι aG){cs:List IV}{vs:List Value}(h:aB ι cs vs):aB aG cs vs:=
 ⟨h.1,λi c v h1 h2=>(h.2 i c v h1 h2).mono gY⟩
theorem aB.nil:aB ι [] []:=⟨rfl,λi c v h _=>by simp at h⟩
theorem aB.cons{c:IV}{v:Value}{cs:List IV}{vs:List Value}(h:Rv ι c v)(hs:aB ι cs vs):aB ι (c::cs) (v::vs):=by
 refine⟨by simp[hs.1],λi=>?_⟩;cases i with
 |zero=>intro c' v' h1 h2;simp at h1 h2;subst h1 h2;exact h
 |succ i=>intro c' v' h1 h2;simp at h1 h2;exact hs.2 i c' v' h1 h2
theorem aB.ti{c:IV}{cs:List IV}{vs:List Value}(h:aB ι (c::cs) vs):∃v wQ,vs=v::wQ/\Rv ι c v/\aB ι cs wQ:=by
 cases vs with
 |nil=>simp[aB]at h
 |cons v wQ=>exact⟨v,wQ,rfl,h.2 0 c v rfl rfl,by simpa[aB]using h.1,λi c' v' h1 h2=>h.2 (i+1) c' v' h1 h2⟩
theorem aB.of_nil{vs:List Value}(h:aB ι [] vs):vs=[]:=List.eq_nil_of_length_eq_zero h.1.symm
theorem aB.append{cs ds:List IV}{vs us:List Value}(h:aB ι cs vs)(k:aB ι ds us):aB ι (cs++ds) (vs++us):=by
 refine⟨by simp[h.1,k.1],λi c v h1 h2=>?_⟩;by_cases hi:i<cs.length
 ·rw[asY hi]at h1;rw[asY (h.1▸hi)]at h2;exact h.2 i c v h1 h2
 ·rw[atm (by omega)]at h1;rw[atm (by have:=h.1;omega),<-h.1]at h2;exact k.2 _ c v h1 h2
theorem aB.drop(n:Nat){cs:List IV}{vs:List Value}(h:aB ι cs vs):aB ι (cs.drop n) (vs.drop n):=
 ⟨by simp[h.1],λi c v h1 h2=>h.2 (n+i) c v (by simpa using h1) (by simpa using h2)⟩
theorem aB.take(n:Nat){cs:List IV}{vs:List Value}(h:aB ι cs vs):aB ι (cs.take n) (vs.take n):=by
 refine⟨by simp[h.1],λi c v h1 h2=>?_⟩;rw[atp]at h1 h2;split at h1
 ·rename_i hi;rw[if_pos hi]at h2;exact h.2 i c v h1 h2
 ·cases h1
theorem aB.dF(off:Nat){cs ds:List IV}{vs us:List Value}(h:aB ι cs vs)(k:aB ι ds us):aB ι (dF cs off ds) (vs.take off++us++vs.drop (off+us.length)):=by
 unfold Ev.dF;rw[k.1];exact((h.take off).append k).append (h.drop _)
theorem aB.get{cs:List IV}{vs:List Value}(h:aB ι cs vs){i:Nat}{c:IV}(hc:cs[i]?=aa c):∃v,vs[i]?=aa v/\Rv ι c v:=by
 have hi:i<vs.length:=by have:=(List.getElem?_eq_some_iff.1 hc).1;have:=h.1;omega
 exact⟨vs[i],asL hi,h.2 i c _ hc (asL hi)⟩
theorem aB.tj(vs:List Value):aB ι (vs.map .raw) vs:=by
 refine⟨by simp,λi c v h1 h2=>?_⟩;simp only[as4,h2,Option.map_some,asP]at h1;subst h1;exact .raw v
theorem aB.of_map{α:Type}{f:α->IV}{g:α->Value}{l:List α}(h:∀a∈l,Rv ι (f a) (g a)):aB ι (l.map f) (l.map g):=by
 refine⟨by simp,λi c v h1 h2=>?_⟩;simp only[as4,Option.map_eq_some_iff]at h1 h2;obtain⟨a,ha,rfl⟩:=h1;obtain⟨b,hb,rfl⟩:=h2;rw[ha]at hb;cases hb;exact h a (List.mem_of_getElem? ha)
end lists
section shapes
variable{ι:Io}
theorem Rv.lift(v:Value):Rv ι (Ev.lift v) v:=by
 unfold Ev.lift;split
 ·rename_i cs;have:=Rv.agg (ι:=ι) (cs.toList.map .raw) cs.toList (by simp) (aB.tj cs.toList).2;simpa using this
 ·exact .raw _
theorem vp:∀{cs:List IV} {us:List Value},gy cs=aa us->∀{vs:List Value},aB ι cs vs->vs=us
 |[],us,h,vs,hr=>by simp only[gy,asP]at h;subst h;exact hr.of_nil
 |c::cs,us,h,vs,hr=>by
  obtain⟨v,wQ,rfl,h1,h2⟩:=hr.ti;simp only[gy]at h;split at h
  ·split at h
   ·rename_i u pQ hu;simp only[asP]at h;subst h;cases h1;rw[vp hu h2]
   ·cases h
  ·cases h
theorem L4{x:IV}{u v:Value}(h:pN x=aa u)(hr:Rv ι x v):v=u:=by
 unfold pN at h;split at h
 ·cases hr;simpa using h
 ·split at h
  ·rename_i us hu;cases hr with
   |agg cs vs hl hh=>
    simp only[asP]at h;subst h;rw[vp hu ⟨hl,hh⟩]
  ·cases h
 ·cases h
theorem uX{x:IV}{u v:Value}(h:i_ x=aa u)(hr:Rv ι x v):v=u:=by
 unfold i_ at h;split at h
 ·split at h
  ·rename_i hu;cases hr with
   |du t x v hh=>
    simp only[asP]at h;subst h;rw[L4 hu hh]
  ·cases h
 ·exact L4 h hr
theorem Rv.cells{x:IV}{v:Value}(h:Rv ι x v)(hx:∀u,x=.raw u->∀c,u≠.agg c):aB ι (cellsOf x) v.cells.toList:=by
 cases h with
 |agg cs vs hl hh=>exact⟨hl,hh⟩
 |raw v=>
  have:v.cells= #[v]:=by
   cases v<;>first|rfl|exact absurd rfl (hx _ rfl _)
  simp only[cellsOf,this];exact aB.cons (.raw v) aB.nil
 |az cs vs hl hh=>exact aB.cons (.az cs vs hl hh) aB.nil
 |ptr id off ep ext l hl iN=>exact aB.cons (.ptr id off ep ext l hl iN) aB.nil
 |sl id off len cap ep s l c a hl hn ib hs hle fO ha=>exact aB.cons (.sl id off len cap ep s l c a hl hn ib hs hle fO ha) aB.nil
 |emp a=>exact aB.cons (.emp a) aB.nil
 |map id l hl=>exact aB.cons (.map id l hl) aB.nil
 |fn f as bs cs ds hl h1 fa h2=>exact aB.cons (.fn f as bs cs ds hl h1 fa h2) aB.nil
 |AG id l hl=>exact aB.cons (.AG id l hl) aB.nil
 |du t x v h=>exact aB.cons (.du t x v h) aB.nil
 |tree s es b off c us hs hc bH hu h=>exact aB.cons (.tree s es b off c us hs hc bH hu h) aB.nil
 |dY s a c hs hn=>exact aB.cons (.dY s a c hs hn) aB.nil
 |lN cs b off us hu h=>exact aB.cons (.lN cs b off us hu h) aB.nil
theorem Rv.BH{x:IV}{v:Value}(h:Rv ι x v)(hx:(cellsOf x).all aj=ab):aB ι (cellsOf x) v.cells.toList:=by
 refine h.cells λu hu c hc=>?_;subst hu hc;simp[cellsOf,aj]at hx
theorem X7{x:IV}{v:Value}(h:Rv ι x v)(hx:aj x=ab):(∀c,v≠.agg c)/\(∀c,v≠.tuple c):=by
 cases h<;>first|(simp[aj]at hx;done)|(constructor<;>(intro c hc;first|(cases hc;done)|(subst hc;simp[aj]at hx;done)))
end shapes
end Go.Ev
namespace Go.Ev
def Own(ι:Io)(id b:Nat):Prop:=∃e l,ι id e=aa l/\l.b=b
def gE(ι:Io)(es:List (Value×IV×Nat))(res:Array MapEntry):Prop:=
 es.length=res.size/\∀(i:Nat) (e:Value×IV×Nat) (r:MapEntry),es[i]?=aa e->res[i]?=aa r->r.key=e.1/\Rv ι e.2.1 r.val/\r.born=e.2.2
def kZ(ι:Io)(w:World)(id:Nat):Ob->Prop
 |.cells cs ep mn=>(mn<=ep/\∀e,ep<e->ι id e=ah)/\(∃l,ι id ep=aa l/\l.n=cs.length)/\∀e,mn<=e->e<=ep->∃l c el,ι id e=aa l/\l.n<=cs.length/\w.heap[l.b]?=aa (.cells c el (0,0))/\
   l.lim=c.size/\∀k x,k<l.n->cs[k]?=aa x->∃u,c[k]?=aa u/\Rv ι x u
 |.map es clock=>∃l res,ι id 0=aa l/\w.heap[l.b]?=aa (.map res clock)/\gE ι es res
 |.qq s pos=>∃l,ι id 0=aa l/\w.heap[l.b]?=aa (.stringIter s pos)
 |.jO m since seen xI=>∃l mr,ι id 0=aa l/\w.heap[l.b]?=aa (.mapIter mr since seen.toArray xI)/\
   (match m with|none=>mr=ah|some m=>∃lm,ι m 0=aa lm/\mr=aa lm.b)
 |.loop st Am _ tm tf ps oC bd mM=>∃l ld ts f,ι id 0=aa l/\ι mM 0=aa ld/\
   w.heap[l.b]?=aa (.loop {state:=st,pending:=Am,fn:=f,tmps:=ts,params:=ps.toArray,assign:=oC,body:=bd,defers:=ld.b})/\
   ts.size=tf/\∀t,Rv ι ((tm.get t).getD .undef) (ts.getD t atC)
 |.GK taken=>∃l,ι id 0=aa l/\w.heap[l.b]?=aa (.deferred (if taken then ah else aa []))
structure Inv(N:Nat)(ι:Io)(σ:St)(w:World):Prop where
 mem:∀b c,ι.m b=aa c->∃e f,w.heap[b]?=aa (.cells c e f)
 sep:∀b c id,ι.m b=aa c->¬Own ι id b
 jc:∀id b,Own ι id b->b<w.heap.size
 fresh:∀id,σ.n<=id->id<N->∀e,ι id e=ah
 inj:∀i j b,Own ι i b->Own ι j b->i=j
 obj:∀id o,σ.at id=aa o->kZ ι w id o
 wf:∀id,σ.n<=id->σ.at id=ah
structure Le(ro:Nat)(ι:Io)(w:World)(σ:St)(aG:Io)(w':World)(ao:St):Prop where
 ext:Ext ι aG
 own:∀id b,Own aG id b->Own ι id b\/w.heap.size<=b
 AL:∀id,σ.at id=ah->(id<σ.n\/ao.n<=id)->∀e,aG id e=ι id e
 dead:∀id,σ.at id=ah->(id<σ.n\/ao.n<=id)->ao.at id=ah
 wE:∀id,id<ro->id<σ.n->ao.at id=σ.at id
 An:σ.n<=ao.n
 os:w'.os=w.os
 tape:w'.tape=w.tape
 output:w'.output=w.output
 size:w.heap.size<=w'.heap.size
 frame:∀b,b<w.heap.size->(∀id,Own ι id b->id<ro\/σ.at id=ah)->w'.heap[b]?=w.heap[b]?
 xX:∀b c,aG.m b=aa c->ι.m b=aa c\/w.heap.size<=b
theorem Le.refl(ro:Nat)(ι:Io)(w:World)(σ:St):Le ro ι w σ ι w σ:=
 ⟨Ext.refl _,λ_ _ h=>.inl h,λ_ _ _ _=>rfl,λ_ h _=>h,λ_ _ _=>rfl,asR _,rfl,rfl,rfl,asR _,λ_ _ _=>rfl,λ_ _ h=>.inl h⟩
theorem Le.trans{ro:Nat}{ι cq pj:Io}{w w1 w2:World}{σ aq dw:St}(hf:∀id,σ.n<=id->id<aq.n->∀e,ι id e=ah)
 (h:Le ro ι w σ cq w1 aq)(k:Le ro cq w1 aq pj w2 dw):Le ro ι w σ pj w2 dw where
 ext:=h.ext.trans k.ext
 own:=λid b hb=>(k.own id b hb).elim (λhb=>h.own id b hb) (λhb=>.inr (atd h.size hb))
 AL:=λid hn hr e=>(k.AL id (h.dead id hn (by have:=k.An;omega)) (by have:=h.An;omega) e).trans (h.AL id hn (by have:=k.An;omega) e)
 dead:=λid hn hr=>k.dead id (h.dead id hn (by have:=k.An;omega)) (by have:=h.An;omega)
 wE:=λid hr hn=>(k.wE id hr (by have:=h.An;omega)).trans (h.wE id hr hn)
 An:=atd h.An k.An
 os:=k.os.trans h.os
 tape:=k.tape.trans h.tape
 output:=k.output.trans h.output
 size:=atd h.size k.size
 frame:=λb hb hc=>by
  rw[k.frame b (avc hb h.size) ?_,h.frame b hb hc];intro id hid;rcases h.own id b hid with ho|ho
  ·rcases hc id ho with ai|hd
   ·exact .inl ai
   ·right;refine h.dead id hd ?_;by_cases hn:id<σ.n
    ·exact .inl hn
    ·by_cases dO:id<aq.n
     ·obtain⟨e,l,hl,_⟩:=ho;rw[hf id (by omega) dO e]at hl;cases hl
     ·exact .inr (by omega)
  ·omega
 xX:=λb c hb=>(k.xX b c hb).elim (λhb=>h.xX b c hb) (λhb=>.inr (atd h.size hb))
theorem gE.mono{ι aG:Io}(gY:Ext ι aG){es:List (Value×IV×Nat)}{res:Array MapEntry}(h:gE ι es res):gE aG es res:=
 ⟨h.1,λi e r h1 h2=>let⟨a,b,c⟩:=h.2 i e r h1 h2;⟨a,b.mono gY,c⟩⟩
theorem kZ.keep{ι aG:Io}{w w':World}{id:Nat}(gY:Ext ι aG)(hid:∀e,aG id e=ι id e)(hb:∀b,Own ι id b->w'.heap[b]?=w.heap[b]?):
 ∀{o:Ob},kZ ι w id o->kZ aG w' id o
 |.cells cs ep mn,h=>by
  obtain⟨h1,⟨l,hl,hn⟩,h3⟩:=h;refine⟨⟨h1.1,λe he=>(hid e).trans (h1.2 e he)⟩,⟨l,gY _ _ _ hl,hn⟩,λe he ic=>?_⟩;obtain⟨l,c,el,hl,hn,hc,ib,hk⟩:=h3 e he ic;refine⟨l,c,el,gY _ _ _ hl,hn,by rw[hb _ ⟨e,l,hl,rfl⟩];exact hc,ib,λk x hkn hx=>?_⟩;obtain⟨u,hu,hr⟩:=hk k x hkn hx;exact⟨u,hu,hr.mono gY⟩
 |.map es clock,h=>by
  obtain⟨l,res,hl,hh,he⟩:=h;exact⟨l,res,gY _ _ _ hl,by rw[hb _ ⟨0,l,hl,rfl⟩];exact hh,he.mono gY⟩
 |.qq s pos,h=>by
  obtain⟨l,hl,hh⟩:=h;exact⟨l,gY _ _ _ hl,by rw[hb _ ⟨0,l,hl,rfl⟩];exact hh⟩
 |.jO m since seen xI,h=>by
  obtain⟨l,mr,hl,hh,hm⟩:=h;refine⟨l,mr,gY _ _ _ hl,by rw[hb _ ⟨0,l,hl,rfl⟩];exact hh,?_⟩;cases m with
  |none=>exact hm
  |some m=>obtain⟨lm,h1,h2⟩:=hm;exact⟨lm,gY _ _ _ h1,h2⟩
 |.loop st Am f tm tf ps oC bd mM,h=>by
  obtain⟨l,ld,ts,f,hl,hd,hh,hs,ht⟩:=h;exact⟨l,ld,ts,f,gY _ _ _ hl,gY _ _ _ hd,by rw[hb _ ⟨0,l,hl,rfl⟩];exact hh,hs,λt=>(ht t).mono gY⟩
 |.GK taken,h=>by
  obtain⟨l,hl,hh⟩:=h;exact⟨l,gY _ _ _ hl,by rw[hb _ ⟨0,l,hl,rfl⟩];exact hh⟩
@[simp] theorem St.c_(σ:St)(id:Nat)(o:Ob)(j:Nat):(σ.put id o).at j=if id=j then aa o else σ.at j:=by simp[St.at,St.put,T.gj]
@[simp] theorem St.ie(σ:St)(o:Ob)(j:Nat):(σ.add o).at j=if σ.n=j then aa o else σ.at j:=by simp[St.at,St.add,T.gj]
@[simp] theorem St.nS(σ:St)(id:Nat)(o:Ob):(σ.put id o).n=σ.n:=rfl
@[simp] theorem St.lC(σ:St)(o:Ob):(σ.add o).n=σ.n+1:=rfl
theorem Inv.change{N:Nat}{ι aG:Io}{σ ao:St}{w w':World}{rz:Nat}{eT:Ob}(h:Inv N ι σ w)
 (gY:Ext ι aG)(si:∀i,i≠rz->∀e,aG i e=ι i e)(lO:∀id b,Own aG id b->Own ι id b\/(id=rz/\w.heap.size<=b))
 (VD:∀b,Own aG rz b->b<w'.heap.size)(aU:w.heap.size<=w'.heap.size)
 (Hp:∀b,b<w.heap.size->¬Own ι rz b->w'.heap[b]?=w.heap[b]?)(dH:kZ aG w' rz eT)
 (aE:∀j,ao.at j=if rz=j then aa eT else σ.at j)(hn:σ.n<=ao.n/\rz<ao.n)(uP:∀id,ao.n<=id->id<N->∀e,aG id e=ah)(hm:aG.m=ι.m:=by rfl):Inv N aG ao w' where
 mem:=λb c hb=>by
  rw[hm]at hb;obtain⟨e,f,hh⟩:=h.mem b c hb
  have ai:b<w.heap.size:=by
   rcases awq b w.heap.size with ai|tl
   ·exact ai
   ·rw[auI tl]at hh;cases hh
  exact⟨e,f,by rw[Hp b ai (h.sep b c rz hb)];exact hh⟩
 sep:=λb c id hb ho=>by
  rw[hm]at hb;rcases lO id b ho with ho|⟨_,ho⟩
  ·exact h.sep b c id hb ho
  ·obtain⟨e,f,hh⟩:=h.mem b c hb;rw[auI ho]at hh;cases hh
 jc:=λid b ho=>by
  rcases lO id b ho with ho'|⟨rfl,_⟩
  ·exact avc (h.jc id b ho') aU
  ·exact VD b ho
 fresh:=uP
 inj:=λi j b hi hj=>by
  rcases lO i b hi with da|⟨rfl,da⟩<;>rcases lO j b hj with fZ|⟨rfl,fZ⟩
  ·exact h.inj i j b da fZ
  ·exact absurd (h.jc i b da) (by omega)
  ·exact absurd (h.jc j b fZ) (by omega)
  ·rfl
 obj:=λid o ho=>by
  rw[aE]at ho;split at ho
  ·rename_i e;subst e;cases ho;exact dH
  ·rename_i aW;refine(h.obj id o ho).keep gY (si id (Ne.symm aW)) λb hb=>?_;refine Hp b (h.jc id b hb) λDT=>aW (h.inj rz id b DT hb)
 wf:=λid hid=>by
  rw[aE,if_neg (by omega)];exact h.wf id (by omega)
theorem Inv.same{N:Nat}{ι:Io}{σ:St}{w w':World}(h:Inv N ι σ w)(hh:w'.heap=w.heap):Inv N ι σ w' where
 mem:=λb c hb=>by rw[hh];exact h.mem b c hb
 sep:=h.sep
 jc:=λid b ho=>by rw[hh];exact h.jc id b ho
 fresh:=h.fresh
 inj:=h.inj
 obj:=λid o ho=>(h.obj id o ho).keep (Ext.refl _) (λ_=>rfl) λb _=>by rw[hh]
 wf:=h.wf
theorem Le.same{ro:Nat}{ι:Io}{σ:St}{w w':World}(hh:w'.heap=w.heap)(ho:w'.os=w.os)(ht:w'.tape=w.tape)(hp:w'.output=w.output):Le ro ι w σ ι w' σ:=
 ⟨Ext.refl _,λ_ _ h=>.inl h,λ_ _ _ _=>rfl,λ_ h _=>h,λ_ _ _=>rfl,asR _,ho,ht,hp,by rw[hh];exact asR _,λ_ _ _=>by rw[hh],λ_ _ h=>.inl h⟩
def dS(ι:Io)(id ep:Nat)(l:Loc):Io:=⟨λi e=>if i=id/\e=ep then aa l else ι i e,ι.m⟩
theorem cj(ι:Io)(id ep:Nat)(l:Loc):dS ι id ep l id ep=aa l:=by simp[dS]
theorem k_{ι:Io}{id ep:Nat}{l:Loc}(h:ι id ep=ah):Ext ι (dS ι id ep l):=by
 refine⟨?_,λ_ _ h=>h⟩;intro i e l' hl;show(if i=id/\e=ep then aa l else ι i e)=aa l';split
 ·rename_i hh;rw[hh.1,hh.2,h]at hl;cases hl
 ·exact hl
theorem mw{ι:Io}{id ep:Nat}{l:Loc}{i b:Nat}(h:Own (dS ι id ep l) i b):Own ι i b\/(i=id/\b=l.b):=by
 obtain⟨e,l',hl,hb⟩:=h;change(if i=id/\e=ep then aa l else ι i e)=aa l' at hl;split at hl
 ·rename_i hh;cases hl;exact .inr ⟨hh.1,hb.symm⟩
 ·exact .inl ⟨e,l',hl,hb⟩
theorem Inv.add{N ro:Nat}{ι:Io}{σ:St}{w w':World}{o:Go.Obj}{ob:Ob}{l:Loc}(h:Inv N ι σ w)(hN:σ.n<N)(hw:w'.heap=w.heap.push o)
 (we:w'.os=w.os)(xY:w'.tape=w.tape)(xZ:w'.output=w.output)(hl:l.b=w.heap.size)(dH:kZ (dS ι σ.n 0 l) w' σ.n ob):
 Inv N (dS ι σ.n 0 l) (σ.add ob) w'/\Le ro ι w σ (dS ι σ.n 0 l) w' (σ.add ob):=by
 have kz:=h.fresh σ.n (asR _) hN;have aU:w'.heap.size=w.heap.size+1:=by rw[hw];simp
 have hold:∀b,b<w.heap.size->w'.heap[b]?=w.heap[b]? :=λb hb=>by rw[hw,aw1,if_neg (by omega)]
 refine⟨h.change (rz:=σ.n) (k_ (kz 0)) (λi hi e=>by simp[dS,hi]) ?_ ?_ (by omega) (λb hb _=>hold b hb) dH (λj=>by simp) ⟨by simp,by simp⟩ ?_,?_⟩
 ·intro id b hb;rcases mw hb with hb|⟨h1,h2⟩
  ·exact .inl hb
  ·exact .inr ⟨h1,by omega⟩
 ·intro b hb;rcases mw hb with hb|⟨h1,h2⟩
  ·have:=h.jc _ _ hb;omega
  ·omega
 ·intro id hid ai e;simp only[St.lC]at hid;have:id≠σ.n:=by omega
  simp[dS,this,h.fresh id (by omega) ai e]
 ·refine⟨k_ (kz 0),?_,?_,?_,?_,by simp,we,xY,xZ,by omega,λb hb _=>hold b hb,λ_ _ h=>.inl h⟩
  ·intro id b hb;rcases mw hb with hb|⟨h1,h2⟩
   ·exact .inl hb
   ·exact .inr (by omega)
  ·intro id hn hr e;simp only[St.lC]at hr;have:id≠σ.n:=by omega
   simp[dS,this]
  ·intro id hn hr;simp only[St.lC]at hr;have:σ.n≠id:=by omega
   simp[this,hn]
  ·intro id hr hn;have:σ.n≠id:=by omega
   simp[this]
theorem Inv.push{N ro:Nat}{ι:Io}{σ:St}{w w':World}{o:Go.Obj}(h:Inv N ι σ w)(hw:w'.heap=w.heap.push o)
 (we:w'.os=w.os)(xY:w'.tape=w.tape)(xZ:w'.output=w.output):Inv N ι σ w'/\Le ro ι w σ ι w' σ:=by
 have aU:w'.heap.size=w.heap.size+1:=by rw[hw];simp
 have hold:∀b,b<w.heap.size->w'.heap[b]?=w.heap[b]? :=λb hb=>by rw[hw,aw1,if_neg (by omega)]
 refine⟨⟨λb c hb=>?_,h.sep,λid b ho=>by have:=h.jc id b ho;omega,h.fresh,h.inj,λid o ho=>(h.obj id o ho).keep (Ext.refl _) (λ_=>rfl) λb hb=>hold b (h.jc _ _ hb),h.wf⟩,?_⟩
 ·obtain⟨e,f,hh⟩:=h.mem b c hb;refine⟨e,f,?_⟩;rw[hold b ?_];exact hh;rcases awq b w.heap.size with ai|tl
  ·exact ai
  ·rw[auI tl]at hh;cases hh
 ·exact⟨Ext.refl _,λ_ _ h=>.inl h,λ_ _ _ _=>rfl,λ_ h _=>h,λ_ _ _=>rfl,asR _,we,xY,xZ,by omega,λb hb _=>hold b hb,λ_ _ h=>.inl h⟩
theorem Inv.put{N ro:Nat}{ι aG:Io}{σ:St}{w w':World}{id:Nat}{ob eT:Ob}(h:Inv N ι σ w)(aE:σ.at id=aa ob)(cF:ro<=id)(hid:∃e l,ι id e=aa l)
 (gY:Ext ι aG)(VE:∀i,i≠id->∀e,aG i e=ι i e)(lO:∀b,Own aG id b->Own ι id b\/(w.heap.size<=b/\b<w'.heap.size))
 (aU:w.heap.size<=w'.heap.size)(Hp:∀b,b<w.heap.size->¬Own ι id b->w'.heap[b]?=w.heap[b]?)
 (we:w'.os=w.os)(xY:w'.tape=w.tape)(xZ:w'.output=w.output)(dH:kZ aG w' id eT)(hm:aG.m=ι.m:=by rfl):
 Inv N aG (σ.put id eT) w'/\Le ro ι w σ aG w' (σ.put id eT):=by
 obtain⟨e0,l0,jC⟩:=hid;have aW:∀i,(∀e,ι i e=ah)->i≠id:=λi hn hi=>by rw[hi]at hn;rw[hn e0]at jC;cases jC
 have hd:∀i,(∀e,ι i e=ah)->∀e,aG i e=ah:=λi hn e=>(VE i (aW i hn) e).trans (hn e)
 have Iy:∀i b,Own aG i b->Own ι i b\/(i=id/\w.heap.size<=b/\b<w'.heap.size):=by
  intro i b hb;by_cases hi:i=id
  ·subst hi;rcases lO b hb with hb|hb
   ·exact .inl hb
   ·exact .inr ⟨rfl,hb⟩
  ·obtain⟨e,l,hl,wR⟩:=hb;rw[VE i hi e]at hl;exact .inl ⟨e,l,hl,wR⟩
 refine⟨h.change (rz:=id) gY VE (λi b hb=>(Iy i b hb).imp (λx=>x) (λx=>⟨x.1,x.2.1⟩)) ?_ aU Hp dH (λj=>by simp) ⟨by simp,by rw[St.nS];exact Nat.lt_of_not_le λhle=>by rw[h.wf id hle]at aE;cases aE⟩ ?_ hm,?_⟩
 ·intro b hb;rcases lO b hb with hb|hb
  ·exact avc (h.jc _ _ hb) aU
  ·exact hb.2
 ·intro i hi ai e;exact hd i (h.fresh i hi ai) e
 ·refine⟨gY,λi b hb=>(Iy i b hb).imp (λx=>x) (λx=>x.2.1),?_,?_,?_,by simp,we,xY,xZ,aU,?_,λb c hb=>.inl (by rw[<-hm];exact hb)⟩
  ·intro i hn _ e;exact VE i (λhi=>by subst hi;rw[aE]at hn;cases hn) e
  ·intro i hn _;have:id≠i:=λhi=>by subst hi;rw[aE]at hn;cases hn
   simp[this,hn]
  ·intro i hr _;have:id≠i:=by omega
   simp[this]
  ·intro b hb hc;refine Hp b hb λho=>?_;rcases hc id ho with h1|h1
   ·omega
   ·rw[aE]at h1;cases h1
end Go.Ev
namespace Go.Ev
variable{P:Program}{N:Nat}{ι:Io}{w:World}{σ:St}
theorem eP{t:TypeId}{s:Nat}(h:aN P t=aa s)(w:World):(sizeOf t).run P w=.ok s w:=by
 unfold aN at h;cases hi:P.info? t with
 |none=>simp[hi]at h
 |some i=>simp[hi]at h;simp[sizeOf,typeInfo,hi,h]
theorem ji{t:TypeId}{z:Value}(h:cy P t=aa z)(w:World):(zeroValue t).run P w=.ok z w:=by
 unfold cy at h;cases hi:P.info? t with
 |none=>simp[hi]at h
 |some i=>simp[hi]at h;simp[zeroValue,typeInfo,hi,h]
theorem aV{t:TypeId}{d:TypeDesc}(h:P.underlying t=aa d)(w:World):(underlying t).run P w=.ok d w:=by simp[underlying,h]
theorem BI{t:TypeId}{b:Bool}(h:ra P t=aa b)(w:World):(isAgg t).run P w=.ok b w:=by
 unfold ra at h;cases hu:P.underlying t with
 |none=>simp[hu]at h
 |some d=>
  simp[hu]at h;simp only[isAgg,Sem.run_bind,aV hu,Result.andThen_ok];cases d<;>simp at h<;>subst h<;>rfl
theorem DU{t:TypeId}{n:Nat}(h:(P.info? t).map (·.bytes)=aa n)(w:World):∃i,P.info? t=aa i/\i.bytes=n/\(typeInfo t).run P w=.ok i w:=by
 cases hi:P.info? t with
 |none=>simp[hi]at h
 |some i=>simp[hi]at h;exact⟨i,rfl,h,by simp[typeInfo,hi]⟩
theorem ig(b off n:Nat):(⟨b,off,ah⟩:Addr).add n=⟨b,off+n,ah⟩:=by
 unfold Addr.add;split<;>simp_all
theorem cell_of{b off:Nat}{c:Array Value}{el:TypeId}{f:Nat×Nat}(h:w.heap[b]?=aa (.cells c el f)):w.cell? ⟨b,off,ah⟩=c[off]? :=by
 simp[World.cell?,h]
theorem OD{t:TypeId}{cs:List IV}{vs:List Value}{off:Nat}{v:IV}(h:partOf P t cs off=aa v)(hr:aB ι cs vs)(w:World):
 ∃u,(part t vs.toArray off).run P w=.ok u w/\Rv ι v u:=by
 unfold partOf at h;split at h
 ·rename_i s ha hs;split at h
  ·rename_i hle;cases h;refine⟨.agg (vs.toArray.extract off (off+s)),by simp[part,BI ha,eP hs],?_⟩
   have e:vs.toArray.extract off (off+s)=((vs.drop off).take s).toArray:=by
    apply Array.ext';simp
   rw[e];have:=(hr.drop off).take s;exact .agg _ _ this.1 this.2
  ·cases h
 ·rename_i s ha hs;split at h
  ·obtain⟨u,hu,jt⟩:=hr.get h;exact⟨u,by simp[part,BI ha,hu],jt⟩
  ·cases h
 ·cases h
def za(w:World)(b off:Nat)(vs:List Value):Prop:=∀j v,vs[j]?=aa v->w.cell? ⟨b,off+j,ah⟩=aa v
theorem Iz{t:TypeId}{cs:List IV}{vs:List Value}{b off k:Nat}{v:IV}(h:partOf P t cs k=aa v)(hr:aB ι cs vs)(kA:za w b off vs):
 ∃u,(loadVar t ⟨b,off+k,ah⟩).run P w=.ok u w/\Rv ι v u:=by
 unfold partOf at h;split at h
 ·rename_i s ha hs;split at h
  ·rename_i hle;cases h;have hl:((vs.drop k).take s).length=s:=by simp;have:=hr.1;omega
   have hc:(loadCells ⟨b,off+k,ah⟩ s).run P w=.ok ((vs.drop k).take s).toArray w:=by
    have:=run_loadCells_list (P:=P) w ⟨b,off+k,ah⟩ ((vs.drop k).take s) ?_
    ·rwa[hl]at this
    ·intro j v hj;rw[ig]
     have fZ:vs[k+j]?=aa v:=by
      rw[atp]at hj;split at hj
      ·simpa using hj
      ·cases hj
     have:=kA _ _ fZ;rw[show off+k+j=off+(k+j) by omega];exact this
   refine⟨.agg ((vs.drop k).take s).toArray,by simp[loadVar,BI ha,eP hs,hc],?_⟩;have:=(hr.drop k).take s;exact .agg _ _ this.1 this.2
  ·cases h
 ·rename_i s ha hs;split at h
  ·obtain⟨u,hu,jt⟩:=hr.get h;exact⟨u,by simp[loadVar,BI ha,kA _ _ hu],jt⟩
  ·cases h
 ·cases h
theorem FI{id:Nat}{cs:List IV}{ep ay mn:Nat}(h:kZ ι w id (.cells cs ay mn))(h1:mn<=ep)(h2:ep<=ay):
 ∃l c el,ι id ep=aa l/\l.n<=cs.length/\l.n<=c.size/\w.heap[l.b]?=aa (.cells c el (0,0))/\l.lim=c.size/\aB ι (cs.take l.n) (c.toList.take l.n):=by
 obtain⟨_,_,h3⟩:=h;obtain⟨l,c,el,hl,hn,hc,ib,hk⟩:=h3 ep h1 h2
 have aU:l.n<=c.size:=by
  rcases Nat.eq_zero_or_pos l.n with h0|h0
  ·omega
  ·obtain⟨u,hu,_⟩:=hk (l.n- 1) cs[l.n- 1] (by omega) (asL (by omega));have:=(Array.getElem?_eq_some_iff.1 hu).1;omega
 refine⟨l,c,el,hl,hn,aU,hc,ib,by simp;omega,λi x v hx hv=>?_⟩;rw[atp]at hx hv;split at hx
 ·rename_i hi;rw[if_pos hi]at hv;obtain⟨u,hu,hr⟩:=hk i x hi hx;have:c.toList[i]?=aa u:=by simpa using hu
  rw[this]at hv;cases hv;exact hr
 ·cases hx
theorem IA{b:Nat}{c:Array Value}{el:TypeId}{f:Nat×Nat}(h:w.heap[b]?=aa (.cells c el f))(n:Nat):za w b 0 (c.toList.take n):=by
 intro j v hj;rw[cell_of h];rw[atp]at hj;split at hj
 ·simpa using hj
 ·cases hj
theorem VF{b off:Nat}{vs:List Value}(h:za w b off vs)(n:Nat):za w b (off+n) (vs.drop n):=by
 intro j v hj;have:=h (n+j) v (by simpa using hj);rwa[show off+n+j=off+(n+j) by omega]
theorem SK{b off:Nat}{vs:List Value}(h:za w b off vs)(n:Nat):za w b off (vs.take n):=by
 intro j v hj;rw[atp]at hj;split at hj
 ·exact h j v hj
 ·cases hj
theorem SL{t:TypeId}{cs:List IV}{off n s:Nat}{v:IV}(h:partOf P t cs off=aa v)(hs:aN P t=aa s)(hn:off+s<=n):partOf P t (cs.take n) off=aa v:=by
 unfold partOf at h⊢;split at h
 ·rename_i s' ha bt;rw[bt]at hs;cases hs;split at h
  ·cases h;rw[if_pos (by simp;omega)]
   congr 2
   rw[List.drop_take,List.take_take]
   congr 1;omega
  ·cases h
 ·rename_i s' ha bt;rw[bt]at hs;cases hs;split at h
  ·rename_i h1;rw[if_pos h1,atp,if_pos (by omega)];exact h
  ·cases h
 ·cases h
theorem DV{t:TypeId}{s id off ep ext ay mn:Nat}{cs:List IV}{v:IV}{u:Value}(hi:Inv N ι σ w)(hs:aN P t=aa s)(aE:σ.at id=aa (.cells cs ay mn))
 (hx:s<=ext)(h1:mn<=ep)(h2:ep<=ay)(hp:partOf P t cs off=aa v)(hr:Rv ι (.ptr id off ep ext) u):
 ∃a x,u=.pointer (aa a)/\(loadVar t a).run P w=.ok x w/\Rv ι v x:=by
 obtain⟨l,c,el,hl,hn,aU,hc,_,kA⟩:=FI (hi.obj id _ aE) h1 h2;cases hr with
 |ptr _ _ _ _ l' cu iN=>
  rw[hl]at cu;cases cu;have rA:=SL hp hs (show off+s<=l.n by omega);obtain⟨x,zd,wS⟩:=Iz (k:=off) rA kA (IA hc l.n);rw[Nat.zero_add]at zd;exact⟨_,x,rfl,zd,wS⟩
end Go.Ev
