/- Lemmas over the model, without conditions of their own: the ideal machine, and how its values lie in the model. -/
import Derived.RangeFuncLeaves
import Derived.RecoverIn
import Derived.LoopNIn
import Derived.OrdersIn
import Derived.Laws.CopyRow
import Derived.Laws.Cells
open Nat renaming beq->asc,blt->as7,min->auY,testBit->asp,eq_of_beq_eq_true->asb,beq_eq->asK,le_refl->ar8,le_trans->asq,lt_of_lt_of_le->aut,lt_or_ge->avG
open Go renaming undef->asQ
open List renaming replicate->asr,getElem?_append_left->asd,getElem?_append_right->asz,getElem?_take->asD,getElem?_eq_getElem->ar2,getElem?_map->asi
open Go.Instr renaming sameBits->auJ
open Go.Op renaming bytesLess->auy
open Go.Utf8 renaming decode->atS
open Go.Region renaming binds->atT
open Bool renaming and_eq_true->ar4
open Option renaming none->avp
open Option.some renaming injEq->ar6
open Array renaming getElem?_eq_none->atW,getElem?_push->awg
open Option renaming some->aa,none->ah
open Bool renaming true->ab,false->af
set_option linter.all false
namespace Go.Ev
inductive T(α:Type) where
 |lf
 |nd (l:T α) (v:Option α) (r:T α)
namespace T
variable{α:Type}
def get:T α->Nat->Option α
 |.lf,_=>ah
 |.nd l v r,i=>if asc i 0 then v else if asc (i % 2) 1 then l.get (i/2)else r.get (i/2- 1)
def qE:Nat->T α->Nat->α->T α
 |0,t,_,_=>t
 |f+1,t,i,x=>
  match t with
  |.lf=>if asc i 0 then .nd .lf (aa x) .lf else if asc (i % 2) 1 then .nd (qE f .lf (i/2) x) ah .lf else .nd .lf ah (qE f .lf (i/2- 1) x)
  |.nd l v r=>if asc i 0 then .nd l (aa x) r else if asc (i % 2) 1 then .nd (qE f l (i/2) x) v r else .nd l v (qE f r (i/2- 1) x)
def set(t:T α)(i:Nat)(x:α):T α:=qE (i+1) t i x
end T
inductive IV where
 |raw (v:Value)
 |agg (cs:List IV)
 |az (vs:List IV)
 |ptr (id off ep ext:Nat)
 |sl (id off len:Nat) (cap:Option Nat) (ep s:Nat)
 |emp
 |map (id:Nat)
 |fn (f:Fn) (first captured:List IV)
 |AA (id:Nat)
 |di (t:TypeId) (v:IV)
 |tree (s:Nat) (es:List IV)
 |lp (cs:List IV)
 deriving Inhabited
def IV.undef:IV:=.raw asQ
abbrev IV.bool(b:Bool):IV:=.raw (.bool b)
abbrev IV.int(n:Int):IV:=.raw (.int .i64 n)
inductive Ob where
 |cells (cs:List IV) (ep mn:Nat)
 |map (es:List (Value×IV×Nat)) (clock:Nat)
 |pY (s:ByteArray) (pos:Nat)
 |jz (m:Option Nat) (since:Nat) (seen:List Nat) (xu:Nat)
 |loop (state:LoopState) (pending:Option Code) (f:FuncId) (tm:T IV) (sQ:Nat) (params:List Tmp) (assign body:Code) (mc:Nat)
 |Gi (taken:Bool)
 deriving Inhabited
inductive Df where
 |Dq (id:Nat)
 |call (f:FuncId) (args:List IV)
structure St where
 n:Nat
 t:T Ob
def St.add(σ:St)(o:Ob):St:=⟨σ.n+1,σ.t.set σ.n o⟩
def St.put(σ:St)(id:Nat)(o:Ob):St:=⟨σ.n,σ.t.set id o⟩
def St.at(σ:St)(id:Nat):Option Ob:=σ.t.get id
structure Env where
 n:Nat
 t:T IV
def Env.at(e:Env)(i:Nat):IV:=(e.t.get i).getD .undef
def Env.put(e:Env)(dst:Option Tmp)(v:IV):Env:=
 match dst with
 |none=>e
 |some d=>if as7 d e.n then⟨e.n,e.t.set d v⟩else e
def aS{α:Type}(P:Program):Sem α->Option α
 |.pure a=>aa a
 |.program k=>aS P (k P)
 |.mark _ k=>aS P k
 |_=>ah
def lift:Value->IV
 |.agg cs=>.agg (cs.toList.map .raw)
 |v=>.raw v
def gl:List IV->Option (List Value)
 |[]=>aa []
 |c::cs=>match c with
  |.raw v=>match gl cs with
   |some vs=>aa (v::vs)
   |none=>ah
  |_=>ah
def pd:IV->Option Value
 |.raw v=>aa v
 |.agg cs=>match gl cs with
  |some vs=>aa (.agg vs.toArray)
  |none=>ah
 |_=>ah
def iG:IV->Option Value
 |.di t v=>match pd v with
  |some u=>aa (.iface t u)
  |none=>ah
 |v=>pd v
def cellsOf:IV->List IV
 |.agg cs=>cs
 |v=>[v]
def aj:IV->Bool
 |.raw (.agg _)|.raw (.tuple _)|.agg _|.az _=>af
 |_=>ab
section ops
variable(P:Program)
def aN(t:TypeId):Option Nat:=(P.info? t).map (·.size)
def cw(t:TypeId):Option Value:=(P.info? t).bind (·.zero)
def qF(t:TypeId):Option Bool:=(P.underlying t).map λ|.struct _|.array _ _=>ab|_=>af
def partOf(t:TypeId)(cs:List IV)(off:Nat):Option IV:=
 match qF P t,aN P t with
 |some ab,aa s=>if off+s<=cs.length then aa (.agg ((cs.drop off).take s))else ah
 |some af,aa s=>if s=1 then cs[off]? else ah
 |_,_=>ah
def dw(cs:List IV)(off:Nat)(new:List IV):List IV:=cs.take off++new++cs.drop (off+new.length)
def pZ(place:Nat->Option (Nat×Nat)):List IV->List (Nat×IV)->Option (List IV)
 |cells,[]=>aa cells
 |cells,(i,v)::rest=>
  match place i with
  |none=>ah
  |some (off,size)=>
   if(cellsOf v).length=size/\off+size<=cells.length/\(cellsOf v).all aj then pZ place (dw cells off (cellsOf v)) rest else ah
def gI(zero:List IV)(n:Nat):List IV:=
 match zero with
 |[z]=>asr n z
 |_=>(asr (n/zero.length) zero).flatten
def eL(size n:Nat)(σ:St):IV->Option (List IV)
 |.raw (.slice ah _ _)=>if n=0 then aa []else ah
 |.emp=>if n=0 then aa []else ah
 |.raw (.string s)=>if n<=s.size then aa ((s.data.toList.take n).map λb=>.raw (.int .u8 b.toNat))else ah
 |.sl id off len _ ep s=>if s=size/\n<=len then match σ.at id with
   |some (.cells cs ay mn)=>if mn<=ep/\ep<=ay/\off+n*size<=cs.length then aa ((cs.drop off).take (n*size))else ah
   |_=>ah
  else ah
 |.tree s es=>if s=size/\n<=es.length then aa ((es.take n).flatMap cellsOf)else ah
 |_=>ah
def kG:IV->Option Nat
 |.raw (.slice ah l _)=>if l=0 then aa 0 else ah
 |.raw (.string s)=>aa s.size
 |.emp=>aa 0
 |.sl _ _ len _ _ _=>aa len
 |.tree _ es=>aa es.length
 |_=>ah
inductive eC where
 |val (v:IV) (σ:St)
 |enter (f:FuncId) (args:List IV)
 |round (id:Nat) (args:List IV)
 |SP (d:Df)
 |bY (v:IV)
def ret(v:IV)(σ:St):Option eC:=aa (.val v σ)
def sg(size:Nat)(zero:Value)(xd:TypeDesc)(σ:St)(x:IV):Option (Nat×List IV):=
 match xd with
 |.int _=>match x with
  |.raw (.int .i64 l)=>if 0<=l/\l<=1000000 then aa (l.toNat,gI (zero.cells.toList.map .raw) (l.toNat*size))else ah
  |_=>ah
 |_=>match kG x with
  |some n=>match eL size n σ x with
   |some cs=>aa (n,cs)
   |none=>ah
  |none=>ah
def fk(size aY n:Nat)(new:List IV)(s:IV)(σ:St):Option eC:=
 match eL size aY σ s with
 |some cH=>if cH.length=aY*size then ret (.sl σ.n 0 (aY+n) ah 0 size) (σ.add (.cells (cH++new) 0 0))else ah
 |none=>ah
def eD(ro size aY n:Nat)(new:List IV)(s:IV)(σ:St):Option eC:=
 match s with
 |.raw (.slice ah l c)=>if l=0/\c=0 then(if n=0 then ret s σ else fk size aY n new s σ)else ah
 |.emp=>if n=0 then ret s σ else fk size aY n new s σ
 |.tree _ _=>if n=0 then ret s σ else ah
 |.sl id off len cap ep st=>
  if st≠size then ah else
  if n=0 then ret (.sl id off len cap ep st) σ else
  match cap with
  |some c=>if len+n<=c then
    match σ.at id with
    |some (.cells cs ay _)=>if ro<=id/\ep=ay/\off+(len+n)*size<=cs.length then
      ret (.sl id off (len+n) cap ep st) (σ.put id (.cells (dw cs (off+len*size) new) ay ay))else ah
    |_=>ah
   else fk size aY n new s σ
  |none=>match σ.at id with
   |some (.cells cs ay mn)=>if ro<=id/\ep=ay/\off=0/\len*size=cs.length then
     ret (.sl id 0 (len+n) ah (ep+1) st) (σ.put id (.cells (cs++new) (ay+1) mn))
    else if ro<=id/\ep=ay/\off=0/\len*size<=cs.length then
     ret (.sl id 0 (len+n) ah (ep+1+1) st) ((σ.put id (.cells (cs.take (len*size)) (ay+1) (ay+1))).put id (.cells (cs.take (len*size)++new) (ay+1+1) (ay+1)))
    else ah
   |_=>ah
 |_=>ah
def kE(ro:Nat)(argTypes:Array TypeId)(s x:IV)(σ:St):Option eC:=
 match argTypes[0]?,argTypes[1]? with
 |some sT,aa xT=>
  match P.underlying sT,P.underlying xT with
  |some (.slice elem),aa xd=>
   match aN P elem,cw P elem,(P.info? elem).map (·.bytes)with
   |some size,aa zero,aa bytes=>
    if size=0\/zero.cells.size≠size then ah else
    match sg size zero xd σ x,kG s with
    |some (n,new),aa aY=>
     if new.length=n*size/\new.all aj=ab/\(4*(aY+n)+4096)*bytes<=2 ^47/\aY+n<=2 ^40 then eD ro size aY n new s σ else ah
    |_,_=>ah
   |_,_,_=>ah
  |_,_=>ah
 |_,_=>ah
def gm:Option IV->Option (Option Nat)
 |none=>aa ah
 |some (.raw (.int _ i))=>if 0<=i then aa (aa i.toNat)else ah
 |_=>ah
def fm(t:TypeId)(x:IV)(lo hi mx:Option IV):Option IV:=
 match gm lo,gm hi,gm mx with
 |some lo,aa hi,aa mx=>
  if mx.isSome=ab/\hi.isSome=af then ah else
  match P.underlying t with
  |some .string=>match x with
   |.raw (.string s)=>
    if mx=ah/\lo.getD 0<=hi.getD s.size/\hi.getD s.size<=s.size then aa (.raw (.string ⟨((s.data.toList.drop (lo.getD 0)).take (hi.getD s.size- lo.getD 0)).toArray⟩))else ah
   |_=>ah
  |some (.slice elem)=>match aN P elem with
   |none=>ah
   |some sz=>match x with
    |.raw (.slice ah 0 0)=>if lo.getD 0=0/\hi.getD 0=0/\mx.getD 0=0 then aa (.raw (.slice ah 0 0))else ah
    |.emp=>if lo.getD 0=0/\hi.getD 0=0/\mx.getD 0=0 then aa .emp else ah
    |.sl id off len cap ep s=>
     if sz≠s then ah else
     match mx,cap with
     |some m,cap=>if lo.getD 0<=hi.getD len/\hi.getD len<=m/\m<=cap.getD len then
       (if m=lo.getD 0 then aa .emp else aa (.sl id (off+lo.getD 0*s) (hi.getD len- lo.getD 0) (aa (m- lo.getD 0)) ep s))else ah
     |none,aa m=>if lo.getD 0<=hi.getD len/\hi.getD len<=m then
       (if m=lo.getD 0 then aa .emp else aa (.sl id (off+lo.getD 0*s) (hi.getD len- lo.getD 0) (aa (m- lo.getD 0)) ep s))else ah
     |none,ah=>if lo.getD 0<=hi.getD len/\hi.getD len<=len then aa (.sl id (off+lo.getD 0*s) (hi.getD len- lo.getD 0) ah ep s)else ah
    |.tree s es=>
     if sz≠s then ah else
     match mx with
     |none=>if lo.getD 0<=hi.getD es.length/\hi.getD es.length<=es.length then aa (.tree s ((es.take (hi.getD es.length)).drop (lo.getD 0)))else ah
     |some m=>if m=0/\lo.getD 0=0/\hi.getD es.length=0 then aa (.tree s [])else ah
    |_=>ah
  |some (.array n elem)=>match x,aN P elem with
   |.ptr id off ep ext,aa s=>
    if s≠0/\n*s<=ext/\mx=ah/\lo.getD 0<=hi.getD n/\hi.getD n<=n then
     (if n=lo.getD 0 then aa .emp else aa (.sl id (off+lo.getD 0*s) (hi.getD n- lo.getD 0) (aa (n- lo.getD 0)) ep s))else ah
   |_,_=>ah
  |_=>ah
 |_,_,_=>ah
def gT(empty:Bool)(kt:TypeId)(k:Value)(es:List (Value×IV×Nat)):Option (Option Nat):=
 match aS P (do
  Instr.checkKey empty 10000 kt k
  Instr.findKey kt k (es.map λe=>{key:=e.1,val:=asQ,born:=e.2.2}))with
 |some (aa (i,_))=>aa (aa i)
 |some ah=>aa ah
 |none=>ah
def entriesOf(σ:St):IV->Option (List (Value×IV×Nat))
 |.raw (.map ah)=>aa []
 |.map id=>match σ.at id with
  |some (.map es _)=>aa es
  |_=>ah
 |_=>ah
def pe(ro:Nat)(kt:TypeId)(m k v:IV)(σ:St):Option St:=
 match m,iG k with
 |.map id,aa key=>
  match σ.at id with
  |some (.map es clock)=>
   if¬ro<=id then ah else
   match gT P af kt key es with
   |some (aa i)=>match es[i]? with
    |some e=>if auJ 10000 e.1 key then aa (σ.put id (.map (es.set i (key,v,e.2.2)) clock))else ah
    |none=>ah
   |some ah=>aa (σ.put id (.map (es++[(key,v,clock)]) (clock+1)))
   |none=>ah
  |_=>ah
 |_,_=>ah
def AB(t:TypeId):IV->IV->Bool
 |.raw (.pointer ah),.ptr .. |.raw (.pointer ah),.lp _=>match P.underlying t with|some (.pointer _)=>ab|_=>af
 |.raw (.slice ah _ _),.sl .. |.raw (.slice ah _ _),.emp|.raw (.slice ah _ _),.tree _ (_::_)=>match P.underlying t with|some (.slice _)=>ab|_=>af
 |.raw (.map ah),.map _=>match P.underlying t with|some (.map _ _)=>ab|_=>af
 |.raw .nilFunc,.fn .. |.raw .nilFunc,.AA _=>match P.underlying t with|some (.func _ _ _)=>ab|_=>af
 |.raw .nilIface,.di .. =>match P.underlying t with|some (.interface _)=>ab|_=>af
 |_,_=>af
def U6(t:TypeId)(a b:IV):Bool:=AB P t a b||AB P t b a
def ptrEq(t:TypeId):IV->IV->Option Bool
 |.ptr i o e _,.ptr j p f _=>match P.underlying t with
  |some (.pointer el)=>match aN P el with
   |some s=>if i=j/\e=f/\s≠0 then aa (o==p)else ah
   |none=>ah
  |_=>ah
 |_,_=>ah
def pf(op:BinOp)(t:TypeId)(x y:Operand)(a b:IV):Option IV:=
 match op,a,b with
 |.eql,.raw (.string s),.raw (.string u)=>aa (.bool (s.data.toList==u.data.toList))
 |.neq,.raw (.string s),.raw (.string u)=>aa (.bool (!(s.data.toList==u.data.toList)))
 |.lss,.raw (.string s),.raw (.string u)=>aa (.bool (auy s.data.toList u.data.toList))
 |.gtr,.raw (.string s),.raw (.string u)=>aa (.bool (!(auy s.data.toList u.data.toList||s.data.toList==u.data.toList)))
 |.leq,.raw (.string s),.raw (.string u)=>aa (.bool (auy s.data.toList u.data.toList||s.data.toList==u.data.toList))
 |.geq,.raw (.string s),.raw (.string u)=>aa (.bool (!(auy s.data.toList u.data.toList)))
 |.add,.raw (.string s),.raw (.string u)=>if s.size+u.size<=2 ^40 then aa (.raw (.string ⟨(s.data.toList++u.data.toList).toArray⟩))else ah
 |op,a,b=>
  match iG a,iG b with
  |some u,aa v=>(aS P (do eqGuard op t x y u v;binOp op t u v)).map lift
  |_,_=>
   if U6 P t a b then
    match op with
    |.eql=>aa (.bool af)
    |.neq=>aa (.bool ab)
    |_=>ah
   else match op,ptrEq P t a b with
    |.eql,aa c=>aa (.bool c)
    |.neq,aa c=>aa (.bool !c)
    |_,_=>ah
def gu(f:IV)(args:List IV):Option eC:=
 match f with
 |.fn (.func f) first cap=>
  match P.funcs[f]? with
  |some fn=>if fn.body.isSome&&fn.name != "runtime.NumGoroutine" then aa (.enter f (first++args++cap))else ah
  |none=>ah
 |.raw (.func (.func f) a b)=>
  if a.size=0/\b.size=0 then
   match P.funcs[f]? with
   |some fn=>if fn.body.isSome&&fn.name != "runtime.NumGoroutine" then aa (.enter f args)else ah
   |none=>ah
  else ah
 |.AA id=>aa (.round id args)
 |_=>ah
def uy(recv:IV)(name:String)(args:List IV):Option eC:=
 match recv with
 |.di t v=>match P.info? t,P.underlying t with
  |some i,aa (.pointer _)=>match i.methods.find? (·.name==name)with
   |some m=>match m.func with
    |some (f,pr)=>
     if m.path.toList.isEmpty=ab/\pr=ab then
      match P.funcs[f]? with
      |some fn=>if fn.body.isSome&&fn.name != "runtime.NumGoroutine" then aa (.enter f (v::args))else ah
      |none=>ah
     else ah
    |none=>ah
   |none=>ah
  |_,_=>ah
 |_=>ah
def oC(argTypes:Array TypeId)(x:IV)(σ:St):Option IV:=
 match(argTypes[0]?).bind P.underlying,x with
 |some (.slice _),.sl _ _ len _ _ _=>aa (.int len)
 |some (.slice _),.emp=>aa (.int 0)
 |some (.slice _),.tree _ es=>aa (.int es.length)
 |some (.slice _),.raw (.slice ah l _)=>aa (.int l)
 |some .string,.raw (.string s)=>aa (.int s.size)
 |some (.map _ _),.raw (.map ah)=>aa (.int 0)
 |some (.map _ _),.map id=>match σ.at id with
  |some (.map es _)=>aa (.int es.length)
  |_=>ah
 |some (.array n _),_=>aa (.int n)
 |_,_=>ah
def U7(argTypes:Array TypeId)(x:IV):Option IV:=
 match(argTypes[0]?).bind P.underlying,x with
 |some (.slice _),.sl _ _ _ (aa c) _ _=>aa (.int c)
 |some (.slice _),.emp=>aa (.int 0)
 |some (.slice _),.raw (.slice ah _ c)=>aa (.int c)
 |some (.array n _),_=>aa (.int n)
 |_,_=>ah
def NS(args:List IV):Option IV:=
 match gl args with
 |some vs=>(aS P (Builtin.min_ #[] 0 vs.toArray)).map lift
 |none=>ah
def JW(args:List IV):Option IV:=
 match gl args with
 |some vs=>(aS P (Builtin.max_ #[] 0 vs.toArray)).map lift
 |none=>ah
def xw(ro:Nat)(argTypes:Array TypeId)(m k:IV)(σ:St):Option eC:=
 match(argTypes[0]?).bind P.underlying,m,iG k with
 |some (.map kt _),.map id,aa key=>
  match σ.at id with
  |some (.map es clock)=>
   if¬ro<=id then ah else
   match gT P es.isEmpty kt key es with
   |some (aa i)=>ret .undef (σ.put id (.map (es.eraseIdx i) clock))
   |some ah=>ret .undef (σ.put id (.map es clock))
   |none=>ah
  |_=>ah
 |_,_,_=>ah
def sR(ro:Nat)(argTypes:Array TypeId)(x:IV)(σ:St):Option eC:=
 match(argTypes[0]?).bind P.underlying,x with
 |some _,.raw (.slice ah _ _)|some _,.raw (.map ah)|some _,.emp=>ret .undef σ
 |some (.map _ _),.map id=>match σ.at id with
  |some (.map _ clock)=>if ro<=id then ret .undef (σ.put id (.map [] clock))else ah
  |_=>ah
 |some (.slice elem),.sl id off len _ ep s=>if len=0 then ret .undef σ else
  match σ.at id with
  |some (.cells cs ay _)=>
   match cw P elem with
   |some z=>if s≠0/\z.cells.size=s/\(gI (z.cells.toList.map .raw) (len*s)).all aj=ab/\ro<=id/\ep=ay/\off+len*s<=cs.length then
     ret .undef (σ.put id (.cells (dw cs off (gI (z.cells.toList.map .raw) (len*s))) ay ay))else ah
   |none=>ah
  |_=>ah
 |_,_=>ah
def Fg(ro:Nat)(argTypes:Array TypeId)(d s:IV)(σ:St):Option eC:=
 match(argTypes[0]?).bind P.underlying with
 |some (.slice elem)=>match aN P elem,kG d,kG s with
  |some size,aa dl,aa sl=>match eL size (auY sl dl) σ s with
   |some new=>
    if new.length≠auY sl dl*size\/new.all aj=af then ah else
    match d with
    |.raw (.slice ah 0 0)=>ret (.int (auY sl dl)) σ
    |.emp=>ret (.int (auY sl dl)) σ
    |.sl id off len _ ep st=>
     if auY sl dl=0 then ret (.int 0) σ else
     match σ.at id with
     |some (.cells cs ay _)=>if st=size/\ro<=id/\ep=ay/\off+auY sl dl*size<=cs.length then
       ret (.int (auY sl dl)) (σ.put id (.cells (dw cs off new) ay ay))else ah
     |_=>ah
    |_=>ah
   |none=>ah
  |_,_,_=>ah
 |_=>ah
def dB(ro:Nat)(b:Builtin)(argTypes:Array TypeId)(args:List IV)(σ:St):Option eC:=
 match b with
 |.append=>match args with
  |[s,x]=>kE P ro argTypes s x σ
  |_=>ah
 |.len=>match args with
  |[x]=>(oC P argTypes x σ).map λv=>.val v σ
  |_=>ah
 |.cap=>match args with
  |[x]=>(U7 P argTypes x).map λv=>.val v σ
  |_=>ah
 |.min=>(NS P args).map λv=>.val v σ
 |.max=>(JW P args).map λv=>.val v σ
 |.delete=>match args with
  |[m,k]=>xw P ro argTypes m k σ
  |_=>ah
 |.clear=>match args with
  |[x]=>sR P ro argTypes x σ
  |_=>ah
 |.copy=>match args with
  |[d,s]=>Fg P ro argTypes d s σ
  |_=>ah
 |_=>ah
def av(ro:Nat)(ρ:Operand->IV)(o:Oper)(σ:St):Option eC:=
 match o.op with
 |.move x|.assign x=>ret (ρ x) σ
 |.pick c a b=>match ρ c with
  |.raw (.bool t)=>ret (if t then ρ a else ρ b) σ
  |_=>ah
 |.alloc elem=>match cw P elem with
  |some z=>ret (.ptr σ.n 0 0 z.cells.size) (σ.add (.cells (z.cells.toList.map .raw) 0 0))
  |none=>ah
 |.box _ x=>if(cellsOf (ρ x)).all aj then ret (.ptr σ.n 0 0 (cellsOf (ρ x)).length) (σ.add (.cells (cellsOf (ρ x)) 0 0))else ah
 |.build t parts=>match cw P t,P.underlying t with
  |some z,aa (.struct fields)=>match pZ (λi=>(fields[i]?).bind λf=>(aN P f.type).map λs=>(f.offset,s)) (z.cells.toList.map .raw) (parts.toList.map λ(i,x)=>(i,ρ x))with
   |some cs=>if fields.all λf=>(aN P f.type).isSome then ret (.agg cs) σ else ah
   |none=>ah
  |some z,aa (.array _ elem)=>match aN P elem with
   |some s=>match pZ (λi=>aa (i*s,s)) (z.cells.toList.map .raw) (parts.toList.map λ(i,x)=>(i,ρ x))with
    |some cs=>ret (.agg cs) σ
    |none=>ah
   |none=>ah
  |_,_=>ah
 |.buildSlice t len parts=>match P.underlying t with
  |some (.slice elem)=>match aN P elem,cw P elem with
   |some s,aa z=>
    if s=0\/z.cells.size≠s\/len*s>2 ^20 then ah else
    match pZ (λi=>aa (i*s,s)) (gI (z.cells.toList.map .raw) (len*s)) (parts.toList.map λ(i,x)=>(i,ρ x))with
    |some cs=>if cs.length=len*s/\cs.all aj then(if len=0 then ret .emp σ else ret (.sl σ.n 0 len (aa len) 0 s) (σ.add (.cells cs 0 0)))else ah
    |none=>ah
   |_,_=>ah
  |_=>ah
 |.load t a=>match ρ a with
  |.ptr id off ep ext=>match aN P t,σ.at id with
   |some s,aa (.cells cs ay mn)=>if s<=ext/\mn<=ep/\ep<=ay then(match partOf P t cs off with|some v=>ret v σ|none=>ah)else ah
   |_,_=>ah
  |.lp cs=>match partOf P t cs 0 with
   |some v=>ret v σ
   |none=>ah
  |_=>ah
 |.store t a x=>match ρ a with
  |.ptr id off ep ext=>match aN P t,σ.at id with
   |some s,aa (.cells cs ay mn)=>
    if ro<=id/\(cellsOf (ρ x)).length=s/\s<=ext/\ep=ay/\off+s<=cs.length/\(cellsOf (ρ x)).all aj then
     ret .undef (σ.put id (.cells (dw cs off (cellsOf (ρ x))) ay ay))else ah
   |_,_=>ah
  |_=>ah
 |.nilCheck x=>match ρ x with
  |.ptr a b c d=>ret (.ptr a b c d) σ
  |.lp cs=>ret (.lp cs) σ
  |.fn (.func f) a b=>ret (.fn (.func f) a b) σ
  |.AA l=>ret (.AA l) σ
  |.di t v=>ret (.di t v) σ
  |_=>ah
 |.binOp op t x y _=>match pf P op t x y (ρ x) (ρ y)with
  |some v=>ret v σ
  |none=>ah
 |.unOp op _ x=>match ρ x with
  |.raw v=>match aS P (Op.unary op v)with
   |some r=>ret (lift r) σ
   |none=>ah
  |_=>ah
 |.convert src dst x=>match ρ x with
  |.raw (.string s)=>match P.underlying src,P.underlying dst with
   |some _,aa .string=>ret (.raw (.string s)) σ
   |_,_=>ah
  |.raw v=>match aS P (convert src dst v)with
   |some r=>ret (lift r) σ
   |none=>ah
  |_=>ah
 |.makeInterface t x=>match P.underlying t with
  |some (.interface _)=>ah
  |some _=>ret (.di t (ρ x)) σ
  |none=>ah
 |.makeFunc fn first cap=>ret (.fn fn (first.toList.map ρ) (cap.toList.map ρ)) σ
 |.makeMap t r=>match r with
  |none=>ret (.map σ.n) (σ.add (.map [] 0))
  |some h=>match P.underlying t,ρ h with
   |some (.map _ _),.raw (.int _ _)=>ret (.map σ.n) (σ.add (.map [] 0))
   |_,_=>ah
 |.makeSlice t l c=>match P.underlying t,ρ l,ρ c with
  |some (.slice elem),.raw (.int _ l),.raw (.int _ c)=>match aN P elem,cw P elem,(P.info? elem).map (·.bytes)with
   |some s,aa z,aa bytes=>
    if s=0\/z.cells.size≠s\/¬(0<=l/\l<=c/\c<=1000000)\/bytes>1000000 then ah else
    if c=0 then ret .emp σ else
    ret (.sl σ.n 0 l.toNat (aa c.toNat) 0 s) (σ.add (.cells (gI (z.cells.toList.map .raw) (c.toNat*s)) 0 0))
   |_,_,_=>ah
  |_,_,_=>ah
 |.slice t x lo hi mx=>match fm P t (ρ x) (lo.map ρ) (hi.map ρ) (mx.map ρ)with
  |some v=>ret v σ
  |none=>ah
 |.fieldAddr s x f=>match P.underlying s with
  |some (.struct fields)=>match fields[f]? with
   |some fd=>match aN P fd.type,ρ x with
    |some sz,.ptr id off ep ext=>if sz≠0/\fd.offset+sz<=ext then ret (.ptr id (off+fd.offset) ep sz) σ else ah
    |some sz,.lp cs=>if sz≠0/\fd.offset+sz<=cs.length then ret (.lp ((cs.drop fd.offset).take sz)) σ else ah
    |_,_=>ah
   |none=>ah
  |_=>ah
 |.field t x f=>match P.underlying t,ρ x with
  |some (.struct fields),.agg cs=>match fields[f]? with
   |some fd=>match partOf P fd.type cs fd.offset with
    |some v=>ret v σ
    |none=>ah
   |none=>ah
  |_,_=>ah
 |.indexAddr t x ix=>match P.underlying t,ρ ix with
  |some (.slice elem),.raw (.int _ i)=>match ρ x with
   |.sl id off len _ ep s=>if aN P elem=aa s/\0<=i/\i<len then ret (.ptr id (off+i.toNat*s) ep s) σ else ah
   |.tree s es=>if aN P elem=aa s/\0<=i then match es[i.toNat]? with
     |some e=>if(cellsOf e).length=s then ret (.lp (cellsOf e)) σ else ah
     |none=>ah
    else ah
   |_=>ah
  |some (.array n elem),.raw (.int _ i)=>match ρ x,aN P elem with
   |.ptr id off ep ext,aa s=>if s≠0/\0<=i/\i<n/\i.toNat*s+s<=ext then ret (.ptr id (off+i.toNat*s) ep s) σ else ah
   |_,_=>ah
  |_,_=>ah
 |.index t x ix=>match P.underlying t,ρ x,ρ ix with
  |some .string,.raw (.string s),.raw (.int _ i)=>if 0<=i then match s.data.toList[i.toNat]? with
    |some b=>ret (.raw (.int .u8 b.toNat)) σ
    |none=>ah
   else ah
  |some (.array n elem),.agg cs,.raw (.int _ i)=>match aN P elem with
   |some s=>if 0<=i/\i<n then(match partOf P elem cs (i.toNat*s)with|some v=>ret v σ|none=>ah)else ah
   |none=>ah
  |_,_,_=>ah
 |.lookup t x ix ok=>match P.underlying t,entriesOf σ (ρ x),iG (ρ ix)with
  |some (.map kt elem),aa es,aa key=>match gT P es.isEmpty kt key es,cw P elem with
   |some (aa i),aa _=>match es[i]? with
    |some e=>ret (if ok then .az [e.2.1,.bool ab]else e.2.1) σ
    |none=>ah
   |some ah,aa z=>ret (if ok then .az [lift z,.bool af]else lift z) σ
   |_,_=>ah
  |_,_,_=>ah
 |.mapUpdate t m k x|.insert t m k x=>match P.underlying t with
  |some (.map kt _)=>match pe P ro kt (ρ m) (ρ k) (ρ x) σ with
   |some ao=>ret .undef ao
   |none=>ah
  |_=>ah
 |.mapEntry t m k=>match P.underlying t with
  |some (.map kt elem)=>match cw P elem,ρ m,iG (ρ k)with
   |some z,.map id,aa key=>match σ.at id with
    |some (.map es clock)=>if¬ro<=id then ah else match gT P af kt key es with
     |some (aa i)=>match es[i]? with
      |some e=>if auJ 10000 e.1 key then ret (.az [e.2.1,.int e.2.2]) (σ.put id (.map (es.set i (key,e.2.1,e.2.2)) clock))else ah
      |none=>ah
     |some ah=>ret (.az [lift z,.int clock]) (σ.put id (.map (es++[(key,lift z,clock)]) (clock+1)))
     |none=>ah
    |_=>ah
   |_,_,_=>ah
  |_=>ah
 |.entryStore _ m st x=>match ρ m,ρ st with
  |.map id,.raw (.int _ born)=>match σ.at id with
   |some (.map es clock)=>if¬ro<=id then ah else match es.findIdx? (λe=>(e.2.2:Int)==born)with
    |some i=>match es[i]? with
     |some e=>ret .undef (σ.put id (.map (es.set i (e.1,ρ x,e.2.2)) clock))
     |none=>ah
    |none=>ah
   |_=>ah
  |_,_=>ah
 |.range t x=>match P.underlying t,ρ x with
  |some .string,.raw (.string s)=>ret (.ptr σ.n 0 0 1) (σ.add (.pY s 0))
  |some (.map _ _),.raw (.map ah)=>ret (.ptr σ.n 0 0 1) (σ.add (.jz ah 0 [] 0))
  |some (.map _ _),.map m=>match σ.at m with
   |some (.map _ clock)=>ret (.ptr σ.n 0 0 1) (σ.add (.jz (aa m) clock [] clock))
   |_=>ah
  |_,_=>ah
 |.next it str=>match ρ it with
  |.ptr r 0 0 1=>if¬ro<=r then ah else match σ.at r,str with
   |some (.pY s pos),ab=>
    if pos<s.size then
     ret (.az [.bool ab,.int pos,.raw (.int .i32 (atS s pos).1)]) (σ.put r (.pY s (pos+(atS s pos).2)))
    else ret (.az [.bool af]) σ
   |some (.jz ah _ _ _),af=>ret (.az [.bool af]) σ
   |some (.jz (aa m) since seen last),af=>match σ.at m with
    |some (.map es clock)=>match es with
     |[]=>ret (.az [.bool af]) σ
     |[e]=>if e.2.2∈seen then(if e.2.2<last then ret (.az [.bool af]) σ else ah)else
      if e.2.2<since/\seen=[]then ret (.az [.bool ab,lift e.1,e.2.1]) (σ.put r (.jz (aa m) since [e.2.2] clock))else ah
     |_=>ah
    |_=>ah
   |_,_=>ah
  |_=>ah
 |.entry it=>match ρ it with
  |.ptr r 0 0 1=>match σ.at r with
   |some (.jz (aa m) _ seen xu)=>match σ.at m,seen.getLast? with
    |some (.map es clock),aa Fh=>if clock=xu then match es.find? (λe=>e.2.2==Fh)with
      |some e=>ret (.az [lift e.1,e.2.1]) σ
      |none=>ah
     else ah
    |_,_=>ah
   |_=>ah
  |_=>ah
 |.extract t i=>match ρ t with
  |.az vs=>match vs[i]? with
   |some v=>ret v σ
   |none=>ah
  |.raw (.tuple vs)=>match vs[i]? with
   |some v=>ret (.raw v) σ
   |none=>ah
  |_=>ah
 |.panic x=>match ρ x with
  |.di t v=>aa (.bY (.di t v))
  |_=>ah
 |.typeAssert x _ asserted ok=>match P.underlying asserted,cw P asserted with
  |some (.interface _),_=>ah
  |some _,aa z=>match ρ x with
   |.di t v=>if asc t asserted then ret (if ok then .az [v,.bool ab]else v) σ else
     if ok then ret (.az [lift z,.bool af]) σ else ah
   |.raw .nilIface=>if ok then ret (.az [lift z,.bool af]) σ else ah
   |_=>ah
  |_,_=>ah
 |.call c=>match c.callee with
  |.builtin b=>dB P ro b c.argTypes (c.args.toList.map ρ) σ
  |.value f=>gu P (ρ f) (c.args.toList.map ρ)
  |.invoke x name=>uy P (ρ x) name (c.args.toList.map ρ)
 |.defer c=>match c.callee with
  |.value f=>match gu P (ρ f) (c.args.toList.map ρ)with
   |some (.enter f args)=>aa (.SP (.call f args))
   |_=>ah
  |_=>ah
 |_=>ah
end ops
inductive Ex where
 |normal
 |exit (id:Nat)
 |goto (l:Nat)
 |ret
 |bY (v:IV)
def Ex.acB:Ex->Bool
 |.bY _=>ab
 |_=>af
def xI:Ex->Option Code
 |.normal=>ah
 |.bY _=>ah
 |.ret=>aa .ret
 |.exit id=>aa (.exit id)
 |.goto t=>aa (.goto t)
structure CR where
 ex:Ex
 e:Env
 df:List Df
 σ:St
structure Self where
 code:(ro:Nat)->(rd:Option Nat)->FuncId->Code->Env->List Df->St->Option CR
 call:(ro:Nat)->FuncId->List IV->St->Option (IV×St)
 bY:(ro:Nat)->FuncId->List IV->St->Option (IV×St)
 wx:(ro:Nat)->FuncId->List IV->Option IV->St->Option (Option IV×St)
section steps
variable(P:Program)(S:Self)
def ax(e:Env):Operand->IV
 |.tmp t=>e.at t
 |.const v=>lift v
 |.global g=>.raw (.pointer (aa ⟨g,0,ah⟩))
 |.func f=>.raw (.func (.func f) #[] #[])
def aO(o:Oper)(ops:Array Oper)(e:Env):Bool:=
 match o.guard with
 |none=>ab
 |some (j,want)=>match((ops[j]?).bind (·.dst))with
  |some d=>if as7 d e.n then(match e.at d with|.raw (.bool b)=>b==want|_=>af)else af
  |none=>af
def AD(ro:Nat)(l:Nat)(args:List IV)(σ:St):Option (IV×St):=
 match σ.at l with
 |some (.loop state pending f tm sQ params assign body mc)=>
  if args.length≠params.length\/¬ro<=l\/state≠.ready then ah else
  let e:Env:=(params.zip args).foldl (λe (p,v)=>e.put (aa p) v) ⟨sQ,tm⟩
  match S.code ro (aa l) f assign e [] σ with
  |some ⟨.normal,e,[],σ⟩=>
   match σ.at l with
   |some (.loop .ready pending f1 tm1 afu params1 SQ acC afv)=>
    match S.code ro (aa l) f body e [] (σ.put l (.loop .busy pending f1 tm1 afu params1 SQ acC afv))with
    |some ⟨ex,_,[],σ⟩=>
     if ex.acB then ah else
     match σ.at l with
     |some (.loop _ _ f tm sQ params assign body mc)=>
      aa (.bool (xI ex).isNone,σ.put l (.loop (if(xI ex).isNone then .ready else .done) (xI ex) f tm sQ params assign body mc))
     |_=>ah
    |_=>ah
   |_=>ah
  |_=>ah
 |_=>ah
def jA(ro:Nat)(e:Env)(o:Oper)(σ:St):Option (IV×St):=
 match av P ro (ax e) o σ with
 |some (.val v σ)=>aa (v,σ)
 |some (.enter f args)=>S.call ro f args σ
 |some (.round l args)=>AD S ro l args σ
 |_=>ah
def yY(ro:Nat)(rd:Option Nat)(ops:Array Oper):List Oper->Env->List Df->St->Option CR
 |[],e,df,σ=>aa ⟨.normal,e,df,σ⟩
 |o::rest,e,df,σ=>
  if aO o ops e then
   match jA P S ro e o σ with
   |some (v,σ)=>yY ro rd ops rest (e.put o.dst v) df σ
   |none=>match av P ro (ax e) o σ with
    |some (.SP d)=>if rd.isNone then yY ro rd ops rest (e.put o.dst .undef) (d::df) σ else ah
    |some (.enter f args)=>match S.bY ro f args σ with
     |some (v,σ)=>aa ⟨.bY v,e,df,σ⟩
     |none=>ah
    |some (.bY v)=>aa ⟨.bY v,e,df,σ⟩
    |_=>ah
  else yY ro rd ops rest (e.put o.dst .undef) df σ
inductive Kind where
 |pure|alloc|load|call|effect
 deriving DecidableEq
def dj(o:Oper):Kind:=
 match o.op with
 |.move _|.assign _|.pick .. |.build .. |.binOp .. |.unOp .. |.convert .. |.makeInterface .. |.makeFunc .. |.slice .. |.fieldAddr .. |.field ..
 |.indexAddr .. |.index .. |.extract .. |.nilCheck _=>.pure
 |.call {callee:=.builtin .cap,.. }|.call {callee:=.builtin .min,.. }|.call {callee:=.builtin .max,.. }=>.pure
 |.alloc .. |.box .. |.buildSlice .. |.makeMap .. |.makeSlice .. =>.alloc
 |.load .. |.lookup .. |.entry _|.call {callee:=.builtin .len,.. }=>.load
 |.call {callee:=.value _,.. }|.call {callee:=.builtin .append,.. }=>.call
 |_=>.effect
def Fi(acc:List Nat)(o:Oper):List Nat:=
 acc++[o.after.toList.foldl (λs e=>if atT .any e then Nat.lor s (Nat.lor (Nat.shiftLeft 1 e.on) (acc.getD e.on 0))else s) 0]
def NT(ops:Array Oper):List Nat:=ops.toList.foldl Fi []
def uz(ops:Array Oper)(o:Oper):List Nat:=
 (o.op.operands.toList.filterMap λ|.tmp t=>aa t|_=>ah)++(match o.guard with|some (j,_)=>(((ops[j]?).bind (·.dst)).toList)|none=>[])
structure dR where
 b_:List Nat
 kinds:List Kind
 ok:Bool
def acD:Kind->Kind->Bool
 |.effect,.effect|.effect,.call|.call,.effect=>ab
 |_,_=>af
def writes(o:Oper)(l:List Nat):Bool:=
 match o.dst with
 |some a=>l.contains a
 |none=>af
def AE(b_:List Nat)(ks:List Kind)(SR:List (List Nat))(p:Oper)(i:Nat)(o:Oper)(j:Nat):Bool:=
 (match p.dst,o.dst with|some a,aa b=> !asc a b|_,_=>ab)&&
 (!(ks.getD i .effect==.load)|| !writes o (SR.getD i []))&&
 (asp (b_.getD j 0) i||(!writes p (SR.getD j [])&& !writes o (SR.getD i [])&& !acD (ks.getD i .effect) (ks.getD j .effect)))
def dx(ops:Array Oper):dR:=
 let l:=ops.toList.zipIdx
 let b_:=NT ops
 let ord (i j:Nat):Bool:=if as7 i j then asp (b_.getD j 0) i else asp (b_.getD i 0) j
 let ks:=l.map λ(o,i)=>match dj o with
  |.call=>if l.all λ(p,j)=>asc i j||(dj p)==.pure||ord i j then Kind.effect else Kind.call
  |k=>k
 let SR:=ops.toList.map (uz ops)
 let ok:=l.all λ(o,j)=>
  (o.after.toList.all λe=> !atT .any e||as7 e.on j)&&
  (!(ks.getD j .effect==.load)|| !writes o (SR.getD j []))&&
  (l.all λ(p,i)=> !as7 i j||AE b_ ks SR p i o j)
 ⟨b_,ks,ok⟩
def NU:IV->IV->Bool
 |.raw (.int j a),.raw (.int k b)=>j==k&&a==b
 |.raw (.bool a),.raw (.bool b)=>a==b
 |.raw (.string a),.raw (.string b)=>a.data.toList==b.data.toList
 |.ptr a b c d,.ptr a' b' c' d'=>asc a a'&&asc b b'&&asc c c'&&asc d d'
 |.map a,.map b=>asc a b
 |.sl a b c d e f,.sl a' b' c' d' e' f'=>asc a a'&&asc b b'&&asc c c'&&(d==d')&&asc e e'&&asc f f'
 |.emp,.emp=>ab
 |_,_=>af
structure Piece where
 j:Nat
 lo:Nat
 hi:Nat
 t:T Ob
def dt(b:T Ob)(p:Piece):T Ob:=
 (List.range' p.lo (p.hi- p.lo)).foldl (λb id=>match p.t.get id with|some o=>b.set id o|none=>b) b
structure DS where
 e:Env
 n:Nat
 bs:List (Nat×T Ob)
 aH:List Piece
def seen(aH:List Piece)(bits:Nat)(b:T Ob):T Ob:=(aH.filter λp=>asp bits p.j).foldl dt b
theorem Xn{u v:IV}(h:NU u v=ab):u=v:=by
 unfold NU at h;split at h
 ·simp only[ar4,beq_iff_eq]at h;rw[h.1,h.2]
 ·simp only[beq_iff_eq]at h;rw[h]
 ·rename_i a b;simp only[beq_iff_eq]at h
  have:a=b:=by
   cases a with|mk x=>cases b with|mk y=>simp only at h;cases x;cases y;simp only at h;rw[h]
  rw[this]
 ·simp only[ar4]at h;rw[asb h.1.1.1,asb h.1.1.2,asb h.1.2,asb h.2]
 ·rw[asb h]
 ·simp only[ar4,beq_iff_eq]at h;obtain⟨⟨⟨⟨⟨h1,h2⟩,h3⟩,h4⟩,h5⟩,h6⟩:=h;rw[asb h1,asb h2,asb h3,h4,asb h5,asb h6]
 ·rfl
 ·cases h
class Sm where
 sm:IV->IV->Bool
 ok:∀u v,sm u v=ab->u=v
abbrev NV:Sm:=⟨NU,λ_ _ h=>Xn h⟩
section draw
variable[Sm]
def loadAt(e:Env)(o:Oper)(n:Nat)(v:IV)(aH:List Piece)(bits:Nat)(b:T Ob):Bool:=
 match av P n (ax e) o ⟨n,seen aH bits b⟩with
 |some (.val u σ)=>asc σ.n n&&Sm.sm u v
 |_=>af
def lT(e:Env)(o:Oper)(n:Nat)(v:IV)(aH:List Piece)(bits:Nat):List (Nat×T Ob)->Bool
 |[]=>ab
 |(i,b)::rest=>loadAt P e o n v aH bits b&&(asp bits i||lT e o n v aH bits rest)
def recheck(pl:dR)(ops:Array Oper)(bits:Nat)(e:Env)(n:Nat)(aH:List Piece)(b:T Ob)(l:List (Oper×Nat)):Bool:=
 l.all λ(o,i)=>match pl.kinds.getD i .effect with
  |.load=>asp bits i|| !aO o ops e||(match o.dst with|some d=>loadAt P e o n (e.at d) aH (pl.b_.getD i 0) b|none=>af)
  |_=>ab
def bQ(pl:dR)(ro:Nat)(ops:Array Oper)(o:Oper)(j:Nat)(d:DS):Option DS:=
 let bits:=pl.b_.getD j 0
 let SU:=ops.toList.zipIdx.take j
 match d.bs with
 |[]=>ah
 |(i,b)::rest=>
  if aO o ops d.e then
   match pl.kinds.getD j .effect with
   |.pure=>match av P 0 (ax d.e) o ⟨0,.lf⟩with
    |some (.val v σ)=>if σ.n=0 then aa {d with e:=d.e.put o.dst v}else ah
    |_=>ah
   |.alloc=>match av P 0 (ax d.e) o ⟨d.n,.lf⟩with
    |some (.val v σ)=>aa {d with e:=d.e.put o.dst v,n:=σ.n,aH:=⟨j,d.n,σ.n,σ.t⟩::d.aH}
    |_=>ah
   |.load=>match av P d.n (ax d.e) o ⟨d.n,seen d.aH bits b⟩with
    |some (.val v σ)=>
     if σ.n=d.n/\(asp bits i||lT P d.e o d.n v d.aH bits rest)=ab then aa {d with e:=d.e.put o.dst v}else ah
    |_=>ah
   |.call=>match jA P S d.n d.e o ⟨d.n,seen d.aH bits b⟩with
    |some (v,σ)=>aa {d with e:=d.e.put o.dst v,n:=σ.n,aH:=⟨j,d.n,σ.n,σ.t⟩::d.aH}
    |none=>ah
   |.effect=>
    match jA P S ro d.e o ⟨d.n,seen d.aH bits b⟩with
    |some (v,σ)=>
     let e:=d.e.put o.dst v
     if recheck P pl ops bits d.e σ.n (d.aH.filter λp=> !asp bits p.j) σ.t SU then
      aa ⟨e,σ.n,(j,σ.t)::d.bs,d.aH.filter λp=> !asp bits p.j⟩
     else ah
    |none=>ah
  else match pl.kinds.getD j .effect with
   |.effect=>if recheck P pl ops bits d.e d.n d.aH b SU then aa ⟨d.e.put o.dst .undef,d.n,(j,b)::d.bs,d.aH⟩else ah
   |_=>aa {d with e:=d.e.put o.dst .undef}
def iW(SF:Nat->Self)(pl:dR)(ro:Nat)(ops:Array Oper):List (Oper×Nat)->DS->Option DS
 |[],d=>aa d
 |(o,j)::rest,d=>match bQ P (SF j) pl ro ops o j d with
  |some d=>iW SF pl ro ops rest d
  |none=>ah
def p4(SF:Nat->Self)(ro:Nat)(ops:Array Oper)(e:Env)(df:List Df)(σ:St):Option CR:=
 let pl:=dx ops
 if pl.ok then
  match iW P SF pl ro ops ops.toList.zipIdx ⟨e,σ.n,[(0,σ.t)],[]⟩with
  |some ⟨e,n,(_,b)::_,aH⟩=>aa ⟨.normal,e,df,⟨n,aH.foldl dt b⟩⟩
  |_=>ah
 else ah
end draw
def NW(ro:Nat)(ops:Array Oper)(e:Env)(df:List Df)(σ:St):Option CR:= @p4 P NV (λ_=>S) ro ops e df σ
def vH(ro:Nat)(rd:Option Nat)(fn:FuncId)(c:Code)(e:Env)(df:List Df)(σ:St):Option CR:=
 match c with
 |.skip|.label _=>aa ⟨.normal,e,df,σ⟩
 |.region _ ops draw=>if draw then NW P S ro ops e df σ else yY P S ro rd ops ops.toList e df σ
 |.seq a b=>match S.code ro rd fn a e df σ with
  |some ⟨.normal,e,df,σ⟩=>S.code ro rd fn b e df σ
  |r=>r
 |.cond c a b=>match ax e c with
  |.raw (.bool t)=>S.code ro rd fn (if t then a else b) e df σ
  |_=>ah
 |.block id a=>match S.code ro rd fn a e df σ with
  |some ⟨.exit bA,e,df,σ⟩=>if bA=id then aa ⟨.normal,e,df,σ⟩else aa ⟨.exit bA,e,df,σ⟩
  |r=>r
 |.loop a=>match S.code ro rd fn a e df σ with
  |some ⟨.normal,e,df,σ⟩=>S.code ro rd fn (.loop a) e df σ
  |r=>r
 |.scope a=>match S.code ro rd fn a e df σ with
  |some ⟨.goto _,_,_,_⟩=>ah
  |r=>r
 |.exit id=>aa ⟨.exit id,e,df,σ⟩
 |.goto l=>aa ⟨.goto l,e,df,σ⟩
 |.ret=>aa ⟨.ret,e,df,σ⟩
 |.rangeFunc g params assign body=>
  let en:Option (Nat×St×List Df):=match rd with
   |none=>aa (σ.n,σ.add (.Gi af),[.Dq σ.n])
   |some l=>match σ.at l with
    |some (.loop _ _ _ _ _ _ _ _ mc)=>aa (mc,σ,[])
    |_=>ah
  match en with
  |some (mc,σ,mark)=>
   let l:=σ.n
   let σ:=σ.add (.loop .ready ah fn e.t e.n params.toList assign body mc)
   match gu P (ax e g) [.AA l]with
   |some (.enter f args)=>match S.call ro f args σ with
    |some (_,σ)=>match σ.at l with
     |some (.loop state pending f tm sQ ps as bd d)=>
      if state=.busy\/¬ro<=l then ah else
      let σ:=σ.put l (.loop .exhausted pending f tm sQ ps as bd d)
      match pending with
      |none=>aa ⟨.normal,e,mark++df,σ⟩
      |some c=>S.code ro rd fn c e (mark++df) σ
     |_=>ah
    |none=>ah
   |_=>ah
  |none=>ah
 |.refuse _=>ah
def fV(ro:Nat):List Df->Option IV->St->Option (Option IV×St)
 |[],m,σ=>aa (m,σ)
 |.Dq id::ds,m,σ=>match σ.at id with
  |some (.Gi af)=>if ro<=id then fV ro ds m (σ.put id (.Gi ab))else ah
  |_=>ah
 |.call f args::ds,m,σ=>match S.wx ro f args m σ with
  |some (m,σ)=>fV ro ds m σ
  |none=>ah
def bJ(fn:Func)(e:Env)(σ:St):Option IV:=
 let one (r:ResultVar):Option IV:=match r with
  |.tmp t=>aa (e.at t)
  |.cell a t=>match e.at a with
   |.ptr id off ep ext=>match aN P t,σ.at id with
    |some s,aa (.cells cs ay mn)=>if s<=ext/\mn<=ep/\ep<=ay then partOf P t cs off else ah
    |_,_=>ah
   |_=>ah
 match fn.results.toList with
 |[r]=>one r
 |l=>match l.mapM one with
  |some vs=>aa (.az vs)
  |none=>ah
def AF(ro:Nat)(f:FuncId)(args:List IV)(σ:St):Option (Func×Env×Option IV×St):=
 match P.funcs[f]? with
 |some fn=>match fn.body with
  |some c=>
   if args.length>fn.ntmps then ah else
   let e:Env:=(args.zipIdx).foldl (λe (v,i)=>e.put (aa i) v) ⟨fn.ntmps,.lf⟩
   match S.code ro ah f c e [] σ with
   |some ⟨.normal,e,df,σ⟩|some ⟨.ret,e,df,σ⟩=>match fV S ro df ah σ with
    |some (m,σ)=>aa (fn,e,m,σ)
    |none=>ah
   |some ⟨.bY v,e,df,σ⟩=>match fV S ro df (aa v) σ with
    |some (m,σ)=>aa (fn,e,m,σ)
    |none=>ah
   |_=>ah
  |none=>ah
 |none=>ah
def NX(ro:Nat)(f:FuncId)(args:List IV)(σ:St):Option (IV×St):=
 match AF P S ro f args σ with
 |some (fn,e,ah,σ)=>match bJ P fn e σ with
  |some v=>aa (v,σ)
  |none=>ah
 |_=>ah
def U8(ro:Nat)(f:FuncId)(args:List IV)(σ:St):Option (IV×St):=
 match AF P S ro f args σ with
 |some (_,_,aa v,σ)=>aa (v,σ)
 |_=>ah
def mU(o:Oper):Bool:=
 match o.op with
 |.call {callee:=.builtin .recover,.. }=>ab
 |_=>af
def nU(ro:Nat)(ops:Array Oper):List Oper->Env->Option IV->St->Option (Env×Option IV×St)
 |[],e,m,σ=>aa (e,m,σ)
 |o::rest,e,m,σ=>
  if aO o ops e then
   if mU o then
    match m with
    |some v=>nU ro ops rest (e.put o.dst v) ah σ
    |none=>nU ro ops rest (e.put o.dst (.raw .nilIface)) ah σ
   else match av P ro (ax e) o σ with
    |some (.val v σ)=>nU ro ops rest (e.put o.dst v) m σ
    |_=>ah
  else nU ro ops rest (e.put o.dst .undef) m σ
def yZ(ro:Nat)(fn:FuncId):Code->Env->Option IV->St->Option (CR×Option IV)
 |.seq a b,e,m,σ=>match yZ ro fn a e m σ with
  |some (⟨.normal,e,[],σ⟩,m)=>yZ ro fn b e m σ
  |some (⟨.normal,_,_,_⟩,_)=>ah
  |r=>r
 |.region id ops draw,e,m,σ=>
  if !draw&&ops.any mU then match nU P ro ops ops.toList e m σ with
   |some (e,m,σ)=>aa (⟨.normal,e,[],σ⟩,m)
   |none=>ah
  else match S.code ro ah fn (.region id ops draw) e [] σ with
   |some r=>aa (r,m)
   |none=>ah
 |c,e,m,σ=>match S.code ro ah fn c e [] σ with
  |some r=>aa (r,m)
  |none=>ah
def Bu(ro:Nat)(f:FuncId)(args:List IV)(m:Option IV)(σ:St):Option (Option IV×St):=
 match P.funcs[f]? with
 |some fn=>
  if !(fn.body.isSome&&fn.name != "runtime.NumGoroutine")then ah else
  match fn.body with
  |some c=>
   if args.length>fn.ntmps then ah else
   let e:Env:=(args.zipIdx).foldl (λe (v,i)=>e.put (aa i) v) ⟨fn.ntmps,.lf⟩
   match yZ P S ro f c e m σ with
   |some (⟨.normal,e,[],σ⟩,m)|some (⟨.ret,e,[],σ⟩,m)=>match bJ P fn e σ with
    |some _=>aa (m,σ)
    |none=>ah
   |_=>ah
  |none=>ah
 |none=>ah
end steps
def Self.none:Self:=⟨λ_ _ _ _ _ _ _=>avp,λ_ _ _ _=>avp,λ_ _ _ _=>avp,λ_ _ _ _ _=>avp⟩
def lB(P:Program)(S:Self):Self:=⟨vH P S,NX P S,U8 P S,Bu P S⟩
def ev(P:Program)(n:Nat):Self:=Nat.rec Self.none (λ_ S=>lB P S) n
end Go.Ev
namespace Go.Ev
namespace T
variable{α:Type}
theorem vI(l:T α)(v:Option α)(r:T α)(i:Nat):(T.nd l v r).get i=if i=0 then v else if i % 2=1 then l.get (i/2)else r.get (i/2- 1):=by
 simp[get,asK]
theorem SV(f:Nat)(l:T α)(v:Option α)(r:T α)(i:Nat)(x:α):qE (f+1) (T.nd l v r) i x=
 if i=0 then .nd l (aa x) r else if i % 2=1 then .nd (qE f l (i/2) x) v r else .nd l v (qE f r (i/2- 1) x):=by
 simp[qE,asK]
theorem SX(f:Nat)(i:Nat)(x:α):qE (f+1) (.lf:T α) i x=qE (f+1) (.nd .lf ah .lf) i x:=by
 simp[qE]
theorem ad6(i:Nat):(T.lf:T α).get i=(T.nd .lf ah .lf:T α).get i:=by
 rw[vI];simp[get]
theorem GZ:∀(f:Nat) (t:T α) (i:Nat) (x:α) (j:Nat),i<f->(qE f t i x).get j=if i=j then aa x else t.get j:=by
 intro f;induction f with
 |zero=>intro t i x j h;omega
 |succ f ih=>
  intro t i x j h
  have key:∀(l:T α) (v:Option α) (r:T α),(qE (f+1) (.nd l v r) i x).get j=if i=j then aa x else(T.nd l v r).get j:=by
   intro l v r;rw[SV,vI];by_cases hi:i=0
   ·subst hi;rw[if_pos rfl,vI];by_cases hj:j=0
    ·subst hj;simp
    ·have:¬0=j:=λh=>hj h.symm;simp[hj,this]
   ·rw[if_neg hi];by_cases ho:i % 2=1
    ·rw[if_pos ho,vI];by_cases hj:j=0
     ·subst hj;simp[hi]
     ·by_cases me:j % 2=1
      ·simp only[hj,me,if_false,if_true];rw[ih _ _ _ _ (by omega)];by_cases e:i=j
       ·simp[e]
       ·have:i/2≠j/2:=by omega
        simp[e,this]
      ·have:i≠j:=by omega
       simp[hj,me,this]
    ·rw[if_neg ho,vI];by_cases hj:j=0
     ·subst hj;simp[hi]
     ·by_cases me:j % 2=1
      ·have:i≠j:=by omega
       simp[hj,me,this]
      ·simp only[hj,me,if_false];rw[ih _ _ _ _ (by omega)];by_cases e:i=j
       ·simp[e]
       ·have:i/2- 1≠j/2- 1:=by omega
        simp[e,this]
  cases t with
  |lf=>rw[SX,key,ad6]
  |nd l v r=>exact key l v r
theorem fW(t:T α)(i:Nat)(x:α)(j:Nat):(t.set i x).get j=if i=j then aa x else t.get j:=GZ _ _ _ _ _ (by omega)
@[simp] theorem aq3(j:Nat):(T.lf:T α).get j=ah:=rfl
end T
theorem eQ{α:Type}{P:Program}(w:World):∀(s:Sem α) {a:α},aS P s=aa a->s.run P w=.ok a w
 |.pure _,_,h=>by simp only[aS,ar6]at h;subst h;rfl
 |.program k,_,h=>by simp only[aS]at h;simp only[Sem.run];exact eQ w (k P) h
 |.mark m k,_,h=>by simp only[aS]at h;simp only[Sem.run];exact eQ w k h
 |.load ..,_,h|.store ..,_,h|.new ..,_,h|.shape ..,_,h|.freeze ..,_,h|.frozen ..,_,h|.getObj ..,_,h|.setObj ..,_,h|.choose ..,_,h|.sys ..,_,h|.halt ..,_,h=>by cases h
structure Loc where
 b:Nat
 n:Nat
 lim:Nat
abbrev Fz:=Nat->Option (Array Value)
structure Io where
 f:Nat->Nat->Option Loc
 m:Fz
instance:CoeFun Io (λ_=>Nat->Nat->Option Loc):=⟨Io.f⟩
structure Ext(ι aG:Io):Prop where
 f:∀id e l,ι id e=aa l->aG id e=aa l
 m:∀b c,ι.m b=aa c->aG.m b=aa c
instance{ι aG:Io}:CoeFun (Ext ι aG) (λ_=>∀id e l,ι id e=aa l->aG id e=aa l):=⟨Ext.f⟩
theorem Ext.refl(ι:Io):Ext ι ι:=⟨λ_ _ _ h=>h,λ_ _ h=>h⟩
theorem Ext.trans{ι cm oD:Io}(h:Ext ι cm)(k:Ext cm oD):Ext ι oD:=⟨λ_ _ _ x=>k.f _ _ _ (h.f _ _ _ x),λ_ _ x=>k.m _ _ (h.m _ _ x)⟩
def oE(M:Fz)(b off:Nat):Option Value:=(M b).bind (·[off]?)
theorem Bv{M M':Fz}(h:∀b c,M b=aa c->M' b=aa c){b off:Nat}{v:Value}(hc:oE M b off=aa v):oE M' b off=aa v:=by
 unfold oE at hc⊢;cases hb:M b with
 |none=>rw[hb]at hc;cases hc
 |some c=>rw[hb]at hc;rw[h b c hb];exact hc
inductive Rv(ι:Io):IV->Value->Prop
 |raw (v:Value):Rv ι (.raw v) v
 |agg (cs:List IV) (vs:List Value) (hl:cs.length=vs.length) (h:∀(i:Nat) (c:IV) (v:Value),cs[i]?=aa c->vs[i]?=aa v->Rv ι c v):Rv ι (.agg cs) (.agg vs.toArray)
 |az (cs:List IV) (vs:List Value) (hl:cs.length=vs.length) (h:∀(i:Nat) (c:IV) (v:Value),cs[i]?=aa c->vs[i]?=aa v->Rv ι c v):Rv ι (.az cs) (.tuple vs.toArray)
 |ptr (id off ep ext:Nat) (l:Loc) (hl:ι id ep=aa l) (hx:off+ext<=l.n/\off+ext<=l.lim):Rv ι (.ptr id off ep ext) (.pointer (aa ⟨l.b,off,ah⟩))
 |sl (id off len:Nat) (cap:Option Nat) (ep s:Nat) (l:Loc) (c:Nat) (a:Addr) (hl:ι id ep=aa l) (hn:off+len*s<=l.n) (gU:off+c*s<=l.lim) (hs:0<s) (hle:len<=c)
   (fB:∀k,cap=aa k->c=k/\off+c*s<=l.n) (ha:0<c->a=⟨l.b,off,ah⟩):Rv ι (.sl id off len cap ep s) (.slice (aa a) len c)
 |emp (a:Addr):Rv ι .emp (.slice (aa a) 0 0)
 |map (id:Nat) (l:Loc) (hl:ι id 0=aa l):Rv ι (.map id) (.map (aa l.b))
 |fn (f:Fn) (as bs:List IV) (cs ds:List Value) (hl:as.length=cs.length) (h:∀(i:Nat) (c:IV) (v:Value),as[i]?=aa c->cs[i]?=aa v->Rv ι c v)
   (eR:bs.length=ds.length) (h2:∀(i:Nat) (c:IV) (v:Value),bs[i]?=aa c->ds[i]?=aa v->Rv ι c v):Rv ι (.fn f as bs) (.func f cs.toArray ds.toArray)
 |AA (id:Nat) (l:Loc) (hl:ι id 0=aa l):Rv ι (.AA id) (.func (.yield l.b) #[] #[])
 |di (t:TypeId) (x:IV) (v:Value) (h:Rv ι x v):Rv ι (.di t x) (.iface t v)
 |tree (s:Nat) (es:List IV) (b off c:Nat) (us:Nat->Value) (hs:0<s) (hc:es.length<=c) (bH:∀e∈es,(cellsOf e).length=s)
   (hu:∀k,k<es.length*s->oE ι.m b (off+k)=aa (us k)) (h:∀(i:Nat) (e:IV) (j:Nat) (c:IV),es[i]?=aa e->(cellsOf e)[j]?=aa c->Rv ι c (us (i*s+j))):
   Rv ι (.tree s es) (.slice (aa ⟨b,off,ah⟩) es.length c)
 |dS (s:Nat) (a:Option Addr) (c:Nat) (hs:0<s) (hn:a=ah->c=0):Rv ι (.tree s []) (.slice a 0 c)
 |lp (cs:List IV) (b off:Nat) (us:Nat->Value) (hu:∀k,k<cs.length->oE ι.m b (off+k)=aa (us k)) (h:∀(j:Nat) (c:IV),cs[j]?=aa c->Rv ι c (us j)):
   Rv ι (.lp cs) (.pointer (aa ⟨b,off,ah⟩))
theorem Rv.mono{ι aG:Io}(gR:Ext ι aG){x:IV}{v:Value}(h:Rv ι x v):Rv aG x v:=by
 induction h with
 |raw v=>exact .raw v
 |agg cs vs hl _ ih=>exact .agg cs vs hl ih
 |az cs vs hl _ ih=>exact .az cs vs hl ih
 |ptr id off ep ext l hl hx=>exact .ptr id off ep ext l (gR _ _ _ hl) hx
 |sl id off len cap ep s l c a hl hn gU hs hle fB ha=>exact .sl id off len cap ep s l c a (gR _ _ _ hl) hn gU hs hle fB ha
 |emp a=>exact .emp a
 |map id l hl=>exact .map id l (gR _ _ _ hl)
 |fn f as bs cs ds hl _ eR _ ih eN=>exact .fn f as bs cs ds hl ih eR eN
 |AA id l hl=>exact .AA id l (gR _ _ _ hl)
 |di t x v _ ih=>exact .di t x v ih
 |tree s es b off c us hs hc bH hu _ ih=>exact .tree s es b off c us hs hc bH (λk hk=>Bv gR.m (hu k hk)) ih
 |dS s a c hs hn=>exact .dS s a c hs hn
 |lp cs b off us hu _ ih=>exact .lp cs b off us (λk hk=>Bv gR.m (hu k hk)) ih
def aC(ι:Io)(cs:List IV)(vs:List Value):Prop:=cs.length=vs.length/\∀(i:Nat) (c:IV) (v:Value),cs[i]?=aa c->vs[i]?=aa v->Rv ι c v
section lists
variable{ι:Io}
theorem aC.mono{aG:Io}(gR:Ext ι aG){cs:List IV}{vs:List Value}(h:aC ι cs vs):aC aG cs vs:=
 ⟨h.1,λi c v h1 h2=>(h.2 i c v h1 h2).mono gR⟩
theorem aC.nil:aC ι [] []:=⟨rfl,λi c v h _=>by simp at h⟩
theorem aC.cons{c:IV}{v:Value}{cs:List IV}{vs:List Value}(h:Rv ι c v)(hs:aC ι cs vs):aC ι (c::cs) (v::vs):=by
 refine⟨by simp[hs.1],λi=>?_⟩;cases i with
 |zero=>intro c' v' h1 h2;simp at h1 h2;subst h1 h2;exact h
 |succ i=>intro c' v' h1 h2;simp at h1 h2;exact hs.2 i c' v' h1 h2
theorem aC.sS{c:IV}{cs:List IV}{vs:List Value}(h:aC ι (c::cs) vs):∃v wy,vs=v::wy/\Rv ι c v/\aC ι cs wy:=by
 cases vs with
 |nil=>simp[aC]at h
 |cons v wy=>exact⟨v,wy,rfl,h.2 0 c v rfl rfl,by simpa[aC]using h.1,λi c' v' h1 h2=>h.2 (i+1) c' v' h1 h2⟩
theorem aC.of_nil{vs:List Value}(h:aC ι [] vs):vs=[]:=List.eq_nil_of_length_eq_zero h.1.symm
theorem aC.append{cs ds:List IV}{vs us:List Value}(h:aC ι cs vs)(k:aC ι ds us):aC ι (cs++ds) (vs++us):=by
 refine⟨by simp[h.1,k.1],λi c v h1 h2=>?_⟩;by_cases hi:i<cs.length
 ·rw[asd hi]at h1;rw[asd (h.1▸hi)]at h2;exact h.2 i c v h1 h2
 ·rw[asz (by omega)]at h1;rw[asz (by have:=h.1;omega),<-h.1]at h2;exact k.2 _ c v h1 h2
theorem aC.drop(n:Nat){cs:List IV}{vs:List Value}(h:aC ι cs vs):aC ι (cs.drop n) (vs.drop n):=
 ⟨by simp[h.1],λi c v h1 h2=>h.2 (n+i) c v (by simpa using h1) (by simpa using h2)⟩
theorem aC.take(n:Nat){cs:List IV}{vs:List Value}(h:aC ι cs vs):aC ι (cs.take n) (vs.take n):=by
 refine⟨by simp[h.1],λi c v h1 h2=>?_⟩;rw[asD]at h1 h2;split at h1
 ·rename_i hi;rw[if_pos hi]at h2;exact h.2 i c v h1 h2
 ·cases h1
theorem aC.dw(off:Nat){cs ds:List IV}{vs us:List Value}(h:aC ι cs vs)(k:aC ι ds us):aC ι (dw cs off ds) (vs.take off++us++vs.drop (off+us.length)):=by
 unfold Ev.dw;rw[k.1];exact((h.take off).append k).append (h.drop _)
theorem aC.get{cs:List IV}{vs:List Value}(h:aC ι cs vs){i:Nat}{c:IV}(hc:cs[i]?=aa c):∃v,vs[i]?=aa v/\Rv ι c v:=by
 have hi:i<vs.length:=by have:=(List.getElem?_eq_some_iff.1 hc).1;have:=h.1;omega
 exact⟨vs[i],ar2 hi,h.2 i c _ hc (ar2 hi)⟩
theorem aC.sU(vs:List Value):aC ι (vs.map .raw) vs:=by
 refine⟨by simp,λi c v h1 h2=>?_⟩;simp only[asi,h2,Option.map_some,ar6]at h1;subst h1;exact .raw v
theorem aC.of_map{α:Type}{f:α->IV}{g:α->Value}{l:List α}(h:∀a∈l,Rv ι (f a) (g a)):aC ι (l.map f) (l.map g):=by
 refine⟨by simp,λi c v h1 h2=>?_⟩;simp only[asi,Option.map_eq_some_iff]at h1 h2;obtain⟨a,ha,rfl⟩:=h1;obtain⟨b,hb,rfl⟩:=h2;rw[ha]at hb;cases hb;exact h a (List.mem_of_getElem? ha)
end lists
section shapes
variable{ι:Io}
theorem Rv.lift(v:Value):Rv ι (Ev.lift v) v:=by
 unfold Ev.lift;split
 ·rename_i cs;have:=Rv.agg (ι:=ι) (cs.toList.map .raw) cs.toList (by simp) (aC.sU cs.toList).2;simpa using this
 ·exact .raw _
theorem uW:∀{cs:List IV} {us:List Value},gl cs=aa us->∀{vs:List Value},aC ι cs vs->vs=us
 |[],us,h,vs,hr=>by simp only[gl,ar6]at h;subst h;exact hr.of_nil
 |c::cs,us,h,vs,hr=>by
  obtain⟨v,wy,rfl,h1,h2⟩:=hr.sS;simp only[gl]at h;split at h
  ·split at h
   ·rename_i u ph hu;simp only[ar6]at h;subst h;cases h1;rw[uW hu h2]
   ·cases h
  ·cases h
theorem Lm{x:IV}{u v:Value}(h:pd x=aa u)(hr:Rv ι x v):v=u:=by
 unfold pd at h;split at h
 ·cases hr;simpa using h
 ·split at h
  ·rename_i us hu;cases hr with
   |agg cs vs hl hh=>
    simp only[ar6]at h;subst h;rw[uW hu ⟨hl,hh⟩]
  ·cases h
 ·cases h
theorem uA{x:IV}{u v:Value}(h:iG x=aa u)(hr:Rv ι x v):v=u:=by
 unfold iG at h;split at h
 ·split at h
  ·rename_i hu;cases hr with
   |di t x v hh=>
    simp only[ar6]at h;subst h;rw[Lm hu hh]
  ·cases h
 ·exact Lm h hr
theorem Rv.cells{x:IV}{v:Value}(h:Rv ι x v)(hx:∀u,x=.raw u->∀c,u≠.agg c):aC ι (cellsOf x) v.cells.toList:=by
 cases h with
 |agg cs vs hl hh=>exact⟨hl,hh⟩
 |raw v=>
  have:v.cells= #[v]:=by
   cases v<;>first|rfl|exact absurd rfl (hx _ rfl _)
  simp only[cellsOf,this];exact aC.cons (.raw v) aC.nil
 |az cs vs hl hh=>exact aC.cons (.az cs vs hl hh) aC.nil
 |ptr id off ep ext l hl il=>exact aC.cons (.ptr id off ep ext l hl il) aC.nil
 |sl id off len cap ep s l c a hl hn gU hs hle fB ha=>exact aC.cons (.sl id off len cap ep s l c a hl hn gU hs hle fB ha) aC.nil
 |emp a=>exact aC.cons (.emp a) aC.nil
 |map id l hl=>exact aC.cons (.map id l hl) aC.nil
 |fn f as bs cs ds hl h1 eR h2=>exact aC.cons (.fn f as bs cs ds hl h1 eR h2) aC.nil
 |AA id l hl=>exact aC.cons (.AA id l hl) aC.nil
 |di t x v h=>exact aC.cons (.di t x v h) aC.nil
 |tree s es b off c us hs hc bH hu h=>exact aC.cons (.tree s es b off c us hs hc bH hu h) aC.nil
 |dS s a c hs hn=>exact aC.cons (.dS s a c hs hn) aC.nil
 |lp cs b off us hu h=>exact aC.cons (.lp cs b off us hu h) aC.nil
theorem Rv.Bw{x:IV}{v:Value}(h:Rv ι x v)(hx:(cellsOf x).all aj=ab):aC ι (cellsOf x) v.cells.toList:=by
 refine h.cells λu hu c hc=>?_;subst hu hc;simp[cellsOf,aj]at hx
theorem Xo{x:IV}{v:Value}(h:Rv ι x v)(hx:aj x=ab):(∀c,v≠.agg c)/\(∀c,v≠.tuple c):=by
 cases h<;>first|(simp[aj]at hx;done)|(constructor<;>(intro c hc;first|(cases hc;done)|(subst hc;simp[aj]at hx;done)))
end shapes
end Go.Ev
namespace Go.Ev
def Own(ι:Io)(id b:Nat):Prop:=∃e l,ι id e=aa l/\l.b=b
def gw(ι:Io)(es:List (Value×IV×Nat))(res:Array MapEntry):Prop:=
 es.length=res.size/\∀(i:Nat) (e:Value×IV×Nat) (r:MapEntry),es[i]?=aa e->res[i]?=aa r->r.key=e.1/\Rv ι e.2.1 r.val/\r.born=e.2.2
def kH(ι:Io)(w:World)(id:Nat):Ob->Prop
 |.cells cs ep mn=>(mn<=ep/\∀e,ep<e->ι id e=ah)/\(∃l,ι id ep=aa l/\l.n=cs.length)/\∀e,mn<=e->e<=ep->∃l c el,ι id e=aa l/\l.n<=cs.length/\w.heap[l.b]?=aa (.cells c el (0,0))/\
   l.lim=c.size/\∀k x,k<l.n->cs[k]?=aa x->∃u,c[k]?=aa u/\Rv ι x u
 |.map es clock=>∃l res,ι id 0=aa l/\w.heap[l.b]?=aa (.map res clock)/\gw ι es res
 |.pY s pos=>∃l,ι id 0=aa l/\w.heap[l.b]?=aa (.stringIter s pos)
 |.jz m since seen xu=>∃l mr,ι id 0=aa l/\w.heap[l.b]?=aa (.mapIter mr since seen.toArray xu)/\
   (match m with|none=>mr=ah|some m=>∃lm,ι m 0=aa lm/\mr=aa lm.b)
 |.loop st Af _ tm sQ ps nV bd mc=>∃l ld ts f,ι id 0=aa l/\ι mc 0=aa ld/\
   w.heap[l.b]?=aa (.loop {state:=st,pending:=Af,fn:=f,tmps:=ts,params:=ps.toArray,assign:=nV,body:=bd,defers:=ld.b})/\
   ts.size=sQ/\∀t,Rv ι ((tm.get t).getD .undef) (ts.getD t asQ)
 |.Gi taken=>∃l,ι id 0=aa l/\w.heap[l.b]?=aa (.deferred (if taken then ah else aa []))
structure Inv(N:Nat)(ι:Io)(σ:St)(w:World):Prop where
 mem:∀b c,ι.m b=aa c->∃e f,w.heap[b]?=aa (.cells c e f)
 sep:∀b c id,ι.m b=aa c->¬Own ι id b
 iO:∀id b,Own ι id b->b<w.heap.size
 fresh:∀id,σ.n<=id->id<N->∀e,ι id e=ah
 inj:∀i j b,Own ι i b->Own ι j b->i=j
 obj:∀id o,σ.at id=aa o->kH ι w id o
 wf:∀id,σ.n<=id->σ.at id=ah
structure Le(ro:Nat)(ι:Io)(w:World)(σ:St)(aG:Io)(w':World)(ao:St):Prop where
 ext:Ext ι aG
 own:∀id b,Own aG id b->Own ι id b\/w.heap.size<=b
 AG:∀id,σ.at id=ah->(id<σ.n\/ao.n<=id)->∀e,aG id e=ι id e
 dead:∀id,σ.at id=ah->(id<σ.n\/ao.n<=id)->ao.at id=ah
 wg:∀id,id<ro->id<σ.n->ao.at id=σ.at id
 Ag:σ.n<=ao.n
 os:w'.os=w.os
 tape:w'.tape=w.tape
 output:w'.output=w.output
 size:w.heap.size<=w'.heap.size
 frame:∀b,b<w.heap.size->(∀id,Own ι id b->id<ro\/σ.at id=ah)->w'.heap[b]?=w.heap[b]?
 xJ:∀b c,aG.m b=aa c->ι.m b=aa c\/w.heap.size<=b
theorem Le.refl(ro:Nat)(ι:Io)(w:World)(σ:St):Le ro ι w σ ι w σ:=
 ⟨Ext.refl _,λ_ _ h=>.inl h,λ_ _ _ _=>rfl,λ_ h _=>h,λ_ _ _=>rfl,ar8 _,rfl,rfl,rfl,ar8 _,λ_ _ _=>rfl,λ_ _ h=>.inl h⟩
theorem Le.trans{ro:Nat}{ι cm oD:Io}{w w1 w2:World}{σ aq dm:St}(hf:∀id,σ.n<=id->id<aq.n->∀e,ι id e=ah)
 (h:Le ro ι w σ cm w1 aq)(k:Le ro cm w1 aq oD w2 dm):Le ro ι w σ oD w2 dm where
 ext:=h.ext.trans k.ext
 own:=λid b hb=>(k.own id b hb).elim (λhb=>h.own id b hb) (λhb=>.inr (asq h.size hb))
 AG:=λid hn hr e=>(k.AG id (h.dead id hn (by have:=k.Ag;omega)) (by have:=h.Ag;omega) e).trans (h.AG id hn (by have:=k.Ag;omega) e)
 dead:=λid hn hr=>k.dead id (h.dead id hn (by have:=k.Ag;omega)) (by have:=h.Ag;omega)
 wg:=λid hr hn=>(k.wg id hr (by have:=h.Ag;omega)).trans (h.wg id hr hn)
 Ag:=asq h.Ag k.Ag
 os:=k.os.trans h.os
 tape:=k.tape.trans h.tape
 output:=k.output.trans h.output
 size:=asq h.size k.size
 frame:=λb hb hc=>by
  rw[k.frame b (aut hb h.size) ?_,h.frame b hb hc];intro id hid;rcases h.own id b hid with ho|ho
  ·rcases hc id ho with ai|hd
   ·exact .inl ai
   ·right;refine h.dead id hd ?_;by_cases hn:id<σ.n
    ·exact .inl hn
    ·by_cases dJ:id<aq.n
     ·obtain⟨e,l,hl,_⟩:=ho;rw[hf id (by omega) dJ e]at hl;cases hl
     ·exact .inr (by omega)
  ·omega
 xJ:=λb c hb=>(k.xJ b c hb).elim (λhb=>h.xJ b c hb) (λhb=>.inr (asq h.size hb))
theorem gw.mono{ι aG:Io}(gR:Ext ι aG){es:List (Value×IV×Nat)}{res:Array MapEntry}(h:gw ι es res):gw aG es res:=
 ⟨h.1,λi e r h1 h2=>let⟨a,b,c⟩:=h.2 i e r h1 h2;⟨a,b.mono gR,c⟩⟩
theorem kH.keep{ι aG:Io}{w w':World}{id:Nat}(gR:Ext ι aG)(hid:∀e,aG id e=ι id e)(hb:∀b,Own ι id b->w'.heap[b]?=w.heap[b]?):
 ∀{o:Ob},kH ι w id o->kH aG w' id o
 |.cells cs ep mn,h=>by
  obtain⟨h1,⟨l,hl,hn⟩,h3⟩:=h;refine⟨⟨h1.1,λe he=>(hid e).trans (h1.2 e he)⟩,⟨l,gR _ _ _ hl,hn⟩,λe he gV=>?_⟩;obtain⟨l,c,el,hl,hn,hc,gU,hk⟩:=h3 e he gV;refine⟨l,c,el,gR _ _ _ hl,hn,by rw[hb _ ⟨e,l,hl,rfl⟩];exact hc,gU,λk x hkn hx=>?_⟩;obtain⟨u,hu,hr⟩:=hk k x hkn hx;exact⟨u,hu,hr.mono gR⟩
 |.map es clock,h=>by
  obtain⟨l,res,hl,hh,he⟩:=h;exact⟨l,res,gR _ _ _ hl,by rw[hb _ ⟨0,l,hl,rfl⟩];exact hh,he.mono gR⟩
 |.pY s pos,h=>by
  obtain⟨l,hl,hh⟩:=h;exact⟨l,gR _ _ _ hl,by rw[hb _ ⟨0,l,hl,rfl⟩];exact hh⟩
 |.jz m since seen xu,h=>by
  obtain⟨l,mr,hl,hh,hm⟩:=h;refine⟨l,mr,gR _ _ _ hl,by rw[hb _ ⟨0,l,hl,rfl⟩];exact hh,?_⟩;cases m with
  |none=>exact hm
  |some m=>obtain⟨lm,h1,h2⟩:=hm;exact⟨lm,gR _ _ _ h1,h2⟩
 |.loop st Af f tm sQ ps nV bd mc,h=>by
  obtain⟨l,ld,ts,f,hl,hd,hh,hs,ht⟩:=h;exact⟨l,ld,ts,f,gR _ _ _ hl,gR _ _ _ hd,by rw[hb _ ⟨0,l,hl,rfl⟩];exact hh,hs,λt=>(ht t).mono gR⟩
 |.Gi taken,h=>by
  obtain⟨l,hl,hh⟩:=h;exact⟨l,gR _ _ _ hl,by rw[hb _ ⟨0,l,hl,rfl⟩];exact hh⟩
@[simp] theorem St.cV(σ:St)(id:Nat)(o:Ob)(j:Nat):(σ.put id o).at j=if id=j then aa o else σ.at j:=by simp[St.at,St.put,T.fW]
@[simp] theorem St.gW(σ:St)(o:Ob)(j:Nat):(σ.add o).at j=if σ.n=j then aa o else σ.at j:=by simp[St.at,St.add,T.fW]
@[simp] theorem St.nu(σ:St)(id:Nat)(o:Ob):(σ.put id o).n=σ.n:=rfl
@[simp] theorem St.kY(σ:St)(o:Ob):(σ.add o).n=σ.n+1:=rfl
theorem Inv.change{N:Nat}{ι aG:Io}{σ ao:St}{w w':World}{qU:Nat}{eK:Ob}(h:Inv N ι σ w)
 (gR:Ext ι aG)(rP:∀i,i≠qU->∀e,aG i e=ι i e)(lq:∀id b,Own aG id b->Own ι id b\/(id=qU/\w.heap.size<=b))
 (U9:∀b,Own aG qU b->b<w'.heap.size)(aT:w.heap.size<=w'.heap.size)
 (G0:∀b,b<w.heap.size->¬Own ι qU b->w'.heap[b]?=w.heap[b]?)(dz:kH aG w' qU eK)
 (aE:∀j,ao.at j=if qU=j then aa eK else σ.at j)(hn:σ.n<=ao.n/\qU<ao.n)(uj:∀id,ao.n<=id->id<N->∀e,aG id e=ah)(hm:aG.m=ι.m:=by rfl):Inv N aG ao w' where
 mem:=λb c hb=>by
  rw[hm]at hb;obtain⟨e,f,hh⟩:=h.mem b c hb
  have ai:b<w.heap.size:=by
   rcases avG b w.heap.size with ai|sV
   ·exact ai
   ·rw[atW sV]at hh;cases hh
  exact⟨e,f,by rw[G0 b ai (h.sep b c qU hb)];exact hh⟩
 sep:=λb c id hb ho=>by
  rw[hm]at hb;rcases lq id b ho with ho|⟨_,ho⟩
  ·exact h.sep b c id hb ho
  ·obtain⟨e,f,hh⟩:=h.mem b c hb;rw[atW ho]at hh;cases hh
 iO:=λid b ho=>by
  rcases lq id b ho with ho'|⟨rfl,_⟩
  ·exact aut (h.iO id b ho') aT
  ·exact U9 b ho
 fresh:=uj
 inj:=λi j b hi hj=>by
  rcases lq i b hi with cW|⟨rfl,cW⟩<;>rcases lq j b hj with fO|⟨rfl,fO⟩
  ·exact h.inj i j b cW fO
  ·exact absurd (h.iO i b cW) (by omega)
  ·exact absurd (h.iO j b fO) (by omega)
  ·rfl
 obj:=λid o ho=>by
  rw[aE]at ho;split at ho
  ·rename_i e;subst e;cases ho;exact dz
  ·rename_i aZ;refine(h.obj id o ho).keep gR (rP id (Ne.symm aZ)) λb hb=>?_;refine G0 b (h.iO id b hb) λDr=>aZ (h.inj qU id b Dr hb)
 wf:=λid hid=>by
  rw[aE,if_neg (by omega)];exact h.wf id (by omega)
theorem Inv.same{N:Nat}{ι:Io}{σ:St}{w w':World}(h:Inv N ι σ w)(hh:w'.heap=w.heap):Inv N ι σ w' where
 mem:=λb c hb=>by rw[hh];exact h.mem b c hb
 sep:=h.sep
 iO:=λid b ho=>by rw[hh];exact h.iO id b ho
 fresh:=h.fresh
 inj:=h.inj
 obj:=λid o ho=>(h.obj id o ho).keep (Ext.refl _) (λ_=>rfl) λb _=>by rw[hh]
 wf:=h.wf
theorem Le.same{ro:Nat}{ι:Io}{σ:St}{w w':World}(hh:w'.heap=w.heap)(ho:w'.os=w.os)(ht:w'.tape=w.tape)(hp:w'.output=w.output):Le ro ι w σ ι w' σ:=
 ⟨Ext.refl _,λ_ _ h=>.inl h,λ_ _ _ _=>rfl,λ_ h _=>h,λ_ _ _=>rfl,ar8 _,ho,ht,hp,by rw[hh];exact ar8 _,λ_ _ _=>by rw[hh],λ_ _ h=>.inl h⟩
def dM(ι:Io)(id ep:Nat)(l:Loc):Io:=⟨λi e=>if i=id/\e=ep then aa l else ι i e,ι.m⟩
theorem cd(ι:Io)(id ep:Nat)(l:Loc):dM ι id ep l id ep=aa l:=by simp[dM]
theorem kI{ι:Io}{id ep:Nat}{l:Loc}(h:ι id ep=ah):Ext ι (dM ι id ep l):=by
 refine⟨?_,λ_ _ h=>h⟩;intro i e l' hl;show(if i=id/\e=ep then aa l else ι i e)=aa l';split
 ·rename_i hh;rw[hh.1,hh.2,h]at hl;cases hl
 ·exact hl
theorem lU{ι:Io}{id ep:Nat}{l:Loc}{i b:Nat}(h:Own (dM ι id ep l) i b):Own ι i b\/(i=id/\b=l.b):=by
 obtain⟨e,l',hl,hb⟩:=h;change(if i=id/\e=ep then aa l else ι i e)=aa l' at hl;split at hl
 ·rename_i hh;cases hl;exact .inr ⟨hh.1,hb.symm⟩
 ·exact .inl ⟨e,l',hl,hb⟩
theorem Inv.add{N ro:Nat}{ι:Io}{σ:St}{w w':World}{o:Go.Obj}{ob:Ob}{l:Loc}(h:Inv N ι σ w)(hN:σ.n<N)(hw:w'.heap=w.heap.push o)
 (vJ:w'.os=w.os)(xK:w'.tape=w.tape)(xL:w'.output=w.output)(hl:l.b=w.heap.size)(dz:kH (dM ι σ.n 0 l) w' σ.n ob):
 Inv N (dM ι σ.n 0 l) (σ.add ob) w'/\Le ro ι w σ (dM ι σ.n 0 l) w' (σ.add ob):=by
 have j_:=h.fresh σ.n (ar8 _) hN;have aT:w'.heap.size=w.heap.size+1:=by rw[hw];simp
 have hold:∀b,b<w.heap.size->w'.heap[b]?=w.heap[b]? :=λb hb=>by rw[hw,awg,if_neg (by omega)]
 refine⟨h.change (qU:=σ.n) (kI (j_ 0)) (λi hi e=>by simp[dM,hi]) ?_ ?_ (by omega) (λb hb _=>hold b hb) dz (λj=>by simp) ⟨by simp,by simp⟩ ?_,?_⟩
 ·intro id b hb;rcases lU hb with hb|⟨h1,h2⟩
  ·exact .inl hb
  ·exact .inr ⟨h1,by omega⟩
 ·intro b hb;rcases lU hb with hb|⟨h1,h2⟩
  ·have:=h.iO _ _ hb;omega
  ·omega
 ·intro id hid ai e;simp only[St.kY]at hid;have:id≠σ.n:=by omega
  simp[dM,this,h.fresh id (by omega) ai e]
 ·refine⟨kI (j_ 0),?_,?_,?_,?_,by simp,vJ,xK,xL,by omega,λb hb _=>hold b hb,λ_ _ h=>.inl h⟩
  ·intro id b hb;rcases lU hb with hb|⟨h1,h2⟩
   ·exact .inl hb
   ·exact .inr (by omega)
  ·intro id hn hr e;simp only[St.kY]at hr;have:id≠σ.n:=by omega
   simp[dM,this]
  ·intro id hn hr;simp only[St.kY]at hr;have:σ.n≠id:=by omega
   simp[this,hn]
  ·intro id hr hn;have:σ.n≠id:=by omega
   simp[this]
theorem Inv.push{N ro:Nat}{ι:Io}{σ:St}{w w':World}{o:Go.Obj}(h:Inv N ι σ w)(hw:w'.heap=w.heap.push o)
 (vJ:w'.os=w.os)(xK:w'.tape=w.tape)(xL:w'.output=w.output):Inv N ι σ w'/\Le ro ι w σ ι w' σ:=by
 have aT:w'.heap.size=w.heap.size+1:=by rw[hw];simp
 have hold:∀b,b<w.heap.size->w'.heap[b]?=w.heap[b]? :=λb hb=>by rw[hw,awg,if_neg (by omega)]
 refine⟨⟨λb c hb=>?_,h.sep,λid b ho=>by have:=h.iO id b ho;omega,h.fresh,h.inj,λid o ho=>(h.obj id o ho).keep (Ext.refl _) (λ_=>rfl) λb hb=>hold b (h.iO _ _ hb),h.wf⟩,?_⟩
 ·obtain⟨e,f,hh⟩:=h.mem b c hb;refine⟨e,f,?_⟩;rw[hold b ?_];exact hh;rcases avG b w.heap.size with ai|sV
  ·exact ai
  ·rw[atW sV]at hh;cases hh
 ·exact⟨Ext.refl _,λ_ _ h=>.inl h,λ_ _ _ _=>rfl,λ_ h _=>h,λ_ _ _=>rfl,ar8 _,vJ,xK,xL,by omega,λb hb _=>hold b hb,λ_ _ h=>.inl h⟩
theorem Inv.put{N ro:Nat}{ι aG:Io}{σ:St}{w w':World}{id:Nat}{ob eK:Ob}(h:Inv N ι σ w)(aE:σ.at id=aa ob)(cB:ro<=id)(hid:∃e l,ι id e=aa l)
 (gR:Ext ι aG)(U_:∀i,i≠id->∀e,aG i e=ι i e)(lq:∀b,Own aG id b->Own ι id b\/(w.heap.size<=b/\b<w'.heap.size))
 (aT:w.heap.size<=w'.heap.size)(G0:∀b,b<w.heap.size->¬Own ι id b->w'.heap[b]?=w.heap[b]?)
 (vJ:w'.os=w.os)(xK:w'.tape=w.tape)(xL:w'.output=w.output)(dz:kH aG w' id eK)(hm:aG.m=ι.m:=by rfl):
 Inv N aG (σ.put id eK) w'/\Le ro ι w σ aG w' (σ.put id eK):=by
 obtain⟨e0,l0,jn⟩:=hid;have aZ:∀i,(∀e,ι i e=ah)->i≠id:=λi hn hi=>by rw[hi]at hn;rw[hn e0]at jn;cases jn
 have hd:∀i,(∀e,ι i e=ah)->∀e,aG i e=ah:=λi hn e=>(U_ i (aZ i hn) e).trans (hn e)
 have H3:∀i b,Own aG i b->Own ι i b\/(i=id/\w.heap.size<=b/\b<w'.heap.size):=by
  intro i b hb;by_cases hi:i=id
  ·subst hi;rcases lq b hb with hb|hb
   ·exact .inl hb
   ·exact .inr ⟨rfl,hb⟩
  ·obtain⟨e,l,hl,wz⟩:=hb;rw[U_ i hi e]at hl;exact .inl ⟨e,l,hl,wz⟩
 refine⟨h.change (qU:=id) gR U_ (λi b hb=>(H3 i b hb).imp (λx=>x) (λx=>⟨x.1,x.2.1⟩)) ?_ aT G0 dz (λj=>by simp) ⟨by simp,by rw[St.nu];exact Nat.lt_of_not_le λhle=>by rw[h.wf id hle]at aE;cases aE⟩ ?_ hm,?_⟩
 ·intro b hb;rcases lq b hb with hb|hb
  ·exact aut (h.iO _ _ hb) aT
  ·exact hb.2
 ·intro i hi ai e;exact hd i (h.fresh i hi ai) e
 ·refine⟨gR,λi b hb=>(H3 i b hb).imp (λx=>x) (λx=>x.2.1),?_,?_,?_,by simp,vJ,xK,xL,aT,?_,λb c hb=>.inl (by rw[<-hm];exact hb)⟩
  ·intro i hn _ e;exact U_ i (λhi=>by subst hi;rw[aE]at hn;cases hn) e
  ·intro i hn _;have:id≠i:=λhi=>by subst hi;rw[aE]at hn;cases hn
   simp[this,hn]
  ·intro i hr _;have:id≠i:=by omega
   simp[this]
  ·intro b hb hc;refine G0 b hb λho=>?_;rcases hc id ho with h1|h1
   ·omega
   ·rw[aE]at h1;cases h1
end Go.Ev
namespace Go.Ev
variable{P:Program}{N:Nat}{ι:Io}{w:World}{σ:St}
theorem eE{t:TypeId}{s:Nat}(h:aN P t=aa s)(w:World):(sizeOf t).run P w=.ok s w:=by
 unfold aN at h;cases hi:P.info? t with
 |none=>simp[hi]at h
 |some i=>simp[hi]at h;simp[sizeOf,typeInfo,hi,h]
theorem iX{t:TypeId}{z:Value}(h:cw P t=aa z)(w:World):(zeroValue t).run P w=.ok z w:=by
 unfold cw at h;cases hi:P.info? t with
 |none=>simp[hi]at h
 |some i=>simp[hi]at h;simp[zeroValue,typeInfo,hi,h]
theorem aV{t:TypeId}{d:TypeDesc}(h:P.underlying t=aa d)(w:World):(underlying t).run P w=.ok d w:=by simp[underlying,h]
theorem Bx{t:TypeId}{b:Bool}(h:qF P t=aa b)(w:World):(isAgg t).run P w=.ok b w:=by
 unfold qF at h;cases hu:P.underlying t with
 |none=>simp[hu]at h
 |some d=>
  simp[hu]at h;simp only[isAgg,Sem.run_bind,aV hu,Result.andThen_ok];cases d<;>simp at h<;>subst h<;>rfl
theorem Ds{t:TypeId}{n:Nat}(h:(P.info? t).map (·.bytes)=aa n)(w:World):∃i,P.info? t=aa i/\i.bytes=n/\(typeInfo t).run P w=.ok i w:=by
 cases hi:P.info? t with
 |none=>simp[hi]at h
 |some i=>simp[hi]at h;exact⟨i,rfl,h,by simp[typeInfo,hi]⟩
theorem gX(b off n:Nat):(⟨b,off,ah⟩:Addr).add n=⟨b,off+n,ah⟩:=by
 unfold Addr.add;split<;>simp_all
theorem cell_of{b off:Nat}{c:Array Value}{el:TypeId}{f:Nat×Nat}(h:w.heap[b]?=aa (.cells c el f)):w.cell? ⟨b,off,ah⟩=c[off]? :=by
 simp[World.cell?,h]
theorem NY{t:TypeId}{cs:List IV}{vs:List Value}{off:Nat}{v:IV}(h:partOf P t cs off=aa v)(hr:aC ι cs vs)(w:World):
 ∃u,(part t vs.toArray off).run P w=.ok u w/\Rv ι v u:=by
 unfold partOf at h;split at h
 ·rename_i s ha hs;split at h
  ·rename_i hle;cases h;refine⟨.agg (vs.toArray.extract off (off+s)),by simp[part,Bx ha,eE hs],?_⟩
   have e:vs.toArray.extract off (off+s)=((vs.drop off).take s).toArray:=by
    apply Array.ext';simp
   rw[e];have:=(hr.drop off).take s;exact .agg _ _ this.1 this.2
  ·cases h
 ·rename_i s ha hs;split at h
  ·obtain⟨u,hu,jd⟩:=hr.get h;exact⟨u,by simp[part,Bx ha,hu],jd⟩
  ·cases h
 ·cases h
def y6(w:World)(b off:Nat)(vs:List Value):Prop:=∀j v,vs[j]?=aa v->w.cell? ⟨b,off+j,ah⟩=aa v
theorem H4{t:TypeId}{cs:List IV}{vs:List Value}{b off k:Nat}{v:IV}(h:partOf P t cs k=aa v)(hr:aC ι cs vs)(kb:y6 w b off vs):
 ∃u,(loadVar t ⟨b,off+k,ah⟩).run P w=.ok u w/\Rv ι v u:=by
 unfold partOf at h;split at h
 ·rename_i s ha hs;split at h
  ·rename_i hle;cases h;have hl:((vs.drop k).take s).length=s:=by simp;have:=hr.1;omega
   have hc:(loadCells ⟨b,off+k,ah⟩ s).run P w=.ok ((vs.drop k).take s).toArray w:=by
    have:=run_loadCells_list (P:=P) w ⟨b,off+k,ah⟩ ((vs.drop k).take s) ?_
    ·rwa[hl]at this
    ·intro j v hj;rw[gX]
     have fO:vs[k+j]?=aa v:=by
      rw[asD]at hj;split at hj
      ·simpa using hj
      ·cases hj
     have:=kb _ _ fO;rw[show off+k+j=off+(k+j) by omega];exact this
   refine⟨.agg ((vs.drop k).take s).toArray,by simp[loadVar,Bx ha,eE hs,hc],?_⟩;have:=(hr.drop k).take s;exact .agg _ _ this.1 this.2
  ·cases h
 ·rename_i s ha hs;split at h
  ·obtain⟨u,hu,jd⟩:=hr.get h;exact⟨u,by simp[loadVar,Bx ha,kb _ _ hu],jd⟩
  ·cases h
 ·cases h
theorem Fj{id:Nat}{cs:List IV}{ep ay mn:Nat}(h:kH ι w id (.cells cs ay mn))(h1:mn<=ep)(h2:ep<=ay):
 ∃l c el,ι id ep=aa l/\l.n<=cs.length/\l.n<=c.size/\w.heap[l.b]?=aa (.cells c el (0,0))/\l.lim=c.size/\aC ι (cs.take l.n) (c.toList.take l.n):=by
 obtain⟨_,_,h3⟩:=h;obtain⟨l,c,el,hl,hn,hc,gU,hk⟩:=h3 ep h1 h2
 have aT:l.n<=c.size:=by
  rcases Nat.eq_zero_or_pos l.n with h0|h0
  ·omega
  ·obtain⟨u,hu,_⟩:=hk (l.n- 1) cs[l.n- 1] (by omega) (ar2 (by omega));have:=(Array.getElem?_eq_some_iff.1 hu).1;omega
 refine⟨l,c,el,hl,hn,aT,hc,gU,by simp;omega,λi x v hx hv=>?_⟩;rw[asD]at hx hv;split at hx
 ·rename_i hi;rw[if_pos hi]at hv;obtain⟨u,hu,hr⟩:=hk i x hi hx;have:c.toList[i]?=aa u:=by simpa using hu
  rw[this]at hv;cases hv;exact hr
 ·cases hx
theorem H5{b:Nat}{c:Array Value}{el:TypeId}{f:Nat×Nat}(h:w.heap[b]?=aa (.cells c el f))(n:Nat):y6 w b 0 (c.toList.take n):=by
 intro j v hj;rw[cell_of h];rw[asD]at hj;split at hj
 ·simpa using hj
 ·cases hj
theorem Va{b off:Nat}{vs:List Value}(h:y6 w b off vs)(n:Nat):y6 w b (off+n) (vs.drop n):=by
 intro j v hj;have:=h (n+j) v (by simpa using hj);rwa[show off+n+j=off+(n+j) by omega]
theorem Si{b off:Nat}{vs:List Value}(h:y6 w b off vs)(n:Nat):y6 w b off (vs.take n):=by
 intro j v hj;rw[asD]at hj;split at hj
 ·exact h j v hj
 ·cases hj
theorem Sj{t:TypeId}{cs:List IV}{off n s:Nat}{v:IV}(h:partOf P t cs off=aa v)(hs:aN P t=aa s)(hn:off+s<=n):partOf P t (cs.take n) off=aa v:=by
 unfold partOf at h⊢;split at h
 ·rename_i s' ha bt;rw[bt]at hs;cases hs;split at h
  ·cases h;rw[if_pos (by simp;omega)]
   congr 2
   rw[List.drop_take,List.take_take]
   congr 1;omega
  ·cases h
 ·rename_i s' ha bt;rw[bt]at hs;cases hs;split at h
  ·rename_i h1;rw[if_pos h1,asD,if_pos (by omega)];exact h
  ·cases h
 ·cases h
theorem Dt{t:TypeId}{s id off ep ext ay mn:Nat}{cs:List IV}{v:IV}{u:Value}(hi:Inv N ι σ w)(hs:aN P t=aa s)(aE:σ.at id=aa (.cells cs ay mn))
 (hx:s<=ext)(h1:mn<=ep)(h2:ep<=ay)(hp:partOf P t cs off=aa v)(hr:Rv ι (.ptr id off ep ext) u):
 ∃a x,u=.pointer (aa a)/\(loadVar t a).run P w=.ok x w/\Rv ι v x:=by
 obtain⟨l,c,el,hl,hn,aT,hc,_,kb⟩:=Fj (hi.obj id _ aE) h1 h2;cases hr with
 |ptr _ _ _ _ l' cq il=>
  rw[hl]at cq;cases cq;have qV:=Sj hp hs (show off+s<=l.n by omega);obtain⟨x,y7,wA⟩:=H4 (k:=off) qV kb (H5 hc l.n);rw[Nat.zero_add]at y7;exact⟨_,x,rfl,y7,wA⟩
end Go.Ev
