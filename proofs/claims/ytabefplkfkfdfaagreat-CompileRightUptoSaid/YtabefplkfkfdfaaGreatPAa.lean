/- Lemmas over the model, without conditions of their own: the ideal machine, and code run on expressions. -/
import Derived.RangeFuncLeaves
import Derived.RecoverIn
import Derived.LoopNIn
import Derived.OrdersIn
import Derived.Laws.CopyRow
import Derived.Laws.Cells
import Derived.Lib.Strings
import Derived.IntWalk
open Nat renaming beq->ayQ,blt->azy,testBit->ay7,le_refl->ayL,le_trans->ay6,lt_of_lt_of_le->aAl,eq_zero_or_pos->aC1,zero_add->aAn,mul_le_mul_right->azd,add_mul->azD,mul_eq_zero->aCg,min_eq_left->aCn,zero_le->azz,le_of_not_lt->aCh,le_of_eq->aD4
open Go renaming undef->azm,Obj->aCD,binOp->aAu
open List renaming replicate->ay_,eq_nil_of_length_eq_zero->azb,getElem?_append_left->ayZ,getElem?_append_right->aze,getElem?_take->azn,getElem?_eq_some_iff->ayH,getElem?_eq_getElem->ayG,getElem?_map->ay1,drop_take->aDw,getElem?_toArray->aAq,range->azT,ext_getElem?->aC2,mem_of_mem_take->azM,length_take->azS,append_assoc->ay3,length_append->ayP,length_nil->aAm
open Go.Instr renaming checkKey->aA7,findKey->azR,sameBits->aAD,loadAt->aDO,sureAddr->aAN,extract->aDx,makeMap->aDy,fieldAt->aDz,indexAt->aCj,index->aDW,fill->aD3,build->aDX,sliceBound->aBZ,sliceBounds->aCR,sliceAt->aAU,slice->aDY,findNow->az9,findAsking->azt,lookup->aCq,keyThatStays->aBJ,mapUpdate->aCa,range->aCw,next->aAX,typeAssert->aBs
open Go.Op renaming bytesLess->aB3,equalIn->azE,equal->aA8,stringOp->aBg
open Go.Builtin renaming max_->aDq,lenOf->aBk,firstCells->azX,growBy->aC3,nextslicecap->aAI,zeroCells->aA0,append_->aBd,len_->aDr,cap_->aDs
open Go.Utf8 renaming decode->aAc
open Go.Region renaming binds->az7
open Option renaming none->aBY,map_some->azl,map_eq_some_iff->ayR,isSome_iff_exists->aAS,getD_some->aAy,getD_none->aBo,bind_some->ayK
open Option.some renaming injEq->ayO,inj->aAK
open Go.Sem renaming run_bind->ayT,run_pure->ay9,run->aAz
open Go.Result renaming andThen_ok->ayM
open Go.World renaming cell?->aCE
open Array renaming ext'->aBi,getElem?_eq_some_iff->azx,range->aCv,all_eq_true_iff_forall_mem->aBS,map_empty->aDf,getElem?_push->aCF,eq_empty_of_size_eq_zero->aA_,toList_map->aC4
open ByteArray renaming ext->aCQ,getElem_eq_getElem_data->aD_
open Go.IntKind renaming i64->azc
open Classical renaming byContradiction->azs
open Go.IntWalk renaming i64_in->aB_
open Bool renaming false_eq_true->azi
open Go.Question renaming forced->aAB
open Go.Deferred renaming ofValue->aBM
open Option renaming some->aa,none->ah
open Bool renaming true->ab,false->af
set_option linter.all false
namespace Go.Ev
def aj{p:Prop}(h:p:=by omega):p:=h
def aw{p:Prop}(h:p:=by simp):p:=h
def bc{p:Prop}(h:p:=by grind):p:=h
def yO{p:Prop}(h:p:=by simp_all):p:=h
inductive T(α:Type) where
 |lf
 |nd (l:T α) (v:Option α) (r:T α)
namespace T
variable{α:Type}
def get:T α->Nat->Option α
 |.lf,_=>ah
 |.nd l v r,i=>if ayQ i 0 then v else if ayQ (i % 2) 1 then l.get (i/2)else r.get (i/2- 1)
def uE:Nat->T α->Nat->α->T α
 |0,t,_,_=>t
 |f+1,t,i,x=>
  match t with
  |.lf=>if ayQ i 0 then .nd .lf (aa x) .lf else if ayQ (i % 2) 1 then .nd (uE f .lf (i/2) x) ah .lf else .nd .lf ah (uE f .lf (i/2- 1) x)
  |.nd l v r=>if ayQ i 0 then .nd l (aa x) r else if ayQ (i % 2) 1 then .nd (uE f l (i/2) x) v r else .nd l v (uE f r (i/2- 1) x)
def set(t:T α)(i:Nat)(x:α):T α:=uE (i+1) t i x
end T
inductive IV where
 |raw (v:Value)
 |agg (cs:List IV)
 |aF (vs:List IV)
 |ptr (id off ep ext:Nat)
 |sl (id off len:Nat) (cap:Option Nat) (ep s:Nat)
 |emp
 |map (id:Nat)
 |fn (f:Fn) (first captured:List IV)
 |sX (id:Nat)
 |dP (t:TypeId) (v:IV)
 |tree (s:Nat) (es:List IV)
 |na (cs:List IV)
 deriving Inhabited
def IV.undef:IV:=.raw azm
abbrev IV.bool(b:Bool):IV:=.raw (.bool b)
abbrev IV.int(n:Int):IV:=.raw (.int .i64 n)
inductive Ob where
 |cells (cs:List IV) (ep mn:Nat)
 |map (es:List (Value×IV×Nat)) (clock:Nat)
 |sB (s:ByteArray) (pos:Nat)
 |kV (m:Option Nat) (since:Nat) (seen:List Nat) (AF:Nat)
 |loop (state:LoopState) (pending:Option Code) (f:FuncId) (tm:T IV) (mb:Nat) (params:List Tmp) (assign body:Code) (ga:Nat)
 |Ha (taken:Bool)
 deriving Inhabited
inductive Df where
 |xu (id:Nat)
 |call (f:FuncId) (args:List IV)
structure St where
 n:Nat
 t:T Ob
def St.add(σ:St)(o:Ob):St:=⟨σ.n+1,σ.t.set σ.n o⟩
def St.put(σ:St)(id:Nat)(o:Ob):St:=⟨σ.n,σ.t.set id o⟩
def St.at(σ:St)(id:Nat):Option Ob:=σ.t.get id
structure Env where
 n:Nat
 t:T IV
def Env.at(e:Env)(i:Nat):IV:=(e.t.get i).getD .undef
def Env.put(e:Env)(dst:Option Tmp)(v:IV):Env:=
 match dst with
 |none=>e
 |some d=>if azy d e.n then⟨e.n,e.t.set d v⟩else e
def aK{α:Type}(P:Program):Sem α->Option α
 |.pure a=>aa a
 |.program k=>aK P (k P)
 |.mark _ k=>aK P k
 |_=>ah
def lift:Value->IV
 |.agg cs=>.agg (cs.toList.map .raw)
 |v=>.raw v
def lx:List IV->Option (List Value)
 |[]=>aa []
 |c::cs=>match c with
  |.raw v=>match lx cs with
   |some vs=>aa (v::vs)
   |none=>ah
  |_=>ah
def rH:IV->Option Value
 |.raw v=>aa v
 |.agg cs=>match lx cs with
  |some vs=>aa (.agg vs.toArray)
  |none=>ah
 |_=>ah
def lJ:IV->Option Value
 |.dP t v=>match rH v with
  |some u=>aa (.iface t u)
  |none=>ah
 |v=>rH v
def cellsOf:IV->List IV
 |.agg cs=>cs
 |v=>[v]
def ao:IV->Bool
 |.raw (.agg _)|.raw (.tuple _)|.agg _|.aF _=>af
 |_=>ab
section ops
variable(P:Program)
def aX(t:TypeId):Option Nat:=(P.info? t).map (·.size)
def db(t:TypeId):Option Value:=(P.info? t).bind (·.zero)
def tx(t:TypeId):Option Bool:=(P.underlying t).map λ|.struct _|.array _ _=>ab|_=>af
def partOf(t:TypeId)(cs:List IV)(off:Nat):Option IV:=
 match tx P t,aX P t with
 |some ab,aa s=>if off+s<=cs.length then aa (.agg ((cs.drop off).take s))else ah
 |some af,aa s=>if s=1 then cs[off]? else ah
 |_,_=>ah
def eV(cs:List IV)(off:Nat)(new:List IV):List IV:=cs.take off++new++cs.drop (off+new.length)
def sC(place:Nat->Option (Nat×Nat)):List IV->List (Nat×IV)->Option (List IV)
 |cells,[]=>aa cells
 |cells,(i,v)::rest=>
  match place i with
  |none=>ah
  |some (off,size)=>
   if(cellsOf v).length=size/\off+size<=cells.length/\(cellsOf v).all ao then sC place (eV cells off (cellsOf v)) rest else ah
def lK(zero:List IV)(n:Nat):List IV:=
 match zero with
 |[z]=>ay_ n z
 |_=>(ay_ (n/zero.length) zero).flatten
def fU(size n:Nat)(σ:St):IV->Option (List IV)
 |.raw (.slice ah _ _)=>if n=0 then aa []else ah
 |.emp=>if n=0 then aa []else ah
 |.raw (.string s)=>if n<=s.size then aa ((s.data.toList.take n).map λb=>.raw (.int .u8 b.toNat))else ah
 |.sl id off len _ ep s=>if s=size/\n<=len then match σ.at id with
   |some (.cells cs aE mn)=>if mn<=ep/\ep<=aE/\off+n*size<=cs.length then aa ((cs.drop off).take (n*size))else ah
   |_=>ah
  else ah
 |.tree s es=>if s=size/\n<=es.length then aa ((es.take n).flatMap cellsOf)else ah
 |_=>ah
def qE:IV->Option Nat
 |.raw (.slice ah l _)=>if l=0 then aa 0 else ah
 |.raw (.string s)=>aa s.size
 |.emp=>aa 0
 |.sl _ _ len _ _ _=>aa len
 |.tree _ es=>aa es.length
 |_=>ah
inductive gT where
 |val (v:IV) (σ:St)
 |enter (f:FuncId) (args:List IV)
 |round (id:Nat) (args:List IV)
 |dfr (d:Df)
 |cg (v:IV)
def ret(v:IV)(σ:St):Option gT:=aa (.val v σ)
def u5(size:Nat)(zero:Value)(xd:TypeDesc)(σ:St)(x:IV):Option (Nat×List IV):=
 match xd with
 |.int _=>match x with
  |.raw (.int .i64 l)=>if 0<=l/\l<=1000000 then aa (l.toNat,lK (zero.cells.toList.map .raw) (l.toNat*size))else ah
  |_=>ah
 |_=>match qE x with
  |some n=>match fU size n σ x with
   |some cs=>aa (n,cs)
   |none=>ah
  |none=>ah
def gl(size br n:Nat)(new:List IV)(s:IV)(σ:St):Option gT:=
 match fU size br σ s with
 |some cQ=>if cQ.length=br*size then ret (.sl σ.n 0 (br+n) ah 0 size) (σ.add (.cells (cQ++new) 0 0))else ah
 |none=>ah
def fv(ro size br n:Nat)(new:List IV)(s:IV)(σ:St):Option gT:=
 match s with
 |.raw (.slice ah l c)=>if l=0/\c=0 then(if n=0 then ret s σ else gl size br n new s σ)else ah
 |.emp=>if n=0 then ret s σ else gl size br n new s σ
 |.tree _ _=>if n=0 then ret s σ else ah
 |.sl id off len cap ep st=>
  if st≠size then ah else
  if n=0 then ret (.sl id off len cap ep st) σ else
  match cap with
  |some c=>if len+n<=c then
    match σ.at id with
    |some (.cells cs aE _)=>if ro<=id/\ep=aE/\off+(len+n)*size<=cs.length then
      ret (.sl id off (len+n) cap ep st) (σ.put id (.cells (eV cs (off+len*size) new) aE aE))else ah
    |_=>ah
   else gl size br n new s σ
  |none=>match σ.at id with
   |some (.cells cs aE mn)=>if ro<=id/\ep=aE/\off=0/\len*size=cs.length then
     ret (.sl id 0 (len+n) ah (ep+1) st) (σ.put id (.cells (cs++new) (aE+1) mn))
    else if ro<=id/\ep=aE/\off=0/\len*size<=cs.length then
     ret (.sl id 0 (len+n) ah (ep+1+1) st) ((σ.put id (.cells (cs.take (len*size)) (aE+1) (aE+1))).put id (.cells (cs.take (len*size)++new) (aE+1+1) (aE+1)))
    else ah
   |_=>ah
 |_=>ah
def mw(ro:Nat)(argTypes:Array TypeId)(s x:IV)(σ:St):Option gT:=
 match argTypes[0]?,argTypes[1]? with
 |some sT,aa xT=>
  match P.underlying sT,P.underlying xT with
  |some (.slice elem),aa xd=>
   match aX P elem,db P elem,(P.info? elem).map (·.bytes)with
   |some size,aa zero,aa bytes=>
    if size=0\/zero.cells.size≠size then ah else
    match u5 size zero xd σ x,qE s with
    |some (n,new),aa br=>
     if new.length=n*size/\new.all ao=ab/\(4*(br+n)+4096)*bytes<=2 ^47/\br+n<=2 ^40 then fv ro size br n new s σ else ah
    |_,_=>ah
   |_,_,_=>ah
  |_,_=>ah
 |_,_=>ah
def iD:Option IV->Option (Option Nat)
 |none=>aa ah
 |some (.raw (.int _ i))=>if 0<=i then aa (aa i.toNat)else ah
 |_=>ah
def gm(t:TypeId)(x:IV)(lo hi mx:Option IV):Option IV:=
 match iD lo,iD hi,iD mx with
 |some lo,aa hi,aa mx=>
  if mx.isSome=ab/\hi.isSome=af then ah else
  match P.underlying t with
  |some .string=>match x with
   |.raw (.string s)=>
    if mx=ah/\lo.getD 0<=hi.getD s.size/\hi.getD s.size<=s.size then aa (.raw (.string ⟨((s.data.toList.drop (lo.getD 0)).take (hi.getD s.size- lo.getD 0)).toArray⟩))else ah
   |_=>ah
  |some (.slice elem)=>match aX P elem with
   |none=>ah
   |some sz=>match x with
    |.raw (.slice ah 0 0)=>if lo.getD 0=0/\hi.getD 0=0/\mx.getD 0=0 then aa (.raw (.slice ah 0 0))else ah
    |.emp=>if lo.getD 0=0/\hi.getD 0=0/\mx.getD 0=0 then aa .emp else ah
    |.sl id off len cap ep s=>
     if sz≠s then ah else
     match mx,cap with
     |some m,cap=>if lo.getD 0<=hi.getD len/\hi.getD len<=m/\m<=cap.getD len then
       (if m=lo.getD 0 then aa .emp else aa (.sl id (off+lo.getD 0*s) (hi.getD len- lo.getD 0) (aa (m- lo.getD 0)) ep s))else ah
     |none,aa m=>if lo.getD 0<=hi.getD len/\hi.getD len<=m then
       (if m=lo.getD 0 then aa .emp else aa (.sl id (off+lo.getD 0*s) (hi.getD len- lo.getD 0) (aa (m- lo.getD 0)) ep s))else ah
     |none,ah=>if lo.getD 0<=hi.getD len/\hi.getD len<=len then aa (.sl id (off+lo.getD 0*s) (hi.getD len- lo.getD 0) ah ep s)else ah
    |.tree s es=>
     if sz≠s then ah else
     match mx with
     |none=>if lo.getD 0<=hi.getD es.length/\hi.getD es.length<=es.length then aa (.tree s ((es.take (hi.getD es.length)).drop (lo.getD 0)))else ah
     |some m=>if m=0/\lo.getD 0=0/\hi.getD es.length=0 then aa (.tree s [])else ah
    |_=>ah
  |some (.array n elem)=>match x,aX P elem with
   |.ptr id off ep ext,aa s=>
    if s≠0/\n*s<=ext/\mx=ah/\lo.getD 0<=hi.getD n/\hi.getD n<=n then
     (if n=lo.getD 0 then aa .emp else aa (.sl id (off+lo.getD 0*s) (hi.getD n- lo.getD 0) (aa (n- lo.getD 0)) ep s))else ah
   |_,_=>ah
  |_=>ah
 |_,_,_=>ah
def fG(empty:Bool)(kt:TypeId)(k:Value)(es:List (Value×IV×Nat)):Option (Option Nat):=
 match aK P (do
  aA7 empty 10000 kt k
  azR kt k (es.map λe=>{key:=e.1,val:=azm,born:=e.2.2}))with
 |some (aa (i,_))=>aa (aa i)
 |some ah=>aa ah
 |none=>ah
def entriesOf(σ:St):IV->Option (List (Value×IV×Nat))
 |.raw (.map ah)=>aa []
 |.map id=>match σ.at id with
  |some (.map es _)=>aa es
  |_=>ah
 |_=>ah
def qa(ro:Nat)(kt:TypeId)(m k v:IV)(σ:St):Option St:=
 match m,lJ k with
 |.map id,aa key=>
  match σ.at id with
  |some (.map es clock)=>
   if¬ro<=id then ah else
   match fG P af kt key es with
   |some (aa i)=>match es[i]? with
    |some e=>if aAD 10000 e.1 key then aa (σ.put id (.map (es.set i (key,v,e.2.2)) clock))else ah
    |none=>ah
   |some ah=>aa (σ.put id (.map (es++[(key,v,clock)]) (clock+1)))
   |none=>ah
  |_=>ah
 |_,_=>ah
def Ei(t:TypeId):IV->IV->Bool
 |.raw (.pointer ah),.ptr .. |.raw (.pointer ah),.na _=>match P.underlying t with|some (.pointer _)=>ab|_=>af
 |.raw (.slice ah _ _),.sl .. |.raw (.slice ah _ _),.emp|.raw (.slice ah _ _),.tree _ (_::_)=>match P.underlying t with|some (.slice _)=>ab|_=>af
 |.raw (.map ah),.map _=>match P.underlying t with|some (.map _ _)=>ab|_=>af
 |.raw .nilFunc,.fn .. |.raw .nilFunc,.sX _=>match P.underlying t with|some (.func _ _ _)=>ab|_=>af
 |.raw .nilIface,.dP .. =>match P.underlying t with|some (.interface _)=>ab|_=>af
 |_,_=>af
def Zr(t:TypeId)(a b:IV):Bool:=Ei P t a b||Ei P t b a
def ptrEq(t:TypeId):IV->IV->Option Bool
 |.ptr i o e _,.ptr j p f _=>match P.underlying t with
  |some (.pointer el)=>match aX P el with
   |some s=>if i=j/\e=f/\s≠0 then aa (o==p)else ah
   |none=>ah
  |_=>ah
 |_,_=>ah
def tz(op:BinOp)(t:TypeId)(x y:Operand)(a b:IV):Option IV:=
 match op,a,b with
 |.eql,.raw (.string s),.raw (.string u)=>aa (.bool (s.data.toList==u.data.toList))
 |.neq,.raw (.string s),.raw (.string u)=>aa (.bool (!(s.data.toList==u.data.toList)))
 |.lss,.raw (.string s),.raw (.string u)=>aa (.bool (aB3 s.data.toList u.data.toList))
 |.gtr,.raw (.string s),.raw (.string u)=>aa (.bool (!(aB3 s.data.toList u.data.toList||s.data.toList==u.data.toList)))
 |.leq,.raw (.string s),.raw (.string u)=>aa (.bool (aB3 s.data.toList u.data.toList||s.data.toList==u.data.toList))
 |.geq,.raw (.string s),.raw (.string u)=>aa (.bool (!(aB3 s.data.toList u.data.toList)))
 |.add,.raw (.string s),.raw (.string u)=>if s.size+u.size<=2 ^40 then aa (.raw (.string ⟨(s.data.toList++u.data.toList).toArray⟩))else ah
 |op,a,b=>
  match lJ a,lJ b with
  |some u,aa v=>(aK P (do eqGuard op t x y u v;binOp op t u v)).map lift
  |_,_=>
   if Zr P t a b then
    match op with
    |.eql=>aa (.bool af)
    |.neq=>aa (.bool ab)
    |_=>ah
   else match op,ptrEq P t a b with
    |.eql,aa c=>aa (.bool c)
    |.neq,aa c=>aa (.bool !c)
    |_,_=>ah
def iH(f:IV)(args:List IV):Option gT:=
 match f with
 |.fn (.func f) first cap=>
  match P.funcs[f]? with
  |some fn=>if fn.body.isSome&&fn.name != "runtime.NumGoroutine" then aa (.enter f (first++args++cap))else ah
  |none=>ah
 |.raw (.func (.func f) a b)=>
  if a.size=0/\b.size=0 then
   match P.funcs[f]? with
   |some fn=>if fn.body.isSome&&fn.name != "runtime.NumGoroutine" then aa (.enter f args)else ah
   |none=>ah
  else ah
 |.sX id=>aa (.round id args)
 |_=>ah
def qF(argTypes:Array TypeId)(x:IV)(σ:St):Option IV:=
 match(argTypes[0]?).bind P.underlying,x with
 |some (.slice _),.sl _ _ len _ _ _=>aa (.int len)
 |some (.slice _),.emp=>aa (.int 0)
 |some (.slice _),.tree _ es=>aa (.int es.length)
 |some (.slice _),.raw (.slice ah l _)=>aa (.int l)
 |some .string,.raw (.string s)=>aa (.int s.size)
 |some (.map _ _),.raw (.map ah)=>aa (.int 0)
 |some (.map _ _),.map id=>match σ.at id with
  |some (.map es _)=>aa (.int es.length)
  |_=>ah
 |some (.array n _),_=>aa (.int n)
 |_,_=>ah
def Zs(argTypes:Array TypeId)(x:IV):Option IV:=
 match(argTypes[0]?).bind P.underlying,x with
 |some (.slice _),.sl _ _ _ (aa c) _ _=>aa (.int c)
 |some (.slice _),.emp=>aa (.int 0)
 |some (.slice _),.raw (.slice ah _ c)=>aa (.int c)
 |some (.array n _),_=>aa (.int n)
 |_,_=>ah
def Oj(args:List IV):Option IV:=
 match lx args with
 |some vs=>(aK P (aDq #[] 0 vs.toArray)).map lift
 |none=>ah
def fw(ro:Nat)(b:Builtin)(argTypes:Array TypeId)(args:List IV)(σ:St):Option gT:=
 match b with
 |.append=>match args with
  |[s,x]=>mw P ro argTypes s x σ
  |_=>ah
 |.len=>match args with
  |[x]=>(qF P argTypes x σ).map λv=>.val v σ
  |_=>ah
 |.cap=>match args with
  |[x]=>(Zs P argTypes x).map λv=>.val v σ
  |_=>ah
 |.max=>(Oj P args).map λv=>.val v σ
 |_=>ah
def aA(ro:Nat)(ρ:Operand->IV)(o:Oper)(σ:St):Option gT:=
 match o.op with
 |.move x|.assign x=>ret (ρ x) σ
 |.pick c a b=>match ρ c with
  |.raw (.bool t)=>ret (if t then ρ a else ρ b) σ
  |_=>ah
 |.alloc elem=>match db P elem with
  |some z=>ret (.ptr σ.n 0 0 z.cells.size) (σ.add (.cells (z.cells.toList.map .raw) 0 0))
  |none=>ah
 |.box _ x=>if(cellsOf (ρ x)).all ao then ret (.ptr σ.n 0 0 (cellsOf (ρ x)).length) (σ.add (.cells (cellsOf (ρ x)) 0 0))else ah
 |.build t parts=>match db P t,P.underlying t with
  |some z,aa (.struct fields)=>match sC (λi=>(fields[i]?).bind λf=>(aX P f.type).map λs=>(f.offset,s)) (z.cells.toList.map .raw) (parts.toList.map λ(i,x)=>(i,ρ x))with
   |some cs=>if fields.all λf=>(aX P f.type).isSome then ret (.agg cs) σ else ah
   |none=>ah
  |some z,aa (.array _ elem)=>match aX P elem with
   |some s=>match sC (λi=>aa (i*s,s)) (z.cells.toList.map .raw) (parts.toList.map λ(i,x)=>(i,ρ x))with
    |some cs=>ret (.agg cs) σ
    |none=>ah
   |none=>ah
  |_,_=>ah
 |.buildSlice t len parts=>match P.underlying t with
  |some (.slice elem)=>match aX P elem,db P elem with
   |some s,aa z=>
    if s=0\/z.cells.size≠s\/len*s>2 ^20 then ah else
    match sC (λi=>aa (i*s,s)) (lK (z.cells.toList.map .raw) (len*s)) (parts.toList.map λ(i,x)=>(i,ρ x))with
    |some cs=>if cs.length=len*s/\cs.all ao then(if len=0 then ret .emp σ else ret (.sl σ.n 0 len (aa len) 0 s) (σ.add (.cells cs 0 0)))else ah
    |none=>ah
   |_,_=>ah
  |_=>ah
 |.load t a=>match ρ a with
  |.ptr id off ep ext=>match aX P t,σ.at id with
   |some s,aa (.cells cs aE mn)=>if s<=ext/\mn<=ep/\ep<=aE then(match partOf P t cs off with|some v=>ret v σ|none=>ah)else ah
   |_,_=>ah
  |.na cs=>match partOf P t cs 0 with
   |some v=>ret v σ
   |none=>ah
  |_=>ah
 |.store t a x=>match ρ a with
  |.ptr id off ep ext=>match aX P t,σ.at id with
   |some s,aa (.cells cs aE mn)=>
    if ro<=id/\(cellsOf (ρ x)).length=s/\s<=ext/\ep=aE/\off+s<=cs.length/\(cellsOf (ρ x)).all ao then
     ret .undef (σ.put id (.cells (eV cs off (cellsOf (ρ x))) aE aE))else ah
   |_,_=>ah
  |_=>ah
 |.nilCheck x=>match ρ x with
  |.ptr a b c d=>ret (.ptr a b c d) σ
  |.na cs=>ret (.na cs) σ
  |.fn (.func f) a b=>ret (.fn (.func f) a b) σ
  |.sX l=>ret (.sX l) σ
  |.dP t v=>ret (.dP t v) σ
  |_=>ah
 |.binOp op t x y _=>match tz P op t x y (ρ x) (ρ y)with
  |some v=>ret v σ
  |none=>ah
 |.unOp op _ x=>match ρ x with
  |.raw v=>match aK P (Op.unary op v)with
   |some r=>ret (lift r) σ
   |none=>ah
  |_=>ah
 |.convert src dst x=>match ρ x with
  |.raw (.string s)=>match P.underlying src,P.underlying dst with
   |some _,aa .string=>ret (.raw (.string s)) σ
   |_,_=>ah
  |.raw v=>match aK P (convert src dst v)with
   |some r=>ret (lift r) σ
   |none=>ah
  |_=>ah
 |.makeInterface t x=>match P.underlying t with
  |some (.interface _)=>ah
  |some _=>ret (.dP t (ρ x)) σ
  |none=>ah
 |.makeFunc fn first cap=>ret (.fn fn (first.toList.map ρ) (cap.toList.map ρ)) σ
 |.makeMap t r=>match r with
  |none=>ret (.map σ.n) (σ.add (.map [] 0))
  |some h=>match P.underlying t,ρ h with
   |some (.map _ _),.raw (.int _ _)=>ret (.map σ.n) (σ.add (.map [] 0))
   |_,_=>ah
 |.makeSlice t l c=>match P.underlying t,ρ l,ρ c with
  |some (.slice elem),.raw (.int _ l),.raw (.int _ c)=>match aX P elem,db P elem,(P.info? elem).map (·.bytes)with
   |some s,aa z,aa bytes=>
    if s=0\/z.cells.size≠s\/¬(0<=l/\l<=c/\c<=1000000)\/bytes>1000000 then ah else
    if c=0 then ret .emp σ else
    ret (.sl σ.n 0 l.toNat (aa c.toNat) 0 s) (σ.add (.cells (lK (z.cells.toList.map .raw) (c.toNat*s)) 0 0))
   |_,_,_=>ah
  |_,_,_=>ah
 |.slice t x lo hi mx=>match gm P t (ρ x) (lo.map ρ) (hi.map ρ) (mx.map ρ)with
  |some v=>ret v σ
  |none=>ah
 |.fieldAddr s x f=>match P.underlying s with
  |some (.struct fields)=>match fields[f]? with
   |some fd=>match aX P fd.type,ρ x with
    |some sz,.ptr id off ep ext=>if sz≠0/\fd.offset+sz<=ext then ret (.ptr id (off+fd.offset) ep sz) σ else ah
    |some sz,.na cs=>if sz≠0/\fd.offset+sz<=cs.length then ret (.na ((cs.drop fd.offset).take sz)) σ else ah
    |_,_=>ah
   |none=>ah
  |_=>ah
 |.field t x f=>match P.underlying t,ρ x with
  |some (.struct fields),.agg cs=>match fields[f]? with
   |some fd=>match partOf P fd.type cs fd.offset with
    |some v=>ret v σ
    |none=>ah
   |none=>ah
  |_,_=>ah
 |.indexAddr t x ix=>match P.underlying t,ρ ix with
  |some (.slice elem),.raw (.int _ i)=>match ρ x with
   |.sl id off len _ ep s=>if aX P elem=aa s/\0<=i/\i<len then ret (.ptr id (off+i.toNat*s) ep s) σ else ah
   |.tree s es=>if aX P elem=aa s/\0<=i then match es[i.toNat]? with
     |some e=>if(cellsOf e).length=s then ret (.na (cellsOf e)) σ else ah
     |none=>ah
    else ah
   |_=>ah
  |some (.array n elem),.raw (.int _ i)=>match ρ x,aX P elem with
   |.ptr id off ep ext,aa s=>if s≠0/\0<=i/\i<n/\i.toNat*s+s<=ext then ret (.ptr id (off+i.toNat*s) ep s) σ else ah
   |_,_=>ah
  |_,_=>ah
 |.index t x ix=>match P.underlying t,ρ x,ρ ix with
  |some .string,.raw (.string s),.raw (.int _ i)=>if 0<=i then match s.data.toList[i.toNat]? with
    |some b=>ret (.raw (.int .u8 b.toNat)) σ
    |none=>ah
   else ah
  |some (.array n elem),.agg cs,.raw (.int _ i)=>match aX P elem with
   |some s=>if 0<=i/\i<n then(match partOf P elem cs (i.toNat*s)with|some v=>ret v σ|none=>ah)else ah
   |none=>ah
  |_,_,_=>ah
 |.lookup t x ix ok=>match P.underlying t,entriesOf σ (ρ x),lJ (ρ ix)with
  |some (.map kt elem),aa es,aa key=>match fG P es.isEmpty kt key es,db P elem with
   |some (aa i),aa _=>match es[i]? with
    |some e=>ret (if ok then .aF [e.2.1,.bool ab]else e.2.1) σ
    |none=>ah
   |some ah,aa z=>ret (if ok then .aF [lift z,.bool af]else lift z) σ
   |_,_=>ah
  |_,_,_=>ah
 |.mapUpdate t m k x|.insert t m k x=>match P.underlying t with
  |some (.map kt _)=>match qa P ro kt (ρ m) (ρ k) (ρ x) σ with
   |some au=>ret .undef au
   |none=>ah
  |_=>ah
 |.range t x=>match P.underlying t,ρ x with
  |some .string,.raw (.string s)=>ret (.ptr σ.n 0 0 1) (σ.add (.sB s 0))
  |some (.map _ _),.raw (.map ah)=>ret (.ptr σ.n 0 0 1) (σ.add (.kV ah 0 [] 0))
  |some (.map _ _),.map m=>match σ.at m with
   |some (.map _ clock)=>ret (.ptr σ.n 0 0 1) (σ.add (.kV (aa m) clock [] clock))
   |_=>ah
  |_,_=>ah
 |.next it str=>match ρ it with
  |.ptr r 0 0 1=>if¬ro<=r then ah else match σ.at r,str with
   |some (.sB s pos),ab=>
    if pos<s.size then
     ret (.aF [.bool ab,.int pos,.raw (.int .i32 (aAc s pos).1)]) (σ.put r (.sB s (pos+(aAc s pos).2)))
    else ret (.aF [.bool af]) σ
   |some (.kV ah _ _ _),af=>ret (.aF [.bool af]) σ
   |some (.kV (aa m) since seen last),af=>match σ.at m with
    |some (.map es clock)=>match es with
     |[]=>ret (.aF [.bool af]) σ
     |[e]=>if e.2.2∈seen then(if e.2.2<last then ret (.aF [.bool af]) σ else ah)else
      if e.2.2<since/\seen=[]then ret (.aF [.bool ab,lift e.1,e.2.1]) (σ.put r (.kV (aa m) since [e.2.2] clock))else ah
     |_=>ah
    |_=>ah
   |_,_=>ah
  |_=>ah
 |.entry it=>match ρ it with
  |.ptr r 0 0 1=>match σ.at r with
   |some (.kV (aa m) _ seen AF)=>match σ.at m,seen.getLast? with
    |some (.map es clock),aa Jk=>if clock=AF then match es.find? (λe=>e.2.2==Jk)with
      |some e=>ret (.aF [lift e.1,e.2.1]) σ
      |none=>ah
     else ah
    |_,_=>ah
   |_=>ah
  |_=>ah
 |.extract t i=>match ρ t with
  |.aF vs=>match vs[i]? with
   |some v=>ret v σ
   |none=>ah
  |.raw (.tuple vs)=>match vs[i]? with
   |some v=>ret (.raw v) σ
   |none=>ah
  |_=>ah
 |.panic x=>match ρ x with
  |.dP t v=>aa (.cg (.dP t v))
  |_=>ah
 |.typeAssert x _ asserted ok=>match P.underlying asserted,db P asserted with
  |some (.interface _),_=>ah
  |some _,aa z=>match ρ x with
   |.dP t v=>if ayQ t asserted then ret (if ok then .aF [v,.bool ab]else v) σ else
     if ok then ret (.aF [lift z,.bool af]) σ else ah
   |.raw .nilIface=>if ok then ret (.aF [lift z,.bool af]) σ else ah
   |_=>ah
  |_,_=>ah
 |.call c=>match c.callee with
  |.builtin b=>fw P ro b c.argTypes (c.args.toList.map ρ) σ
  |.value f=>iH P (ρ f) (c.args.toList.map ρ)
  |_=>ah
 |.defer c=>match c.callee with
  |.value f=>match iH P (ρ f) (c.args.toList.map ρ)with
   |some (.enter f args)=>aa (.dfr (.call f args))
   |_=>ah
  |_=>ah
 |_=>ah
end ops
inductive Ex where
 |normal
 |exit (id:Nat)
 |goto (l:Nat)
 |ret
 |cg (v:IV)
def Ex.Fj:Ex->Bool
 |.cg _=>ab
 |_=>af
def fV:Ex->Option Code
 |.normal=>ah
 |.cg _=>ah
 |.ret=>aa .ret
 |.exit id=>aa (.exit id)
 |.goto t=>aa (.goto t)
structure CR where
 ex:Ex
 e:Env
 df:List Df
 σ:St
structure Self where
 code:(ro:Nat)->(rd:Option Nat)->FuncId->Code->Env->List Df->St->Option CR
 call:(ro:Nat)->FuncId->List IV->St->Option (IV×St)
 cg:(ro:Nat)->FuncId->List IV->St->Option (IV×St)
 zP:(ro:Nat)->FuncId->List IV->Option IV->St->Option (Option IV×St)
section steps
variable(P:Program)(S:Self)
def aD(e:Env):Operand->IV
 |.tmp t=>e.at t
 |.const v=>lift v
 |.global g=>.raw (.pointer (aa ⟨g,0,ah⟩))
 |.func f=>.raw (.func (.func f) #[] #[])
def aY(o:Oper)(ops:Array Oper)(e:Env):Bool:=
 match o.guard with
 |none=>ab
 |some (j,want)=>match((ops[j]?).bind (·.dst))with
  |some d=>if azy d e.n then(match e.at d with|.raw (.bool b)=>b==want|_=>af)else af
  |none=>af
def Ej(ro:Nat)(l:Nat)(args:List IV)(σ:St):Option (IV×St):=
 match σ.at l with
 |some (.loop state pending f tm mb params assign body ga)=>
  if args.length≠params.length\/¬ro<=l\/state≠.ready then ah else
  let e:Env:=(params.zip args).foldl (λe (p,v)=>e.put (aa p) v) ⟨mb,tm⟩
  match S.code ro (aa l) f assign e [] σ with
  |some ⟨.normal,e,[],σ⟩=>
   match σ.at l with
   |some (.loop .ready pending f1 AV Fk params1 Xp ahs tA)=>
    match S.code ro (aa l) f body e [] (σ.put l (.loop .busy pending f1 AV Fk params1 Xp ahs tA))with
    |some ⟨ex,_,[],σ⟩=>
     if ex.Fj then ah else
     match σ.at l with
     |some (.loop _ _ f tm mb params assign body ga)=>
      aa (.bool (fV ex).isNone,σ.put l (.loop (if(fV ex).isNone then .ready else .done) (fV ex) f tm mb params assign body ga))
     |_=>ah
    |_=>ah
   |_=>ah
  |_=>ah
 |_=>ah
def kW(ro:Nat)(e:Env)(o:Oper)(σ:St):Option (IV×St):=
 match aA P ro (aD e) o σ with
 |some (.val v σ)=>aa (v,σ)
 |some (.enter f args)=>S.call ro f args σ
 |some (.round l args)=>Ej S ro l args σ
 |_=>ah
def BZ(ro:Nat)(rd:Option Nat)(ops:Array Oper):List Oper->Env->List Df->St->Option CR
 |[],e,df,σ=>aa ⟨.normal,e,df,σ⟩
 |o::rest,e,df,σ=>
  if aY o ops e then
   match kW P S ro e o σ with
   |some (v,σ)=>BZ ro rd ops rest (e.put o.dst v) df σ
   |none=>match aA P ro (aD e) o σ with
    |some (.dfr d)=>if rd.isNone then BZ ro rd ops rest (e.put o.dst .undef) (d::df) σ else ah
    |some (.enter f args)=>match S.cg ro f args σ with
     |some (v,σ)=>aa ⟨.cg v,e,df,σ⟩
     |none=>ah
    |some (.cg v)=>aa ⟨.cg v,e,df,σ⟩
    |_=>ah
  else BZ ro rd ops rest (e.put o.dst .undef) df σ
inductive Kind where
 |pure|alloc|load|call|effect
 deriving DecidableEq
def cR(o:Oper):Kind:=
 match o.op with
 |.move _|.assign _|.pick .. |.build .. |.binOp .. |.unOp .. |.convert .. |.makeInterface .. |.makeFunc .. |.slice .. |.fieldAddr .. |.field ..
 |.indexAddr .. |.index .. |.extract .. |.nilCheck _=>.pure
 |.call {callee:=.builtin .cap,.. }|.call {callee:=.builtin .min,.. }|.call {callee:=.builtin .max,.. }=>.pure
 |.alloc .. |.box .. |.buildSlice .. |.makeMap .. |.makeSlice .. =>.alloc
 |.load .. |.lookup .. |.entry _|.call {callee:=.builtin .len,.. }=>.load
 |.call {callee:=.value _,.. }|.call {callee:=.builtin .append,.. }=>.call
 |_=>.effect
def Jl(acc:List Nat)(o:Oper):List Nat:=
 acc++[o.after.toList.foldl (λs e=>if az7 .any e then Nat.lor s (Nat.lor (Nat.shiftLeft 1 e.on) (acc.getD e.on 0))else s) 0]
def K6(ops:Array Oper):List Nat:=ops.toList.foldl Jl []
def xw(ops:Array Oper)(o:Oper):List Nat:=
 (o.op.operands.toList.filterMap λ|.tmp t=>aa t|_=>ah)++(match o.guard with|some (j,_)=>(((ops[j]?).bind (·.dst)).toList)|none=>[])
structure ey where
 cq:List Nat
 kinds:List Kind
 ok:Bool
def aht:Kind->Kind->Bool
 |.effect,.effect|.effect,.call|.call,.effect=>ab
 |_,_=>af
def writes(o:Oper)(l:List Nat):Bool:=
 match o.dst with
 |some a=>l.contains a
 |none=>af
def Ek(cq:List Nat)(ks:List Kind)(Xq:List (List Nat))(p:Oper)(i:Nat)(o:Oper)(j:Nat):Bool:=
 (match p.dst,o.dst with|some a,aa b=> !ayQ a b|_,_=>ab)&&
 (!(ks.getD i .effect==.load)|| !writes o (Xq.getD i []))&&
 (ay7 (cq.getD j 0) i||(!writes p (Xq.getD j [])&& !writes o (Xq.getD i [])&& !aht (ks.getD i .effect) (ks.getD j .effect)))
def bS(ops:Array Oper):ey:=
 let l:=ops.toList.zipIdx
 let cq:=K6 ops
 let ord (i j:Nat):Bool:=if azy i j then ay7 (cq.getD j 0) i else ay7 (cq.getD i 0) j
 let ks:=l.map λ(o,i)=>match cR o with
  |.call=>if l.all λ(p,j)=>ayQ i j||(cR p)==.pure||ord i j then Kind.effect else Kind.call
  |k=>k
 let Xq:=ops.toList.map (xw ops)
 let ok:=l.all λ(o,j)=>
  (o.after.toList.all λe=> !az7 .any e||azy e.on j)&&
  (!(ks.getD j .effect==.load)|| !writes o (Xq.getD j []))&&
  (l.all λ(p,i)=> !azy i j||Ek cq ks Xq p i o j)
 ⟨cq,ks,ok⟩
def S2:IV->IV->Bool
 |.raw (.int j a),.raw (.int k b)=>j==k&&a==b
 |.raw (.bool a),.raw (.bool b)=>a==b
 |.raw (.string a),.raw (.string b)=>a.data.toList==b.data.toList
 |.ptr a b c d,.ptr a' b' c' d'=>ayQ a a'&&ayQ b b'&&ayQ c c'&&ayQ d d'
 |.map a,.map b=>ayQ a b
 |.sl a b c d e f,.sl a' b' c' d' e' f'=>ayQ a a'&&ayQ b b'&&ayQ c c'&&(d==d')&&ayQ e e'&&ayQ f f'
 |.emp,.emp=>ab
 |_,_=>af
structure Piece where
 j:Nat
 lo:Nat
 hi:Nat
 t:T Ob
def dO(b:T Ob)(p:Piece):T Ob:=
 (List.range' p.lo (p.hi- p.lo)).foldl (λb id=>match p.t.get id with|some o=>b.set id o|none=>b) b
structure DS where
 e:Env
 n:Nat
 bs:List (Nat×T Ob)
 aU:List Piece
def seen(aU:List Piece)(bits:Nat)(b:T Ob):T Ob:=(aU.filter λp=>ay7 bits p.j).foldl dO b
def abX{u v:IV}(h:S2 u v=ab):u=v:=by
 unfold S2 at h;split at h
 .grind
 .grind
 .rename_i a b
  have:a=b:=by
   cases a with|mk x=>simp_all
  grind
 all_goals simp_all
class Sm where
 sm:IV->IV->Bool
 ok:∀u v,sm u v=ab->u=v
abbrev yP:Sm:=⟨S2,λ_ _ h=>abX h⟩
section draw
variable[Sm]
def loadAt(e:Env)(o:Oper)(n:Nat)(v:IV)(aU:List Piece)(bits:Nat)(b:T Ob):Bool:=
 match aA P n (aD e) o ⟨n,seen aU bits b⟩with
 |some (.val u σ)=>ayQ σ.n n&&Sm.sm u v
 |_=>af
def nS(e:Env)(o:Oper)(n:Nat)(v:IV)(aU:List Piece)(bits:Nat):List (Nat×T Ob)->Bool
 |[]=>ab
 |(i,b)::rest=>loadAt P e o n v aU bits b&&(ay7 bits i||nS e o n v aU bits rest)
def recheck(pl:ey)(ops:Array Oper)(bits:Nat)(e:Env)(n:Nat)(aU:List Piece)(b:T Ob)(l:List (Oper×Nat)):Bool:=
 l.all λ(o,i)=>match pl.kinds.getD i .effect with
  |.load=>ay7 bits i|| !aY o ops e||(match o.dst with|some d=>loadAt P e o n (e.at d) aU (pl.cq.getD i 0) b|none=>af)
  |_=>ab
def bW(pl:ey)(ro:Nat)(ops:Array Oper)(o:Oper)(j:Nat)(d:DS):Option DS:=
 let bits:=pl.cq.getD j 0
 let Xr:=ops.toList.zipIdx.take j
 match d.bs with
 |[]=>ah
 |(i,b)::rest=>
  if aY o ops d.e then
   match pl.kinds.getD j .effect with
   |.pure=>match aA P 0 (aD d.e) o ⟨0,.lf⟩with
    |some (.val v σ)=>if σ.n=0 then aa {d with e:=d.e.put o.dst v}else ah
    |_=>ah
   |.alloc=>match aA P 0 (aD d.e) o ⟨d.n,.lf⟩with
    |some (.val v σ)=>aa {d with e:=d.e.put o.dst v,n:=σ.n,aU:=⟨j,d.n,σ.n,σ.t⟩::d.aU}
    |_=>ah
   |.load=>match aA P d.n (aD d.e) o ⟨d.n,seen d.aU bits b⟩with
    |some (.val v σ)=>
     if σ.n=d.n/\(ay7 bits i||nS P d.e o d.n v d.aU bits rest)=ab then aa {d with e:=d.e.put o.dst v}else ah
    |_=>ah
   |.call=>match kW P S d.n d.e o ⟨d.n,seen d.aU bits b⟩with
    |some (v,σ)=>aa {d with e:=d.e.put o.dst v,n:=σ.n,aU:=⟨j,d.n,σ.n,σ.t⟩::d.aU}
    |none=>ah
   |.effect=>
    match kW P S ro d.e o ⟨d.n,seen d.aU bits b⟩with
    |some (v,σ)=>
     let e:=d.e.put o.dst v
     if recheck P pl ops bits d.e σ.n (d.aU.filter λp=> !ay7 bits p.j) σ.t Xr then
      aa ⟨e,σ.n,(j,σ.t)::d.bs,d.aU.filter λp=> !ay7 bits p.j⟩
     else ah
    |none=>ah
  else match pl.kinds.getD j .effect with
   |.effect=>if recheck P pl ops bits d.e d.n d.aU b Xr then aa ⟨d.e.put o.dst .undef,d.n,(j,b)::d.bs,d.aU⟩else ah
   |_=>aa {d with e:=d.e.put o.dst .undef}
def j2(SF:Nat->Self)(pl:ey)(ro:Nat)(ops:Array Oper):List (Oper×Nat)->DS->Option DS
 |[],d=>aa d
 |(o,j)::rest,d=>match bW P (SF j) pl ro ops o j d with
  |some d=>j2 SF pl ro ops rest d
  |none=>ah
def kX(SF:Nat->Self)(ro:Nat)(ops:Array Oper)(e:Env)(df:List Df)(σ:St):Option CR:=
 let pl:=bS ops
 if pl.ok then
  match j2 P SF pl ro ops ops.toList.zipIdx ⟨e,σ.n,[(0,σ.t)],[]⟩with
  |some ⟨e,n,(_,b)::_,aU⟩=>aa ⟨.normal,e,df,⟨n,aU.foldl dO b⟩⟩
  |_=>ah
 else ah
end draw
def S3(ro:Nat)(ops:Array Oper)(e:Env)(df:List Df)(σ:St):Option CR:= @kX P yP (λ_=>S) ro ops e df σ
def AW(ro:Nat)(rd:Option Nat)(fn:FuncId)(c:Code)(e:Env)(df:List Df)(σ:St):Option CR:=
 match c with
 |.skip|.label _=>aa ⟨.normal,e,df,σ⟩
 |.region _ ops draw=>if draw then S3 P S ro ops e df σ else BZ P S ro rd ops ops.toList e df σ
 |.seq a b=>match S.code ro rd fn a e df σ with
  |some ⟨.normal,e,df,σ⟩=>S.code ro rd fn b e df σ
  |r=>r
 |.cond c a b=>match aD e c with
  |.raw (.bool t)=>S.code ro rd fn (if t then a else b) e df σ
  |_=>ah
 |.block id a=>match S.code ro rd fn a e df σ with
  |some ⟨.exit bz,e,df,σ⟩=>if bz=id then aa ⟨.normal,e,df,σ⟩else aa ⟨.exit bz,e,df,σ⟩
  |r=>r
 |.loop a=>match S.code ro rd fn a e df σ with
  |some ⟨.normal,e,df,σ⟩=>S.code ro rd fn (.loop a) e df σ
  |r=>r
 |.scope a=>match S.code ro rd fn a e df σ with
  |some ⟨.goto _,_,_,_⟩=>ah
  |r=>r
 |.exit id=>aa ⟨.exit id,e,df,σ⟩
 |.goto l=>aa ⟨.goto l,e,df,σ⟩
 |.ret=>aa ⟨.ret,e,df,σ⟩
 |.rangeFunc g params assign body=>
  let en:Option (Nat×St×List Df):=match rd with
   |none=>aa (σ.n,σ.add (.Ha af),[.xu σ.n])
   |some l=>match σ.at l with
    |some (.loop _ _ _ _ _ _ _ _ ga)=>aa (ga,σ,[])
    |_=>ah
  match en with
  |some (ga,σ,mark)=>
   let l:=σ.n
   let σ:=σ.add (.loop .ready ah fn e.t e.n params.toList assign body ga)
   match iH P (aD e g) [.sX l]with
   |some (.enter f args)=>match S.call ro f args σ with
    |some (_,σ)=>match σ.at l with
     |some (.loop state pending f tm mb ps as bd d)=>
      if state=.busy\/¬ro<=l then ah else
      let σ:=σ.put l (.loop .exhausted pending f tm mb ps as bd d)
      match pending with
      |none=>aa ⟨.normal,e,mark++df,σ⟩
      |some c=>S.code ro rd fn c e (mark++df) σ
     |_=>ah
    |none=>ah
   |_=>ah
  |none=>ah
 |.refuse _=>ah
def g_(ro:Nat):List Df->Option IV->St->Option (Option IV×St)
 |[],m,σ=>aa (m,σ)
 |.xu id::ds,m,σ=>match σ.at id with
  |some (.Ha af)=>if ro<=id then g_ ro ds m (σ.put id (.Ha ab))else ah
  |_=>ah
 |.call f args::ds,m,σ=>match S.zP ro f args m σ with
  |some (m,σ)=>g_ ro ds m σ
  |none=>ah
def dh(fn:Func)(e:Env)(σ:St):Option IV:=
 let one (r:ResultVar):Option IV:=match r with
  |.tmp t=>aa (e.at t)
  |.cell a t=>match e.at a with
   |.ptr id off ep ext=>match aX P t,σ.at id with
    |some s,aa (.cells cs aE mn)=>if s<=ext/\mn<=ep/\ep<=aE then partOf P t cs off else ah
    |_,_=>ah
   |_=>ah
 match fn.results.toList with
 |[r]=>one r
 |l=>match l.mapM one with
  |some vs=>aa (.aF vs)
  |none=>ah
def El(ro:Nat)(f:FuncId)(args:List IV)(σ:St):Option (Func×Env×Option IV×St):=
 match P.funcs[f]? with
 |some fn=>match fn.body with
  |some c=>
   if args.length>fn.ntmps then ah else
   let e:Env:=(args.zipIdx).foldl (λe (v,i)=>e.put (aa i) v) ⟨fn.ntmps,.lf⟩
   match S.code ro ah f c e [] σ with
   |some ⟨.normal,e,df,σ⟩|some ⟨.ret,e,df,σ⟩=>match g_ S ro df ah σ with
    |some (m,σ)=>aa (fn,e,m,σ)
    |none=>ah
   |some ⟨.cg v,e,df,σ⟩=>match g_ S ro df (aa v) σ with
    |some (m,σ)=>aa (fn,e,m,σ)
    |none=>ah
   |_=>ah
  |none=>ah
 |none=>ah
def S4(ro:Nat)(f:FuncId)(args:List IV)(σ:St):Option (IV×St):=
 match El P S ro f args σ with
 |some (fn,e,ah,σ)=>match dh P fn e σ with
  |some v=>aa (v,σ)
  |none=>ah
 |_=>ah
def Zt(ro:Nat)(f:FuncId)(args:List IV)(σ:St):Option (IV×St):=
 match El P S ro f args σ with
 |some (_,_,aa v,σ)=>aa (v,σ)
 |_=>ah
def pw(o:Oper):Bool:=
 match o.op with
 |.call {callee:=.builtin .recover,.. }=>ab
 |_=>af
def qb(ro:Nat)(ops:Array Oper):List Oper->Env->Option IV->St->Option (Env×Option IV×St)
 |[],e,m,σ=>aa (e,m,σ)
 |o::rest,e,m,σ=>
  if aY o ops e then
   if pw o then
    match m with
    |some v=>qb ro ops rest (e.put o.dst v) ah σ
    |none=>qb ro ops rest (e.put o.dst (.raw .nilIface)) ah σ
   else match aA P ro (aD e) o σ with
    |some (.val v σ)=>qb ro ops rest (e.put o.dst v) m σ
    |_=>ah
  else qb ro ops rest (e.put o.dst .undef) m σ
def Em(ro:Nat)(fn:FuncId):Code->Env->Option IV->St->Option (CR×Option IV)
 |.seq a b,e,m,σ=>match Em ro fn a e m σ with
  |some (⟨.normal,e,[],σ⟩,m)=>Em ro fn b e m σ
  |some (⟨.normal,_,_,_⟩,_)=>ah
  |r=>r
 |.region id ops draw,e,m,σ=>
  if !draw&&ops.any pw then match qb P ro ops ops.toList e m σ with
   |some (e,m,σ)=>aa (⟨.normal,e,[],σ⟩,m)
   |none=>ah
  else match S.code ro ah fn (.region id ops draw) e [] σ with
   |some r=>aa (r,m)
   |none=>ah
 |c,e,m,σ=>match S.code ro ah fn c e [] σ with
  |some r=>aa (r,m)
  |none=>ah
def Fl(ro:Nat)(f:FuncId)(args:List IV)(m:Option IV)(σ:St):Option (Option IV×St):=
 match P.funcs[f]? with
 |some fn=>
  if !(fn.body.isSome&&fn.name != "runtime.NumGoroutine")then ah else
  match fn.body with
  |some c=>
   if args.length>fn.ntmps then ah else
   let e:Env:=(args.zipIdx).foldl (λe (v,i)=>e.put (aa i) v) ⟨fn.ntmps,.lf⟩
   match Em P S ro f c e m σ with
   |some (⟨.normal,e,[],σ⟩,m)|some (⟨.ret,e,[],σ⟩,m)=>match dh P fn e σ with
    |some _=>aa (m,σ)
    |none=>ah
   |_=>ah
  |none=>ah
 |none=>ah
end steps
def Self.none:Self:=⟨λ_ _ _ _ _ _ _=>aBY,λ_ _ _ _=>aBY,λ_ _ _ _=>aBY,λ_ _ _ _ _=>aBY⟩
def nj(P:Program)(S:Self):Self:=⟨AW P S,S4 P S,Zt P S,Fl P S⟩
def ev(P:Program)(n:Nat):Self:=Nat.rec Self.none (λ_ S=>nj P S) n
end Go.Ev
namespace Go.Ev
namespace T
variable{α:Type}
theorem Eo(l:T α)(v:Option α)(r:T α)(i:Nat):(T.nd l v r).get i=if i=0 then v else if i % 2=1 then l.get (i/2)else r.get (i/2- 1):=by
 simp[get]
theorem Xs(f:Nat)(l:T α)(v:Option α)(r:T α)(i:Nat)(x:α):uE (f+1) (T.nd l v r) i x=
 if i=0 then .nd l (aa x) r else if i % 2=1 then .nd (uE f l (i/2) x) v r else .nd l v (uE f r (i/2- 1) x):=by
 simp[uE]
theorem Xt(f:Nat)(i:Nat)(x:α):uE (f+1) (.lf:T α) i x=uE (f+1) (.nd .lf ah .lf) i x:=by
 rfl
theorem ajl(i:Nat):(T.lf:T α).get i=(T.nd .lf ah .lf:T α).get i:=by
 grind [get]
theorem K7:∀(f:Nat) (t:T α) (i:Nat) (x:α) (j:Nat),i<f->(uE f t i x).get j=if i=j then aa x else t.get j:=by
 intro f;induction f with
 |zero=>simp
 |succ f ih=>
  intro t i x j h
  have key:∀(l:T α) (v:Option α) (r:T α),(uE (f+1) (.nd l v r) i x).get j=if i=j then aa x else(T.nd l v r).get j:=by
   intro l v r;rw[Xs,Eo];by_cases hi:i=0
   .subst hi;rw[if_pos rfl,Eo]
    grind
   .rw[if_neg hi];by_cases ho:i % 2=1
    .rw[if_pos ho,Eo]
     grind
    .rw[if_neg ho,Eo]
     grind
  cases t with
  |lf=>rw[Xt,key,ajl]
  |nd l v r=>grind
theorem hZ(t:T α)(i:Nat)(x:α)(j:Nat):(t.set i x).get j=if i=j then aa x else t.get j:=K7 _ _ _ _ _ aj
@[simp] theorem axF(j:Nat):(T.lf:T α).get j=ah:=rfl
end T
theorem gv{α:Type}{P:Program}(w:World):∀(s:Sem α) {a:α},aK P s=aa a->s.run P w=.ok a w
 |.pure _,_,h=>by simp_all[aK]
 |.program k,_,h=>by exact gv w (k P) h
 |.mark m k,_,h=>by exact gv w k h
 |.load ..,_,h|.store ..,_,h|.new ..,_,h|.shape ..,_,h|.freeze ..,_,h|.frozen ..,_,h|.getObj ..,_,h|.setObj ..,_,h|.choose ..,_,h|.sys ..,_,h|.halt ..,_,h=>by cases h
structure Loc where
 b:Nat
 n:Nat
 Ep:Nat
abbrev Fz:=Nat->Option (Array Value)
structure Io where
 f:Nat->Nat->Option Loc
 m:Fz
instance:CoeFun Io (λ_=>Nat->Nat->Option Loc):=⟨Io.f⟩
structure Ext(ι aM:Io):Prop where
 f:∀id e l,ι id e=aa l->aM id e=aa l
 m:∀b c,ι.m b=aa c->aM.m b=aa c
instance{ι aM:Io}:CoeFun (Ext ι aM) (λ_=>∀id e l,ι id e=aa l->aM id e=aa l):=⟨Ext.f⟩
theorem Ext.refl(ι:Io):Ext ι ι:=⟨λ_ _ _ h=>h,λ_ _ h=>h⟩
theorem Ext.trans{ι bQ sY:Io}(h:Ext ι bQ)(k:Ext bQ sY):Ext ι sY:=⟨λ_ _ _ x=>k.f _ _ _ (h.f _ _ _ x),λ_ _ x=>k.m _ _ (h.m _ _ x)⟩
def qJ(M:Fz)(b off:Nat):Option Value:=(M b).bind (·[off]?)
theorem Fm{M M':Fz}(h:∀b c,M b=aa c->M' b=aa c){b off:Nat}{v:Value}(hc:qJ M b off=aa v):qJ M' b off=aa v:=by
 unfold qJ at hc⊢;cases hb:M b with
 |none=>grind
 |some c=>grind
inductive Rv(ι:Io):IV->Value->Prop
 |raw (v:Value):Rv ι (.raw v) v
 |agg (cs:List IV) (vs:List Value) (hl:cs.length=vs.length) (h:∀(i:Nat) (c:IV) (v:Value),cs[i]?=aa c->vs[i]?=aa v->Rv ι c v):Rv ι (.agg cs) (.agg vs.toArray)
 |aF (cs:List IV) (vs:List Value) (hl:cs.length=vs.length) (h:∀(i:Nat) (c:IV) (v:Value),cs[i]?=aa c->vs[i]?=aa v->Rv ι c v):Rv ι (.aF cs) (.tuple vs.toArray)
 |ptr (id off ep ext:Nat) (l:Loc) (hl:ι id ep=aa l) (hx:off+ext<=l.n/\off+ext<=l.Ep):Rv ι (.ptr id off ep ext) (.pointer (aa ⟨l.b,off,ah⟩))
 |sl (id off len:Nat) (cap:Option Nat) (ep s:Nat) (l:Loc) (c:Nat) (a:Addr) (hl:ι id ep=aa l) (hn:off+len*s<=l.n) (kF:off+c*s<=l.Ep) (hs:0<s) (hle:len<=c)
   (kG:∀k,cap=aa k->c=k/\off+c*s<=l.n) (ha:0<c->a=⟨l.b,off,ah⟩):Rv ι (.sl id off len cap ep s) (.slice (aa a) len c)
 |emp (a:Addr):Rv ι .emp (.slice (aa a) 0 0)
 |map (id:Nat) (l:Loc) (hl:ι id 0=aa l):Rv ι (.map id) (.map (aa l.b))
 |fn (f:Fn) (as bs:List IV) (cs ds:List Value) (hl:as.length=cs.length) (h:∀(i:Nat) (c:IV) (v:Value),as[i]?=aa c->cs[i]?=aa v->Rv ι c v)
   (gb:bs.length=ds.length) (h2:∀(i:Nat) (c:IV) (v:Value),bs[i]?=aa c->ds[i]?=aa v->Rv ι c v):Rv ι (.fn f as bs) (.func f cs.toArray ds.toArray)
 |sX (id:Nat) (l:Loc) (hl:ι id 0=aa l):Rv ι (.sX id) (.func (.yield l.b) #[] #[])
 |dP (t:TypeId) (x:IV) (v:Value) (h:Rv ι x v):Rv ι (.dP t x) (.iface t v)
 |tree (s:Nat) (es:List IV) (b off c:Nat) (us:Nat->Value) (hs:0<s) (hc:es.length<=c) (bH:∀e∈es,(cellsOf e).length=s)
   (hu:∀k,k<es.length*s->qJ ι.m b (off+k)=aa (us k)) (h:∀(i:Nat) (e:IV) (j:Nat) (c:IV),es[i]?=aa e->(cellsOf e)[j]?=aa c->Rv ι c (us (i*s+j))):
   Rv ι (.tree s es) (.slice (aa ⟨b,off,ah⟩) es.length c)
 |eJ (s:Nat) (a:Option Addr) (c:Nat) (hs:0<s) (hn:a=ah->c=0):Rv ι (.tree s []) (.slice a 0 c)
 |na (cs:List IV) (b off:Nat) (us:Nat->Value) (hu:∀k,k<cs.length->qJ ι.m b (off+k)=aa (us k)) (h:∀(j:Nat) (c:IV),cs[j]?=aa c->Rv ι c (us j)):
   Rv ι (.na cs) (.pointer (aa ⟨b,off,ah⟩))
theorem Rv.mono{ι aM:Io}(i_:Ext ι aM){x:IV}{v:Value}(h:Rv ι x v):Rv aM x v:=by
 induction h with
 |raw v=>exact .raw v
 |agg cs vs hl _ ih=>exact .agg cs vs hl ih
 |aF cs vs hl _ ih=>exact .aF cs vs hl ih
 |ptr id off ep ext l hl hx=>exact .ptr id off ep ext l (i_ _ _ _ hl) hx
 |sl id off len cap ep s l c a hl hn kF hs hle kG ha=>exact .sl id off len cap ep s l c a (i_ _ _ _ hl) hn kF hs hle kG ha
 |emp a=>exact .emp a
 |map id l hl=>exact .map id l (i_ _ _ _ hl)
 |fn f as bs cs ds hl _ gb _ ih gK=>exact .fn f as bs cs ds hl ih gb gK
 |sX id l hl=>exact .sX id l (i_ _ _ _ hl)
 |dP t x v _ ih=>exact .dP t x v ih
 |tree s es b off c us hs hc bH hu _ ih=>exact .tree s es b off c us hs hc bH (λk hk=>Fm i_.m (hu k hk)) ih
 |eJ s a c hs hn=>exact .eJ s a c hs hn
 |na cs b off us hu _ ih=>exact .na cs b off us (λk hk=>Fm i_.m (hu k hk)) ih
def aN(ι:Io)(cs:List IV)(vs:List Value):Prop:=cs.length=vs.length/\∀(i:Nat) (c:IV) (v:Value),cs[i]?=aa c->vs[i]?=aa v->Rv ι c v
section lists
variable{ι:Io}
theorem aN.mono{aM:Io}(i_:Ext ι aM){cs:List IV}{vs:List Value}(h:aN ι cs vs):aN aM cs vs:=
 ⟨h.1,λi c v h1 h2=>(h.2 i c v h1 h2).mono i_⟩
theorem aN.nil:aN ι [] []:=⟨rfl,λi c v h _=>by grind⟩
theorem aN.cons{c:IV}{v:Value}{cs:List IV}{vs:List Value}(h:Rv ι c v)(hs:aN ι cs vs):aN ι (c::cs) (v::vs):=by
 refine⟨by simp[hs.1],λi=>?_⟩;cases i with
 |zero=>grind
 |succ i=>intro c' v' h1 h2;simp at h1 h2;exact hs.2 i c' v' h1 h2
theorem aN.yQ{c:IV}{cs:List IV}{vs:List Value}(h:aN ι (c::cs) vs):∃v zQ,vs=v::zQ/\Rv ι c v/\aN ι cs zQ:=by
 cases vs with
 |nil=>grind [aN]
 |cons v zQ=>exact⟨v,zQ,rfl,h.2 0 c v rfl rfl,by simp_all[aN],λi c' v' h1 h2=>h.2 (i+1) c' v' h1 h2⟩
theorem aN.of_nil{vs:List Value}(h:aN ι [] vs):vs=[]:=azb h.1.symm
theorem aN.append{cs ds:List IV}{vs us:List Value}(h:aN ι cs vs)(k:aN ι ds us):aN ι (cs++ds) (vs++us):=by
 refine⟨by simp[h.1,k.1],λi c v h1 h2=>?_⟩;by_cases hi:i<cs.length
 .rw[ayZ hi]at h1;rw[ayZ (h.1▸hi)]at h2;exact h.2 i c v h1 h2
 .rw[aze aj]at h1;rw[aze (by have:=h.1;omega),<-h.1]at h2;exact k.2 _ c v h1 h2
theorem aN.drop(n:Nat){cs:List IV}{vs:List Value}(h:aN ι cs vs):aN ι (cs.drop n) (vs.drop n):=
 ⟨by simp[h.1],λi c v h1 h2=>h.2 (n+i) c v bc bc⟩
theorem aN.take(n:Nat){cs:List IV}{vs:List Value}(h:aN ι cs vs):aN ι (cs.take n) (vs.take n):=by
 refine⟨by simp[h.1],λi c v h1 h2=>?_⟩;rw[azn]at h1 h2;split at h1
 .rename_i hi;rw[if_pos hi]at h2;exact h.2 i c v h1 h2
 grind
theorem aN.eV(off:Nat){cs ds:List IV}{vs us:List Value}(h:aN ι cs vs)(k:aN ι ds us):aN ι (eV cs off ds) (vs.take off++us++vs.drop (off+us.length)):=by
 unfold Ev.eV;rw[k.1];exact((h.take off).append k).append (h.drop _)
theorem aN.get{cs:List IV}{vs:List Value}(h:aN ι cs vs){i:Nat}{c:IV}(hc:cs[i]?=aa c):∃v,vs[i]?=aa v/\Rv ι c v:=by
 have hi:i<vs.length:=by have:=(ayH.1 hc).1;have:=h.1;omega
 exact⟨vs[i],ayG hi,h.2 i c _ hc (ayG hi)⟩
theorem aN.vy(vs:List Value):aN ι (vs.map .raw) vs:=by
 refine⟨by simp,λi c v h1 h2=>?_⟩;simp only[ay1,h2,azl,ayO]at h1;subst h1;exact .raw v
theorem aN.of_map{α:Type}{f:α->IV}{g:α->Value}{l:List α}(h:∀a∈l,Rv ι (f a) (g a)):aN ι (l.map f) (l.map g):=by
 refine⟨by simp,λi c v h1 h2=>?_⟩
 grind
end lists
section shapes
variable{ι:Io}
theorem Rv.lift(v:Value):Rv ι (Ev.lift v) v:=by
 unfold Ev.lift;split
 .rename_i cs;have:=Rv.agg (ι:=ι) (cs.toList.map .raw) cs.toList aw (aN.vy cs.toList).2;omega
 .exact .raw _
theorem DM:∀{cs:List IV} {us:List Value},lx cs=aa us->∀{vs:List Value},aN ι cs vs->vs=us
 |[],us,h,vs,hr=>by simp only[lx,ayO]at h;subst h;exact hr.of_nil
 |c::cs,us,h,vs,hr=>by
  obtain⟨v,zQ,rfl,h1,h2⟩:=hr.yQ;simp only[lx]at h;split at h
  .split at h
   .rename_i u w9 hu;simp only[ayO]at h;subst h;cases h1;rw[DM hu h2]
   grind
  grind
theorem Qt{x:IV}{u v:Value}(h:rH x=aa u)(hr:Rv ι x v):v=u:=by
 unfold rH at h;split at h
 .cases hr;grind
 .split at h
  .rename_i us hu;cases hr with
   |agg cs vs hl hh=>
    simp only[ayO]at h;subst h;rw[DM hu ⟨hl,hh⟩]
  grind
 grind
theorem Fo{x:IV}{u v:Value}(h:lJ x=aa u)(hr:Rv ι x v):v=u:=by
 unfold lJ at h;split at h<;>try exact Qt h hr
 split at h
 .rename_i hu;cases hr with
  |dP t x v hh=>
   simp only[ayO]at h;subst h;rw[Qt hu hh]
 grind
theorem Rv.cells{x:IV}{v:Value}(h:Rv ι x v)(hx:∀u,x=.raw u->∀c,u≠.agg c):aN ι (cellsOf x) v.cells.toList:=by
 cases h with
 |agg cs vs hl hh=>exact⟨hl,hh⟩
 |raw v=>
  have:v.cells= #[v]:=by
   cases v<;>first|rfl|grind
  simp only[this];exact aN.cons (.raw v) aN.nil
 |aF cs vs hl hh=>exact aN.cons (.aF cs vs hl hh) aN.nil
 |ptr id off ep ext l hl kY=>exact aN.cons (.ptr id off ep ext l hl kY) aN.nil
 |sl id off len cap ep s l c a hl hn kF hs hle kG ha=>exact aN.cons (.sl id off len cap ep s l c a hl hn kF hs hle kG ha) aN.nil
 |emp a=>exact aN.cons (.emp a) aN.nil
 |map id l hl=>exact aN.cons (.map id l hl) aN.nil
 |fn f as bs cs ds hl h1 gb h2=>exact aN.cons (.fn f as bs cs ds hl h1 gb h2) aN.nil
 |sX id l hl=>exact aN.cons (.sX id l hl) aN.nil
 |dP t x v h=>exact aN.cons (.dP t x v h) aN.nil
 |tree s es b off c us hs hc bH hu h=>exact aN.cons (.tree s es b off c us hs hc bH hu h) aN.nil
 |eJ s a c hs hn=>exact aN.cons (.eJ s a c hs hn) aN.nil
 |na cs b off us hu h=>exact aN.cons (.na cs b off us hu h) aN.nil
theorem Rv.Fp{x:IV}{v:Value}(h:Rv ι x v)(hx:(cellsOf x).all ao=ab):aN ι (cellsOf x) v.cells.toList:=by
 refine h.cells λu hu c hc=>?_
 simp_all[cellsOf,ao]
theorem abY{x:IV}{v:Value}(h:Rv ι x v)(hx:ao x=ab):(∀c,v≠.agg c)/\(∀c,v≠.tuple c):=by
 cases h<;>first|(simp[ao]at hx;done)|(constructor<;>(intro c hc;first|(cases hc;done)|(subst hc;simp[ao]at hx;done)))
end shapes
end Go.Ev
namespace Go.Ev
def Own(ι:Io)(id b:Nat):Prop:=∃e l,ι id e=aa l/\l.b=b
def ja(ι:Io)(es:List (Value×IV×Nat))(res:Array MapEntry):Prop:=
 es.length=res.size/\∀(i:Nat) (e:Value×IV×Nat) (r:MapEntry),es[i]?=aa e->res[i]?=aa r->r.key=e.1/\Rv ι e.2.1 r.val/\r.born=e.2.2
def my(ι:Io)(w:World)(id:Nat):Ob->Prop
 |.cells cs ep mn=>(mn<=ep/\∀e,ep<e->ι id e=ah)/\(∃l,ι id ep=aa l/\l.n=cs.length)/\∀e,mn<=e->e<=ep->∃l c el,ι id e=aa l/\l.n<=cs.length/\w.heap[l.b]?=aa (.cells c el (0,0))/\
   l.Ep=c.size/\∀k x,k<l.n->cs[k]?=aa x->∃u,c[k]?=aa u/\Rv ι x u
 |.map es clock=>∃l res,ι id 0=aa l/\w.heap[l.b]?=aa (.map res clock)/\ja ι es res
 |.sB s pos=>∃l,ι id 0=aa l/\w.heap[l.b]?=aa (.stringIter s pos)
 |.kV m since seen AF=>∃l mr,ι id 0=aa l/\w.heap[l.b]?=aa (.mapIter mr since seen.toArray AF)/\
   (match m with|none=>mr=ah|some m=>∃lm,ι m 0=aa lm/\mr=aa lm.b)
 |.loop st DN _ tm mb ps gL bd ga=>∃l ld ts f,ι id 0=aa l/\ι ga 0=aa ld/\
   w.heap[l.b]?=aa (.loop {state:=st,pending:=DN,fn:=f,tmps:=ts,params:=ps.toArray,assign:=gL,body:=bd,defers:=ld.b})/\
   ts.size=mb/\∀t,Rv ι ((tm.get t).getD .undef) (ts.getD t azm)
 |.Ha taken=>∃l,ι id 0=aa l/\w.heap[l.b]?=aa (.deferred (if taken then ah else aa []))
structure Inv(N:Nat)(ι:Io)(σ:St)(w:World):Prop where
 mem:∀b c,ι.m b=aa c->∃e f,w.heap[b]?=aa (.cells c e f)
 sep:∀b c id,ι.m b=aa c->¬Own ι id b
 gU:∀id b,Own ι id b->b<w.heap.size
 fresh:∀id,σ.n<=id->id<N->∀e,ι id e=ah
 inj:∀i j b,Own ι i b->Own ι j b->i=j
 obj:∀id o,σ.at id=aa o->my ι w id o
 wf:∀id,σ.n<=id->σ.at id=ah
structure Le(ro:Nat)(ι:Io)(w:World)(σ:St)(aM:Io)(w':World)(au:St):Prop where
 ext:Ext ι aM
 own:∀id b,Own aM id b->Own ι id b\/w.heap.size<=b
 B8:∀id,σ.at id=ah->(id<σ.n\/au.n<=id)->∀e,aM id e=ι id e
 dead:∀id,σ.at id=ah->(id<σ.n\/au.n<=id)->au.at id=ah
 zx:∀id,id<ro->id<σ.n->au.at id=σ.at id
 zy:σ.n<=au.n
 os:w'.os=w.os
 tape:w'.tape=w.tape
 output:w'.output=w.output
 size:w.heap.size<=w'.heap.size
 frame:∀b,b<w.heap.size->(∀id,Own ι id b->id<ro\/σ.at id=ah)->w'.heap[b]?=w.heap[b]?
 zz:∀b c,aM.m b=aa c->ι.m b=aa c\/w.heap.size<=b
theorem Le.refl(ro:Nat)(ι:Io)(w:World)(σ:St):Le ro ι w σ ι w σ:=
 ⟨Ext.refl _,λ_ _ h=>.inl h,λ_ _ _ _=>rfl,λ_ h _=>h,λ_ _ _=>rfl,ayL _,rfl,rfl,rfl,ayL _,λ_ _ _=>rfl,λ_ _ h=>.inl h⟩
theorem Le.trans{ro:Nat}{ι bQ sY:Io}{w w1 w2:World}{σ av cO:St}(hf:∀id,σ.n<=id->id<av.n->∀e,ι id e=ah)
 (h:Le ro ι w σ bQ w1 av)(k:Le ro bQ w1 av sY w2 cO):Le ro ι w σ sY w2 cO where
 ext:=h.ext.trans k.ext
 own:=λid b hb=>(k.own id b hb).elim (λhb=>h.own id b hb) (λhb=>.inr (ay6 h.size hb))
 B8:=λid hn hr e=>(k.B8 id (h.dead id hn (by have:=k.zy;omega)) (by have:=h.zy;omega) e).trans (h.B8 id hn (by have:=k.zy;omega) e)
 dead:=λid hn hr=>k.dead id (h.dead id hn (by have:=k.zy;omega)) (by have:=h.zy;omega)
 zx:=λid hr hn=>(k.zx id hr (by have:=h.zy;omega)).trans (h.zx id hr hn)
 zy:=ay6 h.zy k.zy
 os:=k.os.trans h.os
 tape:=k.tape.trans h.tape
 output:=k.output.trans h.output
 size:=ay6 h.size k.size
 frame:=λb hb hc=>by
  rw[k.frame b (aAl hb h.size) ?_,h.frame b hb hc];intro id hid;rcases h.own id b hid with ho|ho
  .rcases hc id ho with ak|hd
   .omega
   .right;refine h.dead id hd ?_;by_cases hn:id<σ.n
    .omega
    .by_cases eG:id<av.n
     .have⟨e,l,hl,_⟩:=ho
      grind
     omega
  .omega
 zz:=λb c hb=>(k.zz b c hb).elim (λhb=>h.zz b c hb) (λhb=>.inr (ay6 h.size hb))
theorem ja.mono{ι aM:Io}(i_:Ext ι aM){es:List (Value×IV×Nat)}{res:Array MapEntry}(h:ja ι es res):ja aM es res:=
 ⟨h.1,λi e r h1 h2=>let⟨a,b,c⟩:=h.2 i e r h1 h2;⟨a,b.mono i_,c⟩⟩
theorem my.vz{ι aM:Io}{w w':World}{id:Nat}(i_:Ext ι aM)(hid:∀e,aM id e=ι id e)(hb:∀b,Own ι id b->w'.heap[b]?=w.heap[b]?):
 ∀{o:Ob},my ι w id o->my aM w' id o
 |.cells cs ep mn,h=>by
  have⟨h1,⟨l,hl,hn⟩,h3⟩:=h;refine⟨⟨h1.1,λe he=>(hid e).trans (h1.2 e he)⟩,⟨l,i_ _ _ _ hl,hn⟩,λe he gw=>?_⟩;have⟨l,c,el,hl,hn,hc,kF,hk⟩:=h3 e he gw;refine⟨l,c,el,i_ _ _ _ hl,hn,by rw[hb _ ⟨e,l,hl,rfl⟩];omega,kF,λk x yR hx=>?_⟩;have⟨u,hu,hr⟩:=hk k x yR hx;exact⟨u,hu,hr.mono i_⟩
 |.map es clock,h=>by
  have⟨l,res,hl,hh,he⟩:=h;exact⟨l,res,i_ _ _ _ hl,by rw[hb _ ⟨0,l,hl,rfl⟩];omega,he.mono i_⟩
 |.sB s pos,h=>by
  have⟨l,hl,hh⟩:=h;exact⟨l,i_ _ _ _ hl,by rw[hb _ ⟨0,l,hl,rfl⟩];omega⟩
 |.kV m since seen AF,h=>by
  have⟨l,mr,hl,hh,hm⟩:=h;refine⟨l,mr,i_ _ _ _ hl,by rw[hb _ ⟨0,l,hl,rfl⟩];omega,?_⟩;cases m with
  |none=>omega
  |some m=>have⟨lm,h1,h2⟩:=hm;exact⟨lm,i_ _ _ _ h1,h2⟩
 |.loop st DN f tm mb ps gL bd ga,h=>by
  have⟨l,ld,ts,f,hl,hd,hh,hs,ht⟩:=h;exact⟨l,ld,ts,f,i_ _ _ _ hl,i_ _ _ _ hd,by rw[hb _ ⟨0,l,hl,rfl⟩];omega,hs,λt=>(ht t).mono i_⟩
 |.Ha taken,h=>by
  have⟨l,hl,hh⟩:=h;exact⟨l,i_ _ _ _ hl,by rw[hb _ ⟨0,l,hl,rfl⟩];omega⟩
@[simp] theorem St.dt(σ:St)(id:Nat)(o:Ob)(j:Nat):(σ.put id o).at j=if id=j then aa o else σ.at j:=by simp[St.at,St.put,T.hZ]
@[simp] theorem St.jO(σ:St)(o:Ob)(j:Nat):(σ.add o).at j=if σ.n=j then aa o else σ.at j:=by simp[St.at,St.add,T.hZ]
@[simp] theorem St.qK(σ:St)(id:Nat)(o:Ob):(σ.put id o).n=σ.n:=rfl
@[simp] theorem St.pD(σ:St)(o:Ob):(σ.add o).n=σ.n+1:=rfl
theorem Inv.change{N:Nat}{ι aM:Io}{σ au:St}{w w':World}{sZ:Nat}{fB:Ob}(h:Inv N ι σ w)
 (i_:Ext ι aM)(uF:∀i,i≠sZ->∀e,aM i e=ι i e)(pE:∀id b,Own aM id b->Own ι id b\/(id=sZ/\w.heap.size<=b))
 (aum:∀b,Own aM sZ b->b<w'.heap.size)(bo:w.heap.size<=w'.heap.size)
 (S5:∀b,b<w.heap.size->¬Own ι sZ b->w'.heap[b]?=w.heap[b]?)(eW:my aM w' sZ fB)
 (aT:∀j,au.at j=if sZ=j then aa fB else σ.at j)(hn:σ.n<=au.n/\sZ<au.n)(qc:∀id,au.n<=id->id<N->∀e,aM id e=ah)(hm:aM.m=ι.m:=by rfl):Inv N aM au w' where
 mem:=λb c hb=>by
  rw[hm]at hb;have⟨e,f,hh⟩:=h.mem b c hb
  have ak:b<w.heap.size:=by
   grind
  exact⟨e,f,by rw[S5 b ak (h.sep b c sZ hb)];omega⟩
 sep:=λb c id hb ho=>by
  rw[hm]at hb;rcases pE id b ho with ho|⟨_,ho⟩
  .exact h.sep b c id hb ho
  .have⟨e,f,hh⟩:=h.mem b c hb
   grind
 gU:=λid b ho=>by
  rcases pE id b ho with ho'|⟨rfl,_⟩
  .exact aAl (h.gU id b ho') bo
  grind
 fresh:=qc
 inj:=λi j b hi hj=>by
  rcases pE i b hi with ct|⟨rfl,ct⟩<;>rcases pE j b hj with oT|⟨rfl,oT⟩
  .exact h.inj i j b ct oT
  .exact absurd (h.gU i b ct) aj
  .exact absurd (h.gU j b oT) aj
  .rfl
 obj:=λid o ho=>by
  rw[aT]at ho;split at ho
  .grind
  .rename_i bA;refine(h.obj id o ho).vz i_ (uF id (Ne.symm bA)) λb hb=>?_;refine S5 b (h.gU id b hb) λhb0=>bA (h.inj sZ id b hb0 hb)
 wf:=λid hid=>by
  rw[aT,if_neg aj];exact h.wf id aj
theorem Inv.same{N:Nat}{ι:Io}{σ:St}{w w':World}(h:Inv N ι σ w)(hh:w'.heap=w.heap):Inv N ι σ w' where
 mem:=λb c hb=>by rw[hh];exact h.mem b c hb
 sep:=h.sep
 gU:=λid b ho=>by rw[hh];exact h.gU id b ho
 fresh:=h.fresh
 inj:=h.inj
 obj:=λid o ho=>(h.obj id o ho).vz (Ext.refl _) (λ_=>rfl) λb _=>by rw[hh]
 wf:=h.wf
theorem Le.same{ro:Nat}{ι:Io}{σ:St}{w w':World}(hh:w'.heap=w.heap)(ho:w'.os=w.os)(ht:w'.tape=w.tape)(hp:w'.output=w.output):Le ro ι w σ ι w' σ:=
 ⟨Ext.refl _,λ_ _ h=>.inl h,λ_ _ _ _=>rfl,λ_ h _=>h,λ_ _ _=>rfl,ayL _,ho,ht,hp,by grind,λ_ _ _=>by rw[hh],λ_ _ h=>.inl h⟩
def eR(ι:Io)(id ep:Nat)(l:Loc):Io:=⟨λi e=>if i=id/\e=ep then aa l else ι i e,ι.m⟩
theorem cC(ι:Io)(id ep:Nat)(l:Loc):eR ι id ep l id ep=aa l:=by simp[eR]
theorem mz{ι:Io}{id ep:Nat}{l:Loc}(h:ι id ep=ah):Ext ι (eR ι id ep l):=by
 refine⟨?_,λ_ _ h=>h⟩;intro i e l' hl;show(if i=id/\e=ep then aa l else ι i e)=aa l'
 grind
theorem pF{ι:Io}{id ep:Nat}{l:Loc}{i b:Nat}(h:Own (eR ι id ep l) i b):Own ι i b\/(i=id/\b=l.b):=by
 have⟨e,l',hl,hb⟩:=h;change(if i=id/\e=ep then aa l else ι i e)=aa l' at hl;split at hl
 .grind
 .exact .inl ⟨e,l',hl,hb⟩
theorem Inv.add{N ro:Nat}{ι:Io}{σ:St}{w w':World}{o:aCD}{ob:Ob}{l:Loc}(h:Inv N ι σ w)(hN:σ.n<N)(hw:w'.heap=w.heap.push o)
 (u6:w'.os=w.os)(Hx:w'.tape=w.tape)(Hy:w'.output=w.output)(hl:l.b=w.heap.size)(eW:my (eR ι σ.n 0 l) w' σ.n ob):
 Inv N (eR ι σ.n 0 l) (σ.add ob) w'/\Le ro ι w σ (eR ι σ.n 0 l) w' (σ.add ob):=by
 have ki:=h.fresh σ.n (ayL _) hN;have bo:w'.heap.size=w.heap.size+1:=bc;have hold:∀b,b<w.heap.size->w'.heap[b]?=w.heap[b]? :=λb hb=>by grind
 refine⟨h.change (sZ:=σ.n) (mz (ki 0)) (λi hi e=>by simp[eR,hi]) ?_ ?_ aj (λb hb _=>hold b hb) eW (λj=>by simp) ⟨by simp,by simp⟩ ?_,?_⟩
 .intro id b hb;rcases pF hb with hb|⟨h1,h2⟩
  all_goals grind
 .intro b hb;rcases pF hb with hb|⟨h1,h2⟩
  .have:=h.gU _ _ hb;omega
  .omega
 .intro id hid ak e;simp only[St.pD]at hid;have:id≠σ.n:=aj;simp[eR,this,h.fresh id aj ak e]
 .refine⟨mz (ki 0),?_,?_,?_,?_,by simp,u6,Hx,Hy,by omega,λb hb _=>hold b hb,λ_ _ h=>.inl h⟩
  .intro id b hb;rcases pF hb with hb|⟨h1,h2⟩
   all_goals grind
  .intro id hn hr e;simp only[St.pD]at hr;have:id≠σ.n:=aj;simp[eR,this]
  .intro id hn hr;simp only[St.pD]at hr;have:σ.n≠id:=aj
   simp_all
  .intro id hr hn;have:σ.n≠id:=aj
   simp_all
theorem Inv.push{N ro:Nat}{ι:Io}{σ:St}{w w':World}{o:aCD}(h:Inv N ι σ w)(hw:w'.heap=w.heap.push o)
 (u6:w'.os=w.os)(Hx:w'.tape=w.tape)(Hy:w'.output=w.output):Inv N ι σ w'/\Le ro ι w σ ι w' σ:=by
 have bo:w'.heap.size=w.heap.size+1:=bc;have hold:∀b,b<w.heap.size->w'.heap[b]?=w.heap[b]? :=λb hb=>by grind
 refine⟨⟨λb c hb=>?_,h.sep,λid b ho=>by have:=h.gU id b ho;omega,h.fresh,h.inj,λid o ho=>(h.obj id o ho).vz (Ext.refl _) (λ_=>rfl) λb hb=>hold b (h.gU _ _ hb),h.wf⟩,?_⟩
 .have⟨e,f,hh⟩:=h.mem b c hb
  grind
 .exact⟨Ext.refl _,λ_ _ h=>.inl h,λ_ _ _ _=>rfl,λ_ h _=>h,λ_ _ _=>rfl,ayL _,u6,Hx,Hy,by omega,λb hb _=>hold b hb,λ_ _ h=>.inl h⟩
theorem Inv.put{N ro:Nat}{ι aM:Io}{σ:St}{w w':World}{id:Nat}{ob fB:Ob}(h:Inv N ι σ w)(aT:σ.at id=aa ob)(eA:ro<=id)(hid:∃e l,ι id e=aa l)
 (i_:Ext ι aM)(Zu:∀i,i≠id->∀e,aM i e=ι i e)(pE:∀b,Own aM id b->Own ι id b\/(w.heap.size<=b/\b<w'.heap.size))
 (bo:w.heap.size<=w'.heap.size)(S5:∀b,b<w.heap.size->¬Own ι id b->w'.heap[b]?=w.heap[b]?)
 (u6:w'.os=w.os)(Hx:w'.tape=w.tape)(Hy:w'.output=w.output)(eW:my aM w' id fB)(hm:aM.m=ι.m:=by rfl):
 Inv N aM (σ.put id fB) w'/\Le ro ι w σ aM w' (σ.put id fB):=by
 have⟨e0,l0,mc⟩:=hid;have bA:∀i,(∀e,ι i e=ah)->i≠id:=λi hn hi=>by rw[hi]at hn;rw[hn e0]at mc;cases mc
 have hd:=λi hn e=>(Zu i (bA i hn) e).trans (hn e)
 have Ms:∀i b,Own aM i b->Own ι i b\/(i=id/\w.heap.size<=b/\b<w'.heap.size):=by
  intro i b hb;by_cases hi:i=id
  .subst hi;rcases pE b hb with hb|hb
   .exact .inl hb
   .exact .inr ⟨rfl,hb⟩
  .have⟨e,l,hl,Mu⟩:=hb;rw[Zu i hi e]at hl;exact .inl ⟨e,l,hl,Mu⟩
 refine⟨h.change (sZ:=id) i_ Zu (λi b hb=>(Ms i b hb).imp (λx=>x) (λx=>⟨x.1,x.2.1⟩)) ?_ bo S5 eW (λj=>by simp) ⟨by simp,by rw[St.qK];exact Nat.lt_of_not_le λhle=>by rw[h.wf id hle]at aT;cases aT⟩ ?_ hm,?_⟩
 .intro b hb;rcases pE b hb with hb|hb
  .exact aAl (h.gU _ _ hb) bo
  .exact hb.2
 .intro i hi ak e;exact hd i (h.fresh i hi ak) e
 .refine⟨i_,λi b hb=>(Ms i b hb).imp (λx=>x) (λx=>x.2.1),?_,?_,?_,by simp,u6,Hx,Hy,bo,?_,λb c hb=>.inl (by rw[<-hm];exact hb)⟩
  .intro i hn _ e;exact Zu i (λhi=>by subst hi;rw[aT]at hn;cases hn) e
  .intro i hn _;have:id≠i:=λhi=>by subst hi;rw[aT]at hn;cases hn
   simp[this,hn]
  .intro i hr _;have:id≠i:=aj;simp[this]
  .intro b hb hc;refine S5 b hb λho=>?_;rcases hc id ho with h1|h1
   .omega
   .rw[aT]at h1;cases h1
section
variable{P:Program}{N:Nat}{ι:Io}{w:World}{σ:St}
theorem fQ{t:TypeId}{s:Nat}(h:aX P t=aa s)(w:World):(sizeOf t).run P w=.ok s w:=by
 unfold aX at h;cases hi:P.info? t with
 |none=>simp[hi]at h
 |some i=>simp[hi]at h;simp[sizeOf,typeInfo,hi,h]
theorem mA{t:TypeId}{z:Value}(h:db P t=aa z)(w:World):(zeroValue t).run P w=.ok z w:=by
 unfold db at h;cases hi:P.info? t with
 |none=>simp[hi]at h
 |some i=>simp[hi]at h;simp[zeroValue,typeInfo,hi,h]
theorem bD{t:TypeId}{d:TypeDesc}(h:P.underlying t=aa d)(w:World):(underlying t).run P w=.ok d w:=by simp[underlying,h]
theorem Fq{t:TypeId}{b:Bool}(h:tx P t=aa b)(w:World):(isAgg t).run P w=.ok b w:=by
 unfold tx at h;cases hu:P.underlying t with
 |none=>simp[hu]at h
 |some d=>
  simp[hu]at h;simp only[isAgg,ayT,bD hu,ayM];cases d<;>simp at h<;>subst h<;>rfl
theorem Hz{t:TypeId}{n:Nat}(h:(P.info? t).map (·.bytes)=aa n)(w:World):∃i,P.info? t=aa i/\i.bytes=n/\(typeInfo t).run P w=.ok i w:=by
 cases hi:P.info? t with
 |none=>simp[hi]at h
 |some i=>simp[hi]at h;exact⟨i,rfl,h,by simp[typeInfo,hi]⟩
theorem jb(b off n:Nat):(⟨b,off,ah⟩:Addr).add n=⟨b,off+n,ah⟩:=by
 unfold Addr.add;split<;>simp_all
theorem cell_of{b off:Nat}{c:Array Value}{el:TypeId}{f:Nat×Nat}(h:w.heap[b]?=aa (.cells c el f)):w.cell? ⟨b,off,ah⟩=c[off]? :=by
 simp[aCE,h]
theorem S6{t:TypeId}{cs:List IV}{vs:List Value}{off:Nat}{v:IV}(h:partOf P t cs off=aa v)(hr:aN ι cs vs)(w:World):
 ∃u,(part t vs.toArray off).run P w=.ok u w/\Rv ι v u:=by
 unfold partOf at h;split at h
 .rename_i s ha hs;split at h
  .rename_i hle;cases h;refine⟨.agg (vs.toArray.extract off (off+s)),by simp[part,Fq ha,fQ hs],?_⟩
   have e:vs.toArray.extract off (off+s)=((vs.drop off).take s).toArray:=by
    apply aBi;simp
   rw[e];have:=(hr.drop off).take s;exact .agg _ _ this.1 this.2
  .cases h
 .rename_i s ha hs;split at h
  .obtain⟨u,hu,kZ⟩:=hr.get h;exact⟨u,by simp[part,Fq ha,hu],kZ⟩
  .cases h
 .cases h
def B9(w:World)(b off:Nat)(vs:List Value):Prop:=∀j v,vs[j]?=aa v->w.cell? ⟨b,off+j,ah⟩=aa v
theorem Mv{t:TypeId}{cs:List IV}{vs:List Value}{b off k:Nat}{v:IV}(h:partOf P t cs k=aa v)(hr:aN ι cs vs)(nb:B9 w b off vs):
 ∃u,(loadVar t ⟨b,off+k,ah⟩).run P w=.ok u w/\Rv ι v u:=by
 unfold partOf at h;split at h
 .rename_i s ha hs;split at h
  .rename_i hle;cases h;have hl:((vs.drop k).take s).length=s:=by simp;have:=hr.1;omega
   have hc:(loadCells ⟨b,off+k,ah⟩ s).run P w=.ok ((vs.drop k).take s).toArray w:=by
    have:=run_loadCells_list (P:=P) w ⟨b,off+k,ah⟩ ((vs.drop k).take s) ?_
    .rwa[hl]at this
    .intro j v hj;rw[jb]
     have oT:vs[k+j]?=aa v:=by
      rw[azn]at hj;split at hj
      .simpa using hj
      .cases hj
     have:=nb _ _ oT;rw[show off+k+j=off+(k+j) by omega];exact this
   refine⟨.agg ((vs.drop k).take s).toArray,by simp[loadVar,Fq ha,fQ hs,hc],?_⟩;have:=(hr.drop k).take s;exact .agg _ _ this.1 this.2
  .cases h
 .rename_i s ha hs;split at h
  .obtain⟨u,hu,kZ⟩:=hr.get h;exact⟨u,by simp[loadVar,Fq ha,nb _ _ hu],kZ⟩
  .cases h
 .cases h
theorem Jm{id:Nat}{cs:List IV}{ep aE mn:Nat}(h:my ι w id (.cells cs aE mn))(h1:mn<=ep)(h2:ep<=aE):
 ∃l c el,ι id ep=aa l/\l.n<=cs.length/\l.n<=c.size/\w.heap[l.b]?=aa (.cells c el (0,0))/\l.Ep=c.size/\aN ι (cs.take l.n) (c.toList.take l.n):=by
 obtain⟨_,_,h3⟩:=h;obtain⟨l,c,el,hl,hn,hc,kF,hk⟩:=h3 ep h1 h2
 have bo:l.n<=c.size:=by
  rcases aC1 l.n with h0|h0
  .omega
  .obtain⟨u,hu,_⟩:=hk (l.n- 1) cs[l.n- 1] aj (ayG aj);have:=(azx.1 hu).1;omega
 refine⟨l,c,el,hl,hn,bo,hc,kF,by simp;omega,λi x v hx hv=>?_⟩;rw[azn]at hx hv;split at hx
 .rename_i hi;rw[if_pos hi]at hv;obtain⟨u,hu,hr⟩:=hk i x hi hx;have:c.toList[i]?=aa u:=by simpa using hu
  rw[this]at hv;cases hv;exact hr
 .cases hx
theorem Mw{b:Nat}{c:Array Value}{el:TypeId}{f:Nat×Nat}(h:w.heap[b]?=aa (.cells c el f))(n:Nat):B9 w b 0 (c.toList.take n):=by
 intro j v hj;rw[cell_of h];rw[azn]at hj;split at hj
 .simpa using hj
 .cases hj
theorem Zv{b off:Nat}{vs:List Value}(h:B9 w b off vs)(n:Nat):B9 w b (off+n) (vs.drop n):=by
 intro j v hj;have:=h (n+j) v (by simpa using hj);rwa[show off+n+j=off+(n+j) by omega]
theorem WV{b off:Nat}{vs:List Value}(h:B9 w b off vs)(n:Nat):B9 w b off (vs.take n):=by
 intro j v hj;rw[azn]at hj;split at hj
 .exact h j v hj
 .cases hj
theorem WW{t:TypeId}{cs:List IV}{off n s:Nat}{v:IV}(h:partOf P t cs off=aa v)(hs:aX P t=aa s)(hn:off+s<=n):partOf P t (cs.take n) off=aa v:=by
 unfold partOf at h⊢;split at h
 .rename_i s' ha bu;rw[bu]at hs;cases hs;split at h
  .cases h;rw[if_pos (by simp;omega)]
   congr 2
   rw[aDw,List.take_take]
   congr 1;omega
  .cases h
 .rename_i s' ha bu;rw[bu]at hs;cases hs;split at h
  .rename_i h1;rw[if_pos h1,azn,if_pos aj];exact h
  .cases h
 .cases h
theorem HA{t:TypeId}{s id off ep ext aE mn:Nat}{cs:List IV}{v:IV}{u:Value}(hi:Inv N ι σ w)(hs:aX P t=aa s)(aT:σ.at id=aa (.cells cs aE mn))
 (hx:s<=ext)(h1:mn<=ep)(h2:ep<=aE)(hp:partOf P t cs off=aa v)(hr:Rv ι (.ptr id off ep ext) u):
 ∃a x,u=.pointer (aa a)/\(loadVar t a).run P w=.ok x w/\Rv ι v x:=by
 obtain⟨l,c,el,hl,hn,bo,hc,_,nb⟩:=Jm (hi.obj id _ aT) h1 h2;cases hr with
 |ptr _ _ _ _ l' cJ kY=>
  rw[hl]at cJ;cases cJ;have vA:=WW hp hs (show off+s<=l.n by omega);obtain⟨x,yS,s5⟩:=Mv (k:=off) vA nb (Mw hc l.n);rw[aAn]at yS;exact⟨_,x,rfl,yS,s5⟩
variable{ro:Nat}{ρ:Operand->IV}{r:Operand->Value}{o:Oper}{out:gT}
def Mx(ro:Nat)(N:Nat)(ι:Io)(w:World)(σ:St)(res:Result Next)(v:IV)(au:St):Prop:=
 ∃u w' aM,(res=.ok (.value u) w'\/(res=.ok .skip w'/\u=azm))/\Rv aM v u/\Inv N aM au w'/\Le ro ι w σ aM w' au
def Fs(ι:Io):Df->Deferred->Prop
 |.xu id,d=>∃l,ι id 0=aa l/\d={target:=.collected l.b,args:= #[]}
 |.call f args,d=>∃cap us vs:List Value,d={target:=.fn (.func f) cap.toArray,args:=us.toArray}/\aN ι args vs/\vs=us++cap
def bB(P:Program)(ro:Nat)(N:Nat)(ι:Io)(w:World)(σ:St)(r:Operand->Value)(o:Oper):gT->Prop
 |.val v au=>au.n<=N->Mx ro N ι w σ ((execOp r o).run P w) v au
 |.enter f args=>∃us:List Value,(execOp r o).run P w=.ok (.enter f us.toArray) w/\aN ι args us
 |.round id args=>∃l,∃us:List Value,ι id 0=aa l/\(execOp r o).run P w=(Instr.yield l.b us.toArray).run P w/\aN ι args us
 |.dfr d=>∃dd,(execOp r o).run P w=.ok (.defer dd) w/\Fs ι d dd/\∃c,o.op=.defer c
 |.cg v=>∃u,(execOp r o).run P w=.halt (.panic u) w/\Rv ι v u
theorem Mx.same(hi:Inv N ι σ w){res:Result Next}{v:IV}{u:Value}(h:res=.ok (.value u) w)(hr:Rv ι v u):Mx ro N ι w σ res v σ:=
 ⟨u,w,ι,.inl h,hr,hi,Le.refl _ _ _ _⟩
theorem bB.same(hi:Inv N ι σ w){v:IV}{u:Value}(h:(execOp r o).run P w=.ok (.value u) w)(hr:Rv ι v u):bB P ro N ι w σ r o (.val v σ):=
 λ_=>Mx.same hi h hr
theorem aZ{v:IV}(h:ret v σ=aa out):out=.val v σ:=by cases h;rfl
theorem Xu{x:Operand}(hi:Inv N ι σ w)(hr:Rv ι (ρ x) (r x))(ho:o.op=.move x\/o.op=.assign x):bB P ro N ι w σ r o (.val (ρ x) σ):=
 bB.same hi (by rcases ho with ho|ho<;>simp[execOp,ho]) hr
theorem ajm{c a b:Operand}(hi:Inv N ι σ w)(hc:Rv ι (ρ c) (r c))(ha:Rv ι (ρ a) (r a))(hb:Rv ι (ρ b) (r b))(ho:o.op=.pick c a b)(h:aA P ro ρ o σ=aa out):
 bB P ro N ι w σ r o out:=by
 unfold aA at h;rw[ho]at h;simp only at h;split at h
 .rename_i t ht;rw[ht]at hc;have Er:r c=.bool t:=by generalize hu:r c=u at hc;cases hc;rfl
  obtain rfl:=aZ h;cases t
  .exact bB.same hi (u:=r b) (by simp[execOp,ho,Er,asBool]) hb
  .exact bB.same hi (u:=r a) (by simp[execOp,ho,Er,asBool]) ha
 .cases h
theorem Zw{cs:List IV}{vs rest:List Value}{el:TypeId}{w':World}{l:Loc}{id:Nat}(hr:aN ι cs vs)(hl:ι id 0=aa l)(gx:∀e,0<e->ι id e=ah)(hn:l.n=cs.length)(kF:l.Ep=(vs++rest).length)
 (hh:w'.heap[l.b]?=aa (.cells (vs++rest).toArray el (0,0))):my ι w' id (.cells cs 0 0):=by
 refine⟨⟨ayL _,gx⟩,⟨l,hl,hn⟩,λe _ he=>?_⟩;obtain rfl:e=0:=aj;refine⟨l,(vs++rest).toArray,el,hl,by omega,hh,by simpa using kF,λk x _ hx=>?_⟩;obtain⟨u,hu,kZ⟩:=hr.get hx;refine⟨u,?_,kZ⟩;have ak:=(ayH.1 hu).1;rw[aAq,ayZ ak];exact hu
theorem Inv.Xv(hi:Inv N ι σ w)(hN:σ.n<N){cs:List IV}{vs:List Value}(hr:aN ι cs vs)(rest:List Value)(el:TypeId){w':World}(hw:w'.heap=w.heap.push (.cells (vs++rest).toArray el))
 (u6:w'.os=w.os)(Hx:w'.tape=w.tape)(Hy:w'.output=w.output):
 Inv N (eR ι σ.n 0 ⟨w.heap.size,cs.length,(vs++rest).length⟩) (σ.add (.cells cs 0 0)) w'/\Le ro ι w σ (eR ι σ.n 0 ⟨w.heap.size,cs.length,(vs++rest).length⟩) w' (σ.add (.cells cs 0 0)):=by
 have hx:∀e,ι σ.n e=ah:=hi.fresh _ (ayL _) hN;have hh:w'.heap[w.heap.size]?=aa (.cells (vs++rest).toArray el (0,0)):=by rw[hw];simp
 refine hi.add hN hw u6 Hx Hy rfl (Zw (rest:=rest) (hr.mono (mz (hx 0))) (cC _ _ _ _) (λe he=>?_) rfl rfl hh);have:e≠0:=aj;simp[eR,this,hx e]
theorem Inv.newRow(hi:Inv N ι σ w)(hN:σ.n<N){cs:List IV}{vs:List Value}(hr:aN ι cs vs)(el:TypeId):
 let l:Loc:=⟨w.heap.size,cs.length,vs.length⟩
 let w':World:={w with heap:=w.heap.push (.cells vs.toArray el)}
 Inv N (eR ι σ.n 0 l) (σ.add (.cells cs 0 0)) w'/\Le ro ι w σ (eR ι σ.n 0 l) w' (σ.add (.cells cs 0 0)):=by
 intro l w';have:=hi.Xv (ro:=ro) hN hr [] el (w':=w') (by simp[w']) rfl rfl rfl;simpa[l]using this
theorem aeL{t:TypeId}(hi:Inv N ι σ w)(ho:o.op=.alloc t)(h:aA P ro ρ o σ=aa out):bB P ro N ι w σ r o out:=by
 unfold aA at h;rw[ho]at h;simp only at h;split at h
 .rename_i z hz;obtain rfl:=aZ h;intro hN;obtain⟨h1,h2⟩:=hi.newRow (ro:=ro) (by simp at hN;omega) (aN.vy (ι:=ι) z.cells.toList) t;refine⟨.pointer (aa ⟨w.heap.size,0,ah⟩),_,_,.inl ?_,?_,h1,h2⟩
  .simp[execOp,ho,Instr.alloc,mA hz,newVar,newRow]
  .exact .ptr _ _ _ _ _ (cC _ _ _ _) aw
 .cases h
theorem ali{t:TypeId}{x:Operand}(hi:Inv N ι σ w)(hr:Rv ι (ρ x) (r x))(ho:o.op=.box t x)(h:aA P ro ρ o σ=aa out):bB P ro N ι w σ r o out:=by
 unfold aA at h;rw[ho]at h;simp only at h;split at h
 .rename_i bf;obtain rfl:=aZ h;intro hN;obtain⟨h1,h2⟩:=hi.newRow (ro:=ro) (by simp at hN;omega) (hr.Fp bf) t;refine⟨.pointer (aa ⟨w.heap.size,0,ah⟩),_,_,.inl ?_,?_,h1,h2⟩
  .simp[execOp,ho,Instr.box,newVar,newRow]
  .have:=(hr.Fp bf).1;exact .ptr _ _ _ _ _ (cC _ _ _ _) (by simp only[aAn];omega)
 .cases h
theorem ajn{t:TypeId}{x:Operand}(hi:Inv N ι σ w)(hr:Rv ι (ρ x) (r x))(ho:o.op=.load t x)(h:aA P ro ρ o σ=aa out):bB P ro N ι w σ r o out:=by
 unfold aA at h;rw[ho]at h;simp only at h;split at h
 .rename_i id off ep ext hx;rw[hx]at hr;split at h
  .rename_i s cs aE mn hs aT;split at h
   .rename_i hc;split at h
    .rename_i v hp;obtain rfl:=aZ h;obtain⟨a,u,ha,ia,kZ⟩:=HA hi hs aT hc.1 hc.2.1 hc.2.2 hp hr;exact bB.same hi (u:=u) (by simp[execOp,ho,aDO,aAN,ha,ia]) kZ
    .cases h
   .cases h
  .cases h
 .rename_i cs hx;rw[hx]at hr;split at h
  .rename_i v hp;obtain rfl:=aZ h;generalize hq:r x=q at hr;cases hr with
   |na _ b off us hu hh=>
    have nb:B9 w b off ((azT cs.length).map us):=by
     intro j v hj;simp only[ay1,ayR]at hj;obtain⟨j',oT,rfl⟩:=hj
     have:j'=j/\j<cs.length:=by
      rw[ayH]at oT;obtain⟨h1,h2⟩:=oT;simp at h1 h2;exact⟨h2.symm,h1⟩
     obtain⟨rfl,ak⟩:=this;have hm:=hu j' ak;unfold qJ at hm;cases hb:ι.m b with
     |none=>simp[hb]at hm
     |some c=>
      obtain⟨el,f,hh'⟩:=hi.mem b c hb;rw[cell_of hh'];simpa[hb]using hm
    have hl:aN ι cs ((azT cs.length).map us):=by
     refine⟨by simp,λi c v h1 h2=>?_⟩;have ak:=(ayH.1 h1).1
     have:v=us i:=by
      simp[ak]at h2;exact h2.symm
     subst this;exact hh i c h1
    obtain⟨u,h1,h2⟩:=Mv (k:=0) hp hl nb;exact bB.same hi (u:=u) (by simp at h1;simp[execOp,ho,aDO,aAN,hq,h1]) h2
  .cases h
 .cases h
theorem xx(w:World)(g:Nat)(cs:Array Value)(b:Nat)(h:b≠g):(w.setRow g cs).heap[b]?=w.heap[b]? :=by
 grind [World.setRow]
theorem setRow_size(w:World)(g:Nat)(cs:Array Value):(w.setRow g cs).heap.size=w.heap.size:=aw
theorem Ft{cs:List IV}{vs:List Value}(hr:aN ι cs vs)(h:cs.all ao=ab):∀v∈vs,v.oneCell'=ab:=by
 intro v hv;have⟨i,hi⟩:=List.mem_iff_getElem?.1 hv;have ak:i<cs.length:=by have:=(ayH.1 hi).1;have:=hr.1;omega
 have hc:=hr.2 i cs[i] v (ayG ak) hi;have hk:=abY hc (List.all_eq_true.1 h _ (List.getElem_mem ak));cases v<;>first|rfl|grind|grind
theorem WX(A:List Value)(n off:Nat)(di:List Value)(h1:off+di.length<=n)(h2:n<=A.length)(k:Nat)(hk:k<n):
 (A.take off++di++A.drop (off+di.length))[k]?=((A.take n).take off++di++(A.take n).drop (off+di.length))[k]? :=by
 have e1:(A.take n).take off=A.take off:=bc
 grind
theorem Inv.write(hi:Inv N ι σ w){id off aE mn:Nat}{cs new:List IV}{di:List Value}(aT:σ.at id=aa (.cells cs aE mn))(eA:ro<=id)(alj:off+new.length<=cs.length)
 (hr:aN ι new di):∃l c el,ι id aE=aa l/\w.heap[l.b]?=aa (.cells c el (0,0))/\off+di.length<=c.size/\
  Inv N ι (σ.put id (.cells (eV cs off new) aE aE)) (w.setRow l.b (c.toList.take off++di++c.toList.drop (off+di.length)).toArray)/\
  Le ro ι w σ ι (w.setRow l.b (c.toList.take off++di++c.toList.drop (off+di.length)).toArray) (σ.put id (.cells (eV cs off new) aE aE)):=by
 have eW:=hi.obj id _ aT;have⟨yU,⟨l0,mc,m7⟩,_⟩:=eW;have⟨l,c,el,hl,hn,bo,hc,kF,nb⟩:=Jm (hi.obj id _ aT) yU.1 (ayL _);obtain rfl:l=l0:=bc;have Es:=hr.1;have ak:off+di.length<=c.size:=aj;refine⟨l,c,el,hl,hc,ak,?_⟩;refine hi.put aT eA ⟨_,_,hl⟩ (Ext.refl _) (λ_ _ _=>rfl) (λb hb=>.inl hb) aw (λb _ gx=>xx _ _ _ _ ?_) rfl rfl rfl ?_
 .intro e;subst e;exact gx ⟨_,_,hl,rfl⟩
 .refine⟨⟨ayL _,yU.2⟩,⟨l,hl,by simp[eV];omega⟩,λe he gw=>?_⟩;obtain rfl:e=aE:=aj;refine⟨l,_,el,hl,by grind [eV],setRow_heap w l.b c _ el _ hc,by grind,λk x hk hx=>?_⟩;rw[m7,List.take_length]at nb;have Hb:cs.length<=c.toList.length:=bc;have Zx:=nb.eV off hr;have⟨u,hu,kZ⟩:=Zx.get hx;refine⟨u,?_,kZ⟩;simp only[aAq];rw[<-hu];exact WX c.toList cs.length off di aj Hb k aj
theorem vB{l:Loc}{c:Array Value}{el:TypeId}{off:Nat}{di:List Value}(hc:w.heap[l.b]?=aa (.cells c el (0,0)))(ak:off+di.length<=c.size)(h1:∀v∈di,v.oneCell'=ab):
 (storeCells ⟨l.b,off,ah⟩ di).run P w=.ok () (w.setRow l.b (c.toList.take off++di++c.toList.drop (off+di.length)).toArray):=by
 have:=run_storeCells_at (P:=P) l.b off el di 0 c w hc aj h1;omega
theorem aeM{t:TypeId}{a x:Operand}(hi:Inv N ι σ w)(ha:Rv ι (ρ a) (r a))(hx:Rv ι (ρ x) (r x))(ho:o.op=.store t a x)(h:aA P ro ρ o σ=aa out):bB P ro N ι w σ r o out:=by
 simp only[aA,ho]at h;split at h
 .rename_i id off ep ext hp;rw[hp]at ha;split at h
  .rename_i s cs aE mn hs aT;split at h
   .rename_i hc;have⟨eA,hlen,iX,hep,alj,bf⟩:=hc;obtain rfl:=aZ h;intro hN;subst hep;have jP:=hx.Fp bf;obtain⟨l,c,el,hl,Et,ak,h1,h2⟩:=hi.write (ro:=ro) aT eA (by rw[hlen];omega) jP;generalize hq:r a=q at ha;cases ha with
    |ptr _ _ _ _ l' cJ kY=>
     rw[hl]at cJ;cases cJ;refine⟨azm,_,_,.inr ⟨?_,rfl⟩,.raw _,h1,h2⟩;have bo:(r x).cells.size=s:=by have:=jP.1;grind
     simp[execOp,ho,Instr.storeAt,aAN,hq,storeVar,fQ hs,bo,vB (P:=P) Et ak (Ft jP bf)]
   grind
  grind
 grind
theorem WY{x:Operand}(hi:Inv N ι σ w)(hr:Rv ι (ρ x) (r x))(ho:o.op=.nilCheck x)(h:aA P ro ρ o σ=aa out):bB P ro N ι w σ r o out:=by
 simp only[aA,ho]at h;split at h
 all_goals try grind
 all_goals
  rename_i hx;rw[hx]at hr;obtain rfl:=aZ h;generalize hq:r x=q at hr;refine bB.same hi (u:=q) ?_ hr;cases hr<;>simp[execOp,ho,hq]
theorem eval_bin{op:BinOp}{t yT:TypeId}{x y:Operand}(ho:o.op=.binOp op t x y yT){v:Value}(h:(do eqGuard op t x y (r x) (r y);binOp op t (r x) (r y):Sem Value).run P w=.ok v w):
 (execOp r o).run P w=.ok (.value v) w:=by
 simp only[execOp,ho,ayT]at h⊢
 simp_all
theorem toList_eq(s:ByteArray):s.toList=s.data.toList:=Lib.toList_data s
theorem abZ{t:TypeId}{a b:IV}{u v:Value}(d:Nat)(h:Ei P t a b=ab)(ha:Rv ι a u)(hb:Rv ι b v):
 ((azE (d+1) t u v).run P w=.ok af w)/\((azE (d+1) t v u).run P w=.ok af w):=by
 unfold Ei at h;split at h
 all_goals try grind
 all_goals
  split at h
  .rename_i hu;cases ha;cases hb;refine⟨?_,?_⟩<;>simp only[azE,ayT,bD hu]<;>rfl
  grind
theorem AX{t:TypeId}{u v:Value}{c:Bool}(he:(azE (9999+1) t u v).run P w=.ok c w):
 (do pure (.bool (<-aA8 t u v)):Sem Value).run P w=.ok (.bool c) w/\(do pure (.bool (!(<-aA8 t u v))):Sem Value).run P w=.ok (.bool !c) w:=by
 have gw:(aA8 t u v).run P w=.ok c w:=he
 simp_all
theorem Qu{t:TypeId}{a b:IV}{u v:Value}{x y:Operand}(h:Ei P t a b=ab)(ha:Rv ι a u)(hb:Rv ι b v):
 ((∀op,(eqGuard op t x y u v).run P w=.ok () w)/\(aAu .eql t u v).run P w=.ok (.bool af) w/\(aAu .neq t u v).run P w=.ok (.bool ab) w)/\
 ((∀op,(eqGuard op t x y v u).run P w=.ok () w)/\(aAu .eql t v u).run P w=.ok (.bool af) w/\(aAu .neq t v u).run P w=.ok (.bool ab) w):=by
 have h1:=abZ (w:=w) 9999 h ha hb;have h2:=AX h1.1;have h3:=AX h1.2;unfold Ei at h;split at h
 all_goals try grind
 all_goals
  cases ha;cases hb;exact⟨⟨λop=>by cases op<;>rfl,h2.1,h2.2⟩,⟨λop=>by cases op<;>rfl,h3.1,h3.2⟩⟩
theorem aeN{t:TypeId}{a b:IV}{u v:Value}{x y:Operand}(h:Zr P t a b=ab)(ha:Rv ι a u)(hb:Rv ι b v):
 (∀op,(eqGuard op t x y u v).run P w=.ok () w)/\(aAu .eql t u v).run P w=.ok (.bool af) w/\(aAu .neq t u v).run P w=.ok (.bool ab) w:=by
 simp only[Zr,Bool.or_eq_true]at h;rcases h with h|h
 .exact(Qu (w:=w) (x:=x) (y:=y) h ha hb).1
 .exact(Qu (w:=w) (x:=x) (y:=y) h hb ha).2
theorem S7{t:TypeId}{a b:IV}{u v:Value}{x y:Operand}{c:Bool}(h:ptrEq P t a b=aa c)(ha:Rv ι a u)(hb:Rv ι b v):
 (∀op,(eqGuard op t x y u v).run P w=.ok () w)/\(aAu .eql t u v).run P w=.ok (.bool c) w/\(aAu .neq t u v).run P w=.ok (.bool !c) w:=by
 unfold ptrEq at h;split at h
 .rename_i i off e x1 j Ol f y1;split at h
  .rename_i el hu;split at h
   .rename_i s hs;split at h
    .rename_i hc;obtain⟨rfl,rfl,h0⟩:=hc;cases h;cases ha with
     |ptr _ off _ _ l hl _=>
      cases hb with
      |ptr _ Ol _ _ l' cJ _=>
       rw[hl]at cJ;cases cJ
       have he:∀d,(azE (d+1) t (.pointer (aa ⟨l.b,off,ah⟩)) (.pointer (aa ⟨l.b,Ol,ah⟩))).run P w=.ok (off==Ol) w:=by
        intro d;simp only[azE,ayT,bD hu,ayM,fQ hs,ne_eq,h0,sameAddr];by_cases hh:off=Ol
        .simp_all
        .have:((⟨l.b,off,ah⟩:Addr)==⟨l.b,Ol,ah⟩)=af:=bc;simp[this,hh]
       have h2:=AX (he 9999);exact⟨λop=>by cases op<;>rfl,h2.1,h2.2⟩
    grind
   grind
  grind
 grind
theorem alk{op:BinOp}{t yT:TypeId}{x y:Operand}(hi:Inv N ι σ w)(hx:Rv ι (ρ x) (r x))(hy:Rv ι (ρ y) (r y))(ho:o.op=.binOp op t x y yT)(h:aA P ro ρ o σ=aa out):
 bB P ro N ι w σ r o out:=by
 simp only[aA,ho]at h;split at h
 .rename_i v hv;obtain rfl:=aZ h
  suffices hs:∃u,(do eqGuard op t x y (r x) (r y);binOp op t (r x) (r y):Sem Value).run P w=.ok u w/\Rv ι v u by
   have⟨u,h1,h2⟩:=hs;exact bB.same hi (eval_bin ho h1) h2
  generalize Qv:r x=a at hx;generalize hry:r y=b at hy;generalize cK:ρ x=ix at hx hv;generalize hiy:ρ y=iy at hy hv;unfold tz at hv
  have strs:∀(s u:ByteArray),ix=.raw (.string s)->iy=.raw (.string u)->a=.string s/\b=.string u:=by
   intro s u h1 h2;subst h1 h2;cases hx;cases hy;exact⟨rfl,rfl⟩
  split at hv
  .rename_i s u;obtain⟨rfl,rfl⟩:=strs s u rfl rfl;cases hv;exact⟨_,by simp[eqGuard,aAu,aBg,toList_eq],.raw _⟩
  .rename_i s u;obtain⟨rfl,rfl⟩:=strs s u rfl rfl;cases hv;exact⟨_,by simp[eqGuard,aAu,aBg,toList_eq],.raw _⟩
  .rename_i s u;obtain⟨rfl,rfl⟩:=strs s u rfl rfl;cases hv;exact⟨_,by simp[eqGuard,aAu,aBg,toList_eq],.raw _⟩
  .rename_i s u;obtain⟨rfl,rfl⟩:=strs s u rfl rfl;cases hv;exact⟨_,by simp[eqGuard,aAu,aBg,toList_eq],.raw _⟩
  .rename_i s u;obtain⟨rfl,rfl⟩:=strs s u rfl rfl;cases hv;exact⟨_,by simp[eqGuard,aAu,aBg,toList_eq],.raw _⟩
  .rename_i s u;obtain⟨rfl,rfl⟩:=strs s u rfl rfl;cases hv;exact⟨_,by simp[eqGuard,aAu,aBg,toList_eq],.raw _⟩
  .rename_i s u;obtain⟨rfl,rfl⟩:=strs s u rfl rfl;split at hv
   .cases hv;refine⟨_,?_,.raw _⟩
    have e:(⟨(s.data.toList++u.data.toList).toArray⟩:ByteArray)=s++u:=by
     apply aCQ;simp
    rw[e]
    have hm:¬((s.size+u.size:Nat):Int)>azc.max:=by
     have:azc.max=9223372036854775807:=by decide
     rw[this];omega
    simp only[eqGuard,aAu,aBg,if_neg hm];simp
   .cases hv
  .split at hv
   .rename_i u1 u2 h1 h2;rw[Fo h1 hx,Fo h2 hy];simp only[ayR]at hv;obtain⟨z,hz,rfl⟩:=hv;exact⟨z,gv w _ hz,Rv.lift z⟩
   .split at hv
    .rename_i AY;have⟨hg,he⟩:=aeN (w:=w) (x:=x) (y:=y) AY hx hy;split at hv
     .cases hv;exact⟨.bool af,by simp only[ayT,hg .eql,ayM,he.1],.raw _⟩
     .cases hv;exact⟨.bool ab,by simp only[ayT,hg .neq,ayM,he.2],.raw _⟩
     .cases hv
    .split at hv
     .obtain⟨hg,he⟩:=S7 (w:=w) (x:=x) (y:=y) ‹ptrEq P t ix iy=aa _› hx hy;cases hv;exact⟨.bool _,by simp only[ayT,hg .eql,ayM,he.1],.raw _⟩
     .obtain⟨hg,he⟩:=S7 (w:=w) (x:=x) (y:=y) ‹ptrEq P t ix iy=aa _› hx hy;cases hv;exact⟨.bool _,by simp only[ayT,hg .neq,ayM,he.2],.raw _⟩
     .cases hv
 .cases h
theorem gn{x:IV}{v u:Value}(hx:x=.raw v)(h:Rv ι x u):u=v:=by subst hx;cases h;rfl
theorem aqc{op:UnOp}{t:TypeId}{x:Operand}(hi:Inv N ι σ w)(hr:Rv ι (ρ x) (r x))(ho:o.op=.unOp op t x)(h:aA P ro ρ o σ=aa out):bB P ro N ι w σ r o out:=by
 unfold aA at h;rw[ho]at h;simp only at h;split at h
 .rename_i v hx;split at h
  .rename_i z hz;obtain rfl:=aZ h;have e:=gn hx hr;have:=gv w _ hz;exact bB.same hi (u:=z) (by simp[execOp,ho,e,this]) (Rv.lift z)
  .cases h
 .cases h
theorem Zy{s t:TypeId}{x:Operand}(hi:Inv N ι σ w)(hr:Rv ι (ρ x) (r x))(ho:o.op=.convert s t x)(h:aA P ro ρ o σ=aa out):bB P ro N ι w σ r o out:=by
 unfold aA at h;rw[ho]at h;simp only at h;split at h
 .rename_i v hx;split at h
  .rename_i d hs hu;obtain rfl:=aZ h;have e:=gn hx hr;refine bB.same hi (u:=.string v) ?_ (.raw _)
   have:(convert s t (.string v)).run P w=.ok (.string v) w:=by
    simp only[convert,ayT,bD hs,bD hu,ayM];rfl
   simp[execOp,ho,e,this]
  .cases h
 .rename_i v _ hx;split at h
  .rename_i z hz;obtain rfl:=aZ h;have e:=gn hx hr;have:=gv w _ hz;exact bB.same hi (u:=z) (by simp[execOp,ho,e,this]) (Rv.lift z)
  .cases h
 .cases h
theorem K8{t:TypeId}{x:Operand}(hi:Inv N ι σ w)(hr:Rv ι (ρ x) (r x))(ho:o.op=.makeInterface t x)(h:aA P ro ρ o σ=aa out):bB P ro N ι w σ r o out:=by
 unfold aA at h;rw[ho]at h;simp only at h;split at h
 .cases h
 .rename_i d hd hu;obtain rfl:=aZ h;refine bB.same hi (u:=.iface t (r x)) ?_ (.dP _ _ _ hr);simp only[execOp,ho,Instr.makeInterface,ayT,bD hu,ayM];cases d<;>first|rfl|(exact absurd rfl (hd _))
 .cases h
theorem WZ{f:Fn}{first cap:Array Operand}(hi:Inv N ι σ w)(hr:∀x∈first++cap,Rv ι (ρ x) (r x))(ho:o.op=.makeFunc f first cap)(h:aA P ro ρ o σ=aa out):bB P ro N ι w σ r o out:=by
 unfold aA at h;rw[ho]at h;simp only at h;obtain rfl:=aZ h;have h1:aN ι (first.toList.map ρ) (first.toList.map r):=aN.of_map λa ha=>hr a (by simp at ha⊢;exact .inl ha);have h2:aN ι (cap.toList.map ρ) (cap.toList.map r):=aN.of_map λa ha=>hr a (by simp at ha⊢;exact .inr ha);refine bB.same hi (u:=.func f (first.toList.map r).toArray (cap.toList.map r).toArray) ?_ (.fn _ _ _ _ _ h1.1 h1.2 h2.1 h2.2);simp only[execOp,ho,Instr.makeFunc,ayT,ay9,ayM]
 congr 3<;>(apply aBi;simp)
theorem Zz{x:Operand}{i:Nat}(hi:Inv N ι σ w)(hr:Rv ι (ρ x) (r x))(ho:o.op=.extract x i)(h:aA P ro ρ o σ=aa out):bB P ro N ι w σ r o out:=by
 unfold aA at h;rw[ho]at h;simp only at h;split at h
 .rename_i vs hx;split at h
  .rename_i v hv;obtain rfl:=aZ h;rw[hx]at hr;generalize hq:r x=q at hr;cases hr with
   |aF _ us hl hh=>
    obtain⟨u,hu,kZ⟩:=aN.get ⟨hl,hh⟩ hv;exact bB.same hi (u:=u) (by simp[execOp,ho,aDx,hq,hu]) kZ
  .cases h
 .rename_i vs hx;split at h
  .rename_i v hv;obtain rfl:=aZ h;have e:=gn hx hr;exact bB.same hi (u:=v) (by simp[execOp,ho,aDx,e,hv]) (.raw _)
  .cases h
 .cases h
theorem Inv.alm(hi:Inv N ι σ w)(hN:σ.n<N):
 Inv N (eR ι σ.n 0 ⟨w.heap.size,1,1⟩) (σ.add (.map [] 0)) {w with heap:=w.heap.push (.map #[] 0)}/\
 Le ro ι w σ (eR ι σ.n 0 ⟨w.heap.size,1,1⟩) {w with heap:=w.heap.push (.map #[] 0)} (σ.add (.map [] 0)):=by
 refine hi.add hN rfl rfl rfl rfl rfl ⟨_, #[],cC _ _ _ _,by simp,by simp,λi e r h=>by simp at h⟩
theorem ZB{t:TypeId}{x:Option Operand}(hi:Inv N ι σ w)(hr:∀y∈x.toArray,Rv ι (ρ y) (r y))(ho:o.op=.makeMap t x)(h:aA P ro ρ o σ=aa out):bB P ro N ι w σ r o out:=by
 unfold aA at h;rw[ho]at h;simp only at h
 have key:out=.val (.map σ.n) (σ.add (.map [] 0))->(execOp r o).run P w=.ok (.value (.map (aa w.heap.size))) {w with heap:=w.heap.push (.map #[] 0)}->bB P ro N ι w σ r o out:=by
  intro h1 h2;subst h1;intro hN;obtain⟨h3,h4⟩:=hi.alm (ro:=ro) (by simp at hN;omega);exact⟨_,_,_,.inl h2,.map _ _ (cC _ _ _ _),h3,h4⟩
 split at h
 .exact key (aZ h) (by simp[execOp,ho,aDy])
 .rename_i y;split at h
  .rename_i hu hx;have e:=gn hx (hr _ aw);exact key (aZ h) (by simp[execOp,ho,aDy,bD hu,e,asInt,asIntOf])
  .cases h
theorem S8{s:TypeId}{x:Operand}{f:Nat}(hi:Inv N ι σ w)(hr:Rv ι (ρ x) (r x))(ho:o.op=.fieldAddr s x f)(h:aA P ro ρ o σ=aa out):bB P ro N ι w σ r o out:=by
 unfold aA at h;rw[ho]at h;simp only at h;split at h
 .rename_i fields hu;split at h
  .rename_i fd hf;split at h
   .rename_i sz id off ep ext hs hx;split at h
    .rename_i hc;obtain rfl:=aZ h;rw[hx]at hr;generalize hq:r x=q at hr;cases hr with
     |ptr _ _ _ _ l hl hle=>
      refine bB.same hi (u:=.pointer (aa ⟨l.b,off+fd.offset,ah⟩)) ?_ (.ptr _ _ _ _ l hl aj);simp[execOp,ho,aDz,bD hu,hf,aAN,hq,fieldPlace,fQ hs,hc.1,jb]
    .cases h
   .rename_i sz cs hs hx;split at h
    .rename_i hc;obtain rfl:=aZ h;rw[hx]at hr;generalize hq:r x=q at hr;cases hr with
     |na _ b off us Kj hh=>
      refine bB.same hi (u:=.pointer (aa ⟨b,off+fd.offset,ah⟩)) ?_ (.na _ _ _ (λk=>us (fd.offset+k)) (λk hk=>?_) (λj c hj=>?_))
      .simp[execOp,ho,aDz,bD hu,hf,aAN,hq,fieldPlace,fQ hs,hc.1,jb]
      .simp at hk;rw[show off+fd.offset+k=off+(fd.offset+k) by omega];exact Kj _ aj
      .rw[azn]at hj;split at hj
       .exact hh _ c (by simpa using hj)
       .cases hj
    .cases h
   .cases h
  .cases h
 .cases h
theorem aeO{t:TypeId}{x:Operand}{f:Nat}(hi:Inv N ι σ w)(hr:Rv ι (ρ x) (r x))(ho:o.op=.field t x f)(h:aA P ro ρ o σ=aa out):bB P ro N ι w σ r o out:=by
 unfold aA at h;rw[ho]at h;simp only at h;split at h
 .rename_i fields cs hu hx;split at h
  .rename_i fd hf;split at h
   .rename_i v hp;obtain rfl:=aZ h;rw[hx]at hr;generalize hq:r x=q at hr;cases hr with
    |agg _ us hl hh=>
     obtain⟨u,h1,h2⟩:=S6 hp ⟨hl,hh⟩ w;exact bB.same hi (u:=u) (by simp[execOp,ho,Instr.field,bD hu,hf,asAgg,hq,h1]) h2
   .cases h
  .cases h
 .cases h
theorem S9{t:TypeId}{x ix:Operand}(hi:Inv N ι σ w)(hr:Rv ι (ρ x) (r x))(Qv:Rv ι (ρ ix) (r ix))(ho:o.op=.indexAddr t x ix)(h:aA P ro ρ o σ=aa out):bB P ro N ι w σ r o out:=by
 unfold aA at h;rw[ho]at h;simp only at h;split at h
 .rename_i elem k i hu cK;have ei:=gn cK Qv;split at h
  .rename_i id off len cap ep s hx;split at h
   .rename_i hc;obtain⟨hs,h0,ak⟩:=hc;obtain rfl:=aZ h;rw[hx]at hr;generalize hq:r x=q at hr;have hn:i.toNat<len:=aj
    have hmul:i.toNat*s+s<=len*s:=by
     have:(i.toNat+1)*s<=len*s:=azd s hn;rw[azD]at this;omega
    cases hr with
    |sl _ _ _ _ _ _ l c a hl hle kF cw w_ kG ha=>
     have axK:len*s<=c*s:=azd s w_;refine bB.same hi (u:=.pointer (aa ⟨l.b,off+i.toNat*s,ah⟩)) ?_ (.ptr _ _ _ _ l hl aj);have ea:=ha aj;subst ea;simp[execOp,ho,aCj,ei,asIntOf,bD hu,hq,h0,ak,fQ hs,jb]
   .cases h
  .rename_i s es hx;split at h
   .rename_i hc;obtain⟨hs,h0⟩:=hc;split at h
    .rename_i e he;split at h
     .rename_i vC;obtain rfl:=aZ h;rw[hx]at hr;generalize hq:r x=q at hr;have ak:=(ayH.1 he).1;have gB:i<es.length:=aj
      have hmul:i.toNat*s+s<=es.length*s:=by
       have:(i.toNat+1)*s<=es.length*s:=azd s ak;rw[azD]at this;omega
      cases hr with
      |tree _ _ b off c us cw hc bH Kj hh=>
       refine bB.same hi (u:=.pointer (aa ⟨b,off+i.toNat*s,ah⟩)) ?_ (.na _ _ _ (λk=>us (i.toNat*s+k)) (λk hk=>?_) (λj c hj=>hh _ _ _ _ he hj))
       .simp[execOp,ho,aCj,ei,asIntOf,bD hu,hq,h0,gB,fQ hs,jb]
       .rw[show off+i.toNat*s+k=off+(i.toNat*s+k) by omega];exact Kj _ aj
      |eJ=>simp at ak
     .cases h
    .cases h
   .cases h
  .cases h
 .rename_i n elem k i hu cK;have ei:=gn cK Qv;split at h
  .rename_i id off ep ext s hx hs;split at h
   .rename_i hc;obtain⟨cw,h0,ak,aeP⟩:=hc;obtain rfl:=aZ h;rw[hx]at hr;generalize hq:r x=q at hr;cases hr with
    |ptr _ _ _ _ l hl hle=>
     refine bB.same hi (u:=.pointer (aa ⟨l.b,off+i.toNat*s,ah⟩)) ?_ (.ptr _ _ _ _ l hl aj);simp[execOp,ho,aCj,ei,asIntOf,bD hu,hq,aAN,h0,ak,fQ hs,jb]
   .cases h
  .cases h
 .cases h
theorem aeQ{t:TypeId}{x ix:Operand}(hi:Inv N ι σ w)(hr:Rv ι (ρ x) (r x))(Qv:Rv ι (ρ ix) (r ix))(ho:o.op=.index t x ix)(h:aA P ro ρ o σ=aa out):bB P ro N ι w σ r o out:=by
 unfold aA at h;rw[ho]at h;simp only at h;split at h
 .rename_i s k i hu hx cK;have ei:=gn cK Qv;have ex:=gn hx hr;split at h
  .rename_i h0;split at h
   .rename_i b hb;obtain rfl:=aZ h;refine bB.same hi (u:=.int .u8 b.toNat) ?_ (.raw _)
    have u7:s[i.toNat]?=aa b:=by
     obtain⟨ak,he⟩:=ayH.1 hb;have gB:i.toNat<s.size:=by simpa using ak
     rw[getElem?_pos s i.toNat gB];simpa[aD_]using he
    simp[execOp,ho,aDW,ei,ex,asIntOf,bD hu,h0,u7]
   .cases h
  .cases h
 .rename_i n elem cs k i hu hx cK;have ei:=gn cK Qv;split at h
  .rename_i s hs;split at h
   .rename_i hc;split at h
    .rename_i v hp;obtain rfl:=aZ h;rw[hx]at hr;generalize hq:r x=q at hr;cases hr with
     |agg _ us hl hh=>
      obtain⟨u,h1,h2⟩:=S6 hp ⟨hl,hh⟩ w;exact bB.same hi (u:=u) (by simp[execOp,ho,aDW,ei,hq,asIntOf,bD hu,hc.1,hc.2,fQ hs,h1]) h2
    .cases h
   .cases h
  .cases h
 .cases h
theorem Kk(l:List Value)(s:Nat)(hl:l.length=s):∀n,(azT (n*s)).map (λi=>l[i % s]!)=(ay_ n l).flatten
 |0=>by simp
 |n+1=>by
  rw[azD,Nat.one_mul,List.range_add,List.map_append,Kk l s hl n,List.replicate_succ',List.flatten_append]
  congr 1
  apply aC2;intro i;by_cases hi:i<s
  .have h1:(n*s+i) % s=i:=by rw[Nat.mul_comm,Nat.mul_add_mod,Nat.mod_eq_of_lt hi]
   grind
  grind
theorem ab0(l:List Value)(s n:Nat)(hl:l.length=s)(hs:s≠0):lK (l.map .raw) (n*s)=((ay_ n l).flatten).map .raw:=by
 unfold lK;split
 .cases l with
  |nil=>grind
  |cons a l=>
   cases l with
   |nil=>
    have gy:s=1:=bc
    simp_all
   |cons b l=>grind
 .rw[List.length_map,hl,Nat.mul_div_cancel _ aj,List.map_flatten];simp
theorem Fu(z:Array Value)(s n:Nat)(hz:z.size=s)(hs:s≠0):(aCv (n*s)).map (λi=>z[i % z.size]!)=(((ay_ n z.toList).flatten)).toArray:=by
 apply aBi;have:=Kk z.toList s aj n
 simp_all[Array.getElem!_eq_getD]
theorem HB(z:Value)(s n:Nat)(hz:z.cells.size=s)(hs:s≠0):aN ι (lK (z.cells.toList.map .raw) (n*s)) ((ay_ n z.cells.toList).flatten):=by
 rw[ab0 _ s n aj hs];exact aN.vy _
theorem Qw(z:Value)(s n:Nat)(hz:z.cells.size=s):((ay_ n z.cells.toList).flatten).length=n*s:=by
 simp[hz]
theorem Qx(off:Nat):∀(l:List Value) (k:Nat) (A:Array Value) (i:Nat),off+k+l.length<=A.size->
 ((l.zipIdx k).foldl (λcs (x:Value×Nat)=>cs.setIfInBounds (off+x.2) x.1) A)[i]?=if off+k<=i/\i<off+k+l.length then l[i- off- k]? else A[i]?
 |[],k,A,i,_=>by
  have:¬(off+k<=i/\i<off+k+0):=aj;simp;omega
 |v::l,k,A,i,h=>by
  simp only[List.zipIdx_cons,List.foldl_cons];rw[Qx off l (k+1) _ i bc]
  grind
theorem Jn{place:Nat->Option (Nat×Nat)}:∀{parts:List (Nat×IV)} {AZ:List (Nat×Value)} {cs bK:List IV} {A:Array Value},
 sC place cs parts=aa bK->aN ι cs A.toList->parts.length=AZ.length->(∀(i:Nat) (p:Nat×IV) (q:Nat×Value),parts[i]?=aa p->AZ[i]?=aa q->p.1=q.1/\Rv ι p.2 q.2)->
 ∃A',aD3 place A AZ=aa A'/\aN ι bK A'.toList
 |[],AZ,cs,bK,A,h,hr,hl,hp=>by
  cases AZ with
  |nil=>simp only[sC,ayO]at h;subst h;exact⟨A,rfl,hr⟩
  |cons p q=>grind
 |(i,x)::rest,AZ,cs,bK,A,h,hr,hl,hp=>by
  cases AZ with
  |nil=>grind
  |cons q axL=>
   have⟨j,v⟩:=q;obtain⟨h1,h2⟩:=hp 0 _ _ rfl rfl;simp only[sC]at h;split at h<;>try cases h
   rename_i off size gd;split at h
   .rename_i hc;have⟨hlen,hle,bf⟩:=hc;have jP:=h2.Fp bf;have eB:v.cells.size=size:=by have:=jP.1;grind
    have hAs:cs.length=A.size:=by have:=hr.1;omega
    have hA:(v.cells.zipIdx.foldl (λcs (x:Value×Nat)=>cs.setIfInBounds (off+x.2) x.1) A).toList=A.toList.take off++v.cells.toList++A.toList.drop (off+v.cells.toList.length):=by
     apply aC2;intro k;have hf:=Qx off v.cells.toList 0 A k bc
     have e:v.cells.zipIdx.foldl (λcs (x:Value×Nat)=>cs.setIfInBounds (off+x.2) x.1) A=(v.cells.toList.zipIdx 0).foldl (λcs (x:Value×Nat)=>cs.setIfInBounds (off+x.2) x.1) A:=by
      rw[<-Array.foldl_toList];simp
     rw[Array.getElem?_toList,e,hf];by_cases h3:k<off
     .grind
     grind
    have qL:=hr.eV off jP;rw[<-hA]at qL;have⟨A',h5,h6⟩:=Jn h qL bc (λi p q np B_=>hp (i+1) p q np B_);refine⟨A',?_,h6⟩;simp only[aD3]
    grind
   grind
theorem K9{parts:Array (Nat×Operand)}(hr:∀x∈(parts.toList.map (·.2)),Rv ι (ρ x) (r x)):
 ∀(i:Nat) (p:Nat×IV) (q:Nat×Value),(parts.toList.map λ(y:Nat×Operand)=>(y.1,ρ y.2))[i]?=aa p->((parts.map λ(y:Nat×Operand)=>(y.1,r y.2)).toList)[i]?=aa q->p.1=q.1/\Rv ι p.2 q.2:=bc
theorem run_places{fields:List Field}(h:∀f∈fields,(aX P f.type).isSome=ab):
 (fields.mapM λf=>(do pure (f.offset,<-sizeOf f.type):Sem (Nat×Nat))).run P w=.ok (fields.map λf=>(f.offset,(aX P f.type).getD 0)) w:=by
 induction fields with
 |nil=>rfl
 |cons f fs ih=>
  have⟨s,hs⟩:=aAS.1 (h f aw);rw[List.mapM_cons];simp only[ayT,fQ hs,ayM,ay9,ih (λg hg=>h g bc),List.map_cons,hs,aAy]
theorem aeR{t:TypeId}{parts:Array (Nat×Operand)}(hi:Inv N ι σ w)(hr:∀x∈(parts.toList.map (·.2)),Rv ι (ρ x) (r x))(ho:o.op=.build t parts)(h:aA P ro ρ o σ=aa out):
 bB P ro N ι w σ r o out:=by
 simp only[aA,ho]at h;split at h
 .rename_i z fields hz hu;split at h
  .rename_i cs hf;split at h
   .rename_i bX;obtain rfl:=aZ h;have⟨A',h1,h2⟩:=Jn (ι:=ι) hf (A:=z.cells) (aN.vy _) aw (K9 hr);refine bB.same hi (u:=.agg A') ?_ ?_
    .have hp:=run_places (P:=P) (w:=w) (fields:=fields.toList) (λf hf=>aBS.1 bX f bc)
     have gd:(fields.mapM λf=>(do pure (f.offset,<-sizeOf f.type):Sem (Nat×Nat))).run P w=.ok (fields.map λf=>(f.offset,(aX P f.type).getD 0)) w:=by
      rw[Array.mapM_eq_mapM_toList,Sem.run_map,hp];simp only[ayM]
      congr 1
      grind
     have aln:(λ(i:Nat)=>(fields.map λ(f:Field)=>(f.offset,(aX P f.type).getD 0))[i]?)=(λ(i:Nat)=>(fields[i]?).bind λ(f:Field)=>(aX P f.type).map λs=>(f.offset,s)):=by
      funext i;rw[Array.getElem?_map];cases hfi:fields[i]? with
      |none=>rfl
      |some f=>
       have⟨s,hs⟩:=aAS.1 (aBS.1 bX f (Array.mem_of_getElem? hfi))
       grind
     rw[<-aln]at h1;simp only[execOp,ho,aDX,ayT,mA hz,bD hu,gd,ayM,h1,ay9]
    .have:=Rv.agg (ι:=ι) cs A'.toList h2.1 h2.2;omega
   grind
  grind
 .rename_i z n elem hz hu;split at h
  .rename_i s hs;split at h
   .rename_i cs hf;obtain rfl:=aZ h;have⟨A',h1,h2⟩:=Jn (ι:=ι) hf (A:=z.cells) (aN.vy _) aw (K9 hr);refine bB.same hi (u:=.agg A') ?_ ?_
    .simp only[execOp,ho,aDX,ayT,mA hz,bD hu,fQ hs,ayM,h1,ay9]
    .have:=Rv.agg (ι:=ι) cs A'.toList h2.1 h2.2;omega
   grind
  grind
 grind
theorem R9{t:TypeId}{len:Nat}{parts:Array (Nat×Operand)}(hi:Inv N ι σ w)(hr:∀x∈(parts.toList.map (·.2)),Rv ι (ρ x) (r x))(ho:o.op=.buildSlice t len parts)
 (h:aA P ro ρ o σ=aa out):bB P ro N ι w σ r o out:=by
 simp only[aA,ho]at h;split at h<;>try cases h
 rename_i elem hu;split at h<;>try cases h
 rename_i s z hs hz;split at h<;>try cases h
 rename_i hc;have cw:=λe=>hc (.inl e);have Kl:=azs λe=>hc (.inr (.inl e))
 have S_:len*s<=2 ^20:=by
  have:=λe=>hc (.inr (.inr e));omega
 split at h<;>try cases h
 rename_i cs hf;split at h<;>try cases h
 rename_i bH;have⟨hlen,bf⟩:=bH;have ZC:=Fu z.cells s len Kl cw;have⟨A',h1,h2⟩:=Jn (ι:=ι) hf (A:=((ay_ len z.cells.toList).flatten).toArray) (by simpa using HB z s len Kl cw) aw (K9 hr)
 have ia:(execOp r o).run P w=.ok (.value (.slice (aa ⟨w.heap.size,0,ah⟩) len len)) {w with heap:=w.heap.push (.cells A' elem)}:=by
  simp only[execOp,ho,Instr.buildSlice,ayT,bD hu,fQ hs,ayM];rw[if_neg aj];by_cases h0:len*s=0
  .have mc:len=0:=by rcases aCg.1 h0 with h|h;exact h;exact absurd h cw
   have e0:aCv (len*s)= #[]:=by rw[h0];rfl
   have e1:((ay_ len z.cells.toList).flatten).toArray= #[]:=by rw[mc];rfl
   rw[e1]at h1;simp only[if_pos h0,ay9,ayM,e0,aDf,h1,newRow,ayT,run_newObj]
  .simp only[h0,if_false,ayT,mA hz,ayM,ay9,ZC,h1];simp[newRow]
 split at h
 .rename_i mc;obtain rfl:=aZ h;subst mc;intro hN;obtain⟨h3,h4⟩:=hi.push (ro:=ro) (w':={w with heap:=w.heap.push (.cells A' elem)}) (o:=.cells A' elem) rfl rfl rfl rfl;exact⟨_,_,_,.inl ia,.emp _,h3,h4⟩
 .obtain rfl:=aZ h;intro hN;have hA:A'=A'.toList.toArray:=aw;have⟨h3,h4⟩:=hi.newRow (ro:=ro) (by simp at hN;omega) h2 elem;have hAl:cs.length=A'.size:=by have:=h2.1;simpa using this
  refine⟨_,_,_,.inl ia,?_,by simpa using h3,by simpa using h4⟩;exact .sl _ _ _ _ _ _ _ _ _ (cC _ _ _ _) (by simp;omega) (by simp;omega) aj (ayL _) (λk hk=>by cases hk;exact⟨rfl,by simp;omega⟩) (λ_=>rfl)
theorem Ta{t:TypeId}{l c:Operand}(hi:Inv N ι σ w)(qM:Rv ι (ρ l) (r l))(Er:Rv ι (ρ c) (r c))(ho:o.op=.makeSlice t l c)
 (h:aA P ro ρ o σ=aa out):bB P ro N ι w σ r o out:=by
 simp only[aA,ho]at h;split at h<;>try cases h
 rename_i elem k1 li k2 ci hu hl hc;have el:=gn hl qM;have ec:=gn hc Er;split at h<;>try cases h
 rename_i s z bytes hs hz hb;split at h<;>try cases h
 rename_i cH;have cw:=λe=>cH (.inl e);have Kl:=azs λe=>cH (.inr (.inl e));have w_:=azs λe=>cH (.inr (.inr (.inl e)))
 have Xw:bytes<=1000000:=by
  have:=λe=>cH (.inr (.inr (.inr e)));omega
 have⟨i,ct,Xx,hti⟩:=Hz hb w;have wl:azc.wrap li=li:=aB_ _ aj;have wc:azc.wrap ci=ci:=aB_ _ aj;have ZC:=Fu z.cells s ci.toNat Kl cw;have c1:¬ci<0:=aj
 have c2:¬(2 ^48:Int)<(i.bytes:Int)*ci:=by
  have h1:(i.bytes:Int)*ci<=1000000*1000000:=by
   have cd:(i.bytes:Int)<=1000000:=aj;exact Int.mul_le_mul cd w_.2.2 aj aj
  omega
 have c3:¬li<0:=aj;have c4:¬ci<li:=aj
 have ia:(execOp r o).run P w=.ok (.value (.slice (aa ⟨w.heap.size,0,ah⟩) li.toNat ci.toNat)) {w with heap:=w.heap.push (.cells ((ay_ ci.toNat z.cells.toList).flatten).toArray elem)}:=by
  simp only[execOp,ho,Instr.makeSlice,ayT,bD hu,el,ec,asInt,asIntOf,ay9,ayM,hti,wl,wc,c1,c2,c3,c4,decide_false,Bool.or_self,azi,if_false,run_askRoom,fQ hs];by_cases h0:ci.toNat*s=0
  .have Hb:ci.toNat=0:=by rcases aCg.1 h0 with h|h;exact h;exact absurd h cw
   have e0:aCv (ci.toNat*s)= #[]:=by rw[h0];rfl
   have e1:((ay_ ci.toNat z.cells.toList).flatten).toArray= #[]:=by rw[Hb];rfl
   simp only[if_pos h0,ay9,ayM,e0,e1,aDf,newRow,ayT,run_newObj]
  .simp only[if_neg h0,ayT,mA hz,ayM,ay9,ZC,newRow,run_newObj]
 split at h
 .rename_i Hb;obtain rfl:=aZ h;intro hN;obtain⟨h3,h4⟩:=hi.push (ro:=ro) (w':={w with heap:=w.heap.push (.cells ((ay_ ci.toNat z.cells.toList).flatten).toArray elem)}) (o:=.cells ((ay_ ci.toNat z.cells.toList).flatten).toArray elem) rfl rfl rfl rfl;have mc:li=0:=aj;subst Hb mc;exact⟨_,_,ι,.inl ia,.emp _,h3,h4⟩
 .obtain rfl:=aZ h;intro hN;have h2:=HB (ι:=ι) z s ci.toNat Kl cw;have hlen:=Qw z s ci.toNat Kl;have⟨h3,h4⟩:=hi.newRow (ro:=ro) (by simp at hN;omega) h2 elem;refine⟨_,_,_,.inl ia,?_,h3,h4⟩;have hle:li.toNat*s<=ci.toNat*s:=azd s aj;exact .sl _ _ _ _ _ _ _ _ _ (cC _ _ _ _) (by simp only[aAn];rw[h2.1,hlen];exact hle) (by simp only[aAn];rw[hlen];exact ayL _) aj aj (λk hk=>by cases hk;exact⟨rfl,by simp only[aAn];rw[h2.1,hlen];exact ayL _⟩) (λ_=>rfl)
theorem ajo{x:IV}{v:Value}{n:Nat}(h:qE x=aa n)(hr:Rv ι x v)(w:World):(aBk v).run P w=.ok n w:=by
 unfold qE at h;split at h
 .split at h
  .rename_i h0;cases h;cases hr;simp[aBk,h0]
  grind
 .cases h;cases hr;rfl
 .cases h;cases hr;rfl
 .cases h;cases hr;rfl
 .cases h;cases hr with
  |tree=>rfl
  |eJ _ a=>rfl
 grind
theorem W0{es:List IV}{s i j:Nat}(bH:∀e∈es,(cellsOf e).length=s)(hj:j<s):(es.flatMap cellsOf)[i*s+j]?=(es[i]?).bind λe=>(cellsOf e)[j]? :=by
 induction es generalizing i with
 |nil=>simp
 |cons e es ih=>
  have he:=bH e aw;rw[List.flatMap_cons];cases i with
  |zero=>grind
  |succ i=>
   grind
theorem W1{es:List IV}{s:Nat}(bH:∀e∈es,(cellsOf e).length=s):(es.flatMap cellsOf).length=es.length*s:=by
 induction es with
 |nil=>simp
 |cons e es ih=>grind
theorem HC{size n:Nat}{x:IV}{v:Value}{cs:List IV}(hi:Inv N ι σ w)(h:fU size n σ x=aa cs)(hr:Rv ι x v):
 ∃vs:List Value,(∀w':World,w'.heap=w.heap->(azX size n v).run P w'=.ok vs.toArray w')/\aN ι cs vs:=by
 have jH:∀w':World,w'.heap=w.heap->∀a:Addr,w'.cell? a=w.cell? a:=λw' zR a=>by simp only[aCE,zR]
 unfold fU at h;split at h
 .split at h
  .cases h;cases hr;exact⟨[],λw' _=>by simp[azX],aN.nil⟩
  grind
 .split at h
  .rename_i h0;cases h;cases hr;subst h0;exact⟨[],λw' _=>by simp[azX,loadCells,loadCellsFrom],aN.nil⟩
  grind
 .rename_i s;split at h
  .cases h;cases hr;refine⟨(s.data.toList.take n).map λb=>.int .u8 b.toNat,λw' _=>?_,aN.of_map λa _=>.raw _⟩;simp only[azX,ay9]
   congr 1
   apply aBi;simp
  grind
 .rename_i id off len cap ep s;split at h
  .rename_i hc;obtain⟨rfl,hn⟩:=hc;split at h
   .rename_i tN aE mn aT;split at h
    .rename_i hc;cases h;have⟨l,c,el,hl,Hc,bo,Et,kF,nb⟩:=Jm (hi.obj id _ aT) hc.1 hc.2.1;cases hr with
     |sl _ _ _ _ _ _ l' k a cJ hle k_ hs w_ kG ha=>
      rw[hl]at cJ;cases cJ;have hmul:=azd s hn;have Es:(((c.toList.take l.n).drop off).take (n*s)).length=n*s:=bc
      have e1:(tN.drop off).take (n*s)=((tN.take l.n).drop off).take (n*s):=by
       grind [aDw]
      refine⟨((c.toList.take l.n).drop off).take (n*s),λw' zR=>?_,?_⟩
      .simp only[azX];rcases aC1 n with h0|h0
       .simp_all[loadCells,loadCellsFrom]
       .have ea:=ha aj
        have Zx:B9 w l.b off (((c.toList.take l.n).drop off).take (n*s)):=by
         have:=WV (Zv (Mw Et l.n) off) (n*s)
         grind
        have:=run_loadCells_list (P:=P) w' ⟨l.b,off,ah⟩ _ (λj v hj=>by rw[jb,jH w' zR];exact Zx j v hj)
        grind
      .rw[e1];exact(nb.drop off).take _
    grind
   grind
  grind
 .rename_i s es;split at h
  .rename_i hc;obtain⟨rfl,hn⟩:=hc;cases h;cases hr with
   |tree _ _ b off c us hs hc bH hu hh=>
    have hmul:=azd s hn;have alo:∀e∈es.take n,(cellsOf e).length=s:=λe he=>bH e (azM he);have hlen:((es.take n).flatMap cellsOf).length=n*s:=by rw[W1 alo,azS,aCn hn]
    refine⟨(azT (n*s)).map us,λw' zR=>?_,by grind,λi x v hx hv=>?_⟩
    .simp only[azX];rw[run_loadCells (P:=P) w' ⟨b,off,ah⟩ (n*s) us];intro j hj;rw[jb,jH w' zR];have hm:=hu j aj;unfold qJ at hm;cases hb:ι.m b with
     |none=>grind
     |some c=>
      have⟨el,f,hh'⟩:=hi.mem b c hb;rw[cell_of hh']
      grind
    .have ayk:i<n*s:=bc
     have My:v=us i:=by
      grind
     have hq:=Nat.div_add_mod' i s;have hj:i % s<s:=Nat.mod_lt _ hs;rw[<-hq,W0 alo hj]at hx
     grind
   |eJ _ a c hs hz=>
    obtain rfl:n=0:=bc;refine⟨[],λw' zR=>?_,by simp,λi x v hx hv=>by grind⟩;cases a<;>simp[azX,loadCells,loadCellsFrom]
  grind
 grind
theorem Qy(aC:Nat):∀(k c:Nat),c<=aC+(aC+768)/4->aC3 aC k c<=aC+(aC+768)/4
 |0,c,h=>h
 |k+1,c,h=>by
  unfold aC3;split
  .exact h
  .exact Qy aC k _ aj
theorem ZD{aC cQ:Nat}(h:cQ<aC):aAI aC cQ<=4*aC+4096:=by
 unfold aAI;split
 .omega
 .split
  .omega
  .have:=Qy aC 4 cQ aj;omega
theorem Inv.grown(hi:Inv N ι σ w)(hN:σ.n<N){cs:List IV}{vs:List Value}(hr:aN ι cs vs)(rest:List Value)(el:TypeId){size m c:Nat}(hs:0<size)(hm:cs.length=m*size)
 (hc:(vs++rest).length=c*size)(Xy:m<=c):
 let w':World:={w with heap:=w.heap.push (.cells (vs++rest).toArray el),drawn:=w.drawn+1}
 ∃aM,Rv aM (.sl σ.n 0 m ah 0 size) (.slice (aa ⟨w.heap.size,0,ah⟩) m c)/\Inv N aM (σ.add (.cells cs 0 0)) w'/\Le ro ι w σ aM w' (σ.add (.cells cs 0 0)):=by
 intro w';obtain⟨h1,h2⟩:=hi.Xv (ro:=ro) hN hr rest el (w':=w') rfl rfl rfl rfl;exact⟨_,.sl _ _ _ _ _ _ _ _ _ (cC _ _ _ _) bc bc hs Xy (λk hk=>by cases hk) (λ_=>rfl),h1,h2⟩
theorem Inv.alp(hi:Inv N ι σ w){id aE mn:Nat}{cs new:List IV}{di:List Value}(aT:σ.at id=aa (.cells cs aE mn))(eA:ro<=id)(hr:aN ι new di)
 {l:Loc}{c:Array Value}{el:TypeId}(hl:ι id aE=aa l)(Et:w.heap[l.b]?=aa (.cells c el (0,0)))(ak:cs.length+di.length<=c.size):
 let w':=w.setRow l.b (c.toList.take cs.length++di++c.toList.drop (cs.length+di.length)).toArray
 let aM:=eR ι id (aE+1) ⟨l.b,cs.length+new.length,l.Ep⟩
 Inv N aM (σ.put id (.cells (cs++new) (aE+1) mn)) w'/\Le ro ι w σ aM w' (σ.put id (.cells (cs++new) (aE+1) mn)):=by
 intro w' aM;have eW:=hi.obj id _ aT;have⟨⟨yU,gx⟩,⟨l0,mc,m7⟩,bX⟩:=eW;obtain rfl:l=l0:=by rw[hl]at mc;exact aAK mc
 have ki:ι id (aE+1)=ah:=gx _ aj;have iX:=mz (l:=⟨l.b,cs.length+new.length,l.Ep⟩) ki
 have kF:l.Ep=c.size:=by
  have⟨l2,c2,Tb,h1,_,h3,h4,_⟩:=bX aE yU (ayL _);rw[hl]at h1;cases h1;rw[Et]at h3;cases h3;exact h4
 have zR:w'.heap[l.b]?=aa (.cells (c.toList.take cs.length++di++c.toList.drop (cs.length+di.length)).toArray el (0,0)):=setRow_heap w l.b c _ el _ Et;have Es:=hr.1;refine hi.put aT eA ⟨_,_,hl⟩ iX (λi bA e=>by simp[aM,eR,bA]) ?_ (by rw[setRow_size];exact ayL _) (λb _ gx=>xx _ _ _ _ ?_) rfl rfl rfl ?_
 .intro b hb;rcases pF hb with hb|⟨_,hb⟩
  .exact .inl hb
  .subst hb;exact .inl ⟨_,_,hl,rfl⟩
 .intro e;subst e;exact gx ⟨_,_,hl,rfl⟩
 .refine⟨⟨by omega,λe he=>?_⟩,⟨_,cC _ _ _ _,by simp⟩,λe he gw=>?_⟩
  .have:e≠aE+1:=aj;simp[aM,eR,this,gx e aj]
  .by_cases Qz:e=aE+1
   .subst Qz;refine⟨_,_,el,cC _ _ _ _,by simp,zR,by simp;omega,λk x hk hx=>?_⟩;have⟨l2,c2,Tb,h1,_,h3,_,h5⟩:=bX aE yU (ayL _);rw[hl]at h1;cases h1;rw[Et]at h3;cases h3;by_cases yV:k<cs.length
    .rw[ayZ yV]at hx;have⟨u,hu,kZ⟩:=h5 k x aj hx;refine⟨u,?_,kZ.mono iX⟩;rw[aAq,ay3,ayZ (by simp;omega),azn,if_pos yV];simpa using hu
    .rw[aze aj]at hx;have⟨u,hu,kZ⟩:=hr.get hx;have Ca:=(ayH.1 hu).1;refine⟨u,?_,kZ.mono iX⟩;rw[aAq,ayZ (by simp;omega),aze (by simp;omega)];simp only[azS,Array.length_toList,aCn (show cs.length<=c.size by omega)];exact hu
   .have⟨l2,c2,Tb,h1,h2,h3,h4,h5⟩:=bX e he aj;by_cases Xw:l2.b=l.b
    .rw[Xw,Et]at h3;cases h3;refine⟨l2,_,el,iX _ _ _ h1,by simp;omega,by rw[Xw];exact zR,by simp;omega,λk x hk hx=>?_⟩;rw[ayZ aj]at hx;have⟨u,hu,kZ⟩:=h5 k x hk hx;refine⟨u,?_,kZ.mono iX⟩;rw[aAq,ay3,ayZ (by simp;omega),azn,if_pos aj];simpa using hu
    .refine⟨l2,c2,Tb,iX _ _ _ h1,by simp;omega,by rw[xx _ _ _ _ Xw];exact h3,h4,λk x hk hx=>?_⟩;rw[ayZ aj]at hx;have⟨u,hu,kZ⟩:=h5 k x hk hx;exact⟨u,hu,kZ.mono iX⟩
theorem Inv.ajp(hi:Inv N ι σ w){id aE mn:Nat}{cs new:List IV}{DO di:List Value}(aT:σ.at id=aa (.cells cs aE mn))(eA:ro<=id)(aun:aN ι cs DO)(hr:aN ι new di)
 (rest:List Value)(el:TypeId):
 let w':World:={w with heap:=w.heap.push (.cells (DO++di++rest).toArray el),drawn:=w.drawn+1}
 let aM:=eR ι id (aE+1) ⟨w.heap.size,cs.length+new.length,(DO++di++rest).length⟩
 Inv N aM (σ.put id (.cells (cs++new) (aE+1) mn)) w'/\Le ro ι w σ aM w' (σ.put id (.cells (cs++new) (aE+1) mn)):=by
 intro w' aM;have eW:=hi.obj id _ aT;have⟨⟨yU,gx⟩,⟨l0,mc,m7⟩,bX⟩:=eW;have ki:ι id (aE+1)=ah:=gx _ aj;have iX:=mz (l:=⟨w.heap.size,cs.length+new.length,(DO++di++rest).length⟩) ki;have hold:∀b,b<w.heap.size->w'.heap[b]?=w.heap[b]? :=λb hb=>by rw[aCF,if_neg aj]
 have zR:w'.heap[w.heap.size]?=aa (.cells (DO++di++rest).toArray el (0,0)):=by simp[w']
 refine hi.put aT eA ⟨_,_,mc⟩ iX (λi bA e=>by simp[aM,eR,bA]) ?_ (by simp[w']) (λb hb _=>hold b hb) rfl rfl rfl ?_
 .intro b hb;rcases pF hb with hb|⟨_,hb⟩
  .exact .inl hb
  .subst hb;exact .inr ⟨ayL _,by simp[w']⟩
 .refine⟨⟨by omega,λe he=>?_⟩,⟨_,cC _ _ _ _,by simp⟩,λe he gw=>?_⟩
  .have:e≠aE+1:=aj;simp[aM,eR,this,gx e aj]
  .by_cases Qz:e=aE+1
   .subst Qz;refine⟨_,_,el,cC _ _ _ _,by simp,zR,by simp,λk x hk hx=>?_⟩;have⟨u,hu,kZ⟩:=(aun.append hr).get hx;have Ca:=(ayH.1 hu).1;refine⟨u,?_,kZ.mono iX⟩;rw[aAq,ayZ Ca];exact hu
   .have⟨l2,c2,Tb,h1,h2,h3,h4,h5⟩:=bX e he aj;have ak:=hi.gU id _ ⟨_,_,h1,rfl⟩;refine⟨l2,c2,Tb,iX _ _ _ h1,by simp;omega,by rw[hold _ ak];exact h3,h4,λk x hk hx=>?_⟩;rw[ayZ aj]at hx;have⟨u,hu,kZ⟩:=h5 k x hk hx;exact⟨u,hu,kZ.mono iX⟩
def Eu(P:Program)(ro:Nat)(N:Nat)(ι:Io)(w:World)(σ:St)(s:Sem Value)(v:IV)(au:St):Prop:=
 ∃u w' aM,s.run P w=.ok u w'/\Rv aM v u/\Inv N aM au w'/\Le ro ι w σ aM w' au
theorem Om(aC cQ:Nat)(el:TypeId)(w:World):∃c,aC<=c/\(choose (.appendCap aC cQ el)).run P w=.ok c {w with drawn:=w.drawn+1}:=by
 simp_all[Question.cut,aAz,aAB]
structure Ew(P:Program)(elem:TypeId)(size bytes br n:Nat)(zero:Value):Prop where
 axM:aX P elem=aa size
 hzero:db P elem=aa zero
 alq:(P.info? elem).map (·.bytes)=aa bytes
 xy:size≠0
 hz:zero.cells.size=size
 S_:(4*(br+n)+4096)*bytes<=2 ^47
 ZE:br+n<=2 ^40
def Tf:TypeDesc->Bool
 | .int _=>ab
 | _=>af
theorem HD{xd:TypeDesc}(h:∀k,xd≠.int k):Tf xd=af:=by cases xd<;>first|rfl|grind
structure ZQk (elem:TypeId)(base:Option Addr)(br fx size:Nat)(x:Value) where
 big:Bool->Sem Value
 rest:Bool->Nat->Sem Value
 eq:∀{P:Program}{w:World}{argTypes:Array TypeId}{ty sT xT:TypeId},argTypes[0]?=aa sT->argTypes[1]?=aa xT->P.underlying sT=aa (.slice elem)->aX P elem=aa size->
  (aBd argTypes ty #[.slice base br fx,x]).run P w=(do
   let u<-underlying xT
   let jc<-pure (Tf u)
   if jc then big jc
   else do
    let n<-aBk x
    rest jc n).run P w
def zQk(elem:TypeId)(base:Option Addr)(br fx size:Nat)(x:Value):ZQk elem base br fx size x:=by
 apply ZQk.mk
 intro P w argTypes ty sT xT h0 h1 hu hs
 unfold aBd
 rw[h0,h1]
 show aAz P (do
  let __x<-underlying sT
  _) w=_
 rw[ayT,bD hu,ayM]
 show aAz P (do
  let size<-sizeOf elem
  _) w=_
 rw[ayT,fQ hs,ayM]
 rfl
def qv(elem:TypeId)(jc:Bool)(base:Option Addr)(br fx size n:Nat)(x:Value):Sem Value:=(zQk elem base br fx size x).rest jc n
theorem zQc{z:Value}{size n:Nat}(h:z.cells.size=size)(hs:size≠0):aA0 z.cells n=((ay_ n z.cells.toList).flatten).toArray:=by
 unfold aA0
 rw[h]
 have:=Fu z.cells size n h hs
 rwa[h]at this
def yg(P:Program)(elem:TypeId)(size n:Nat)(x:Value)(di:List Value)(w:World):Bool->Prop
 | af=>(azX size n x).run P w=.ok di.toArray w
 | ab=>∃z,db P elem=aa z/\z.cells.size=size/\size≠0/\di=(ay_ n z.cells.toList).flatten
theorem On{elem:TypeId}{jc:Bool}{base:Option Addr}{br fx size n:Nat}{x:Value}{di:List Value}(hle:br+n<=fx)(gp:yg P elem size n x di w jc):
  (qv elem jc base br fx size n x).run P w=(match base with
   | aa a=>(storeCells (a.add (br*size)) di).run P w
   | ah=>.ok () w).andThen fun _ w'=>.ok (.slice base (br+n) fx) w':=by
 cases jc
 .have hn:(azX size n x).run P w=_:=gp
  simp only[qv,zQk,if_pos hle,ayT]
  cases base<;>simp[hn]
 have⟨z,h0,h1,h2,h3⟩:=gp
 subst h3
 simp only[qv,zQk,if_pos hle,ayT]
 by_cases h4:n=0
 .subst h4
  cases base<;>simp
 .cases base<;>simp[mA h0,zQc h1 h2,h4,h2,Nat.mul_ne_zero h4 h2]
theorem Td{elem:TypeId}{jc:Bool}{base:Option Addr}{br fx size n bytes:Nat}{zero x:Value}{DO di:List Value}(ha:Ew P elem size bytes br n zero)(Te:¬br+n<=fx)
  (gp:∀d,yg P elem size n x di {w with drawn:=d} jc) (hold:∀d,(azX size br (.slice base br fx)).run P {w with drawn:=d}=.ok DO.toArray {w with drawn:=d}):
  ∃c rest,br+n<=c/\rest.length=(c-(br+n))*size/\
   (qv elem jc base br fx size n x).run P w=.ok (.slice (aa ⟨w.heap.size,0,ah⟩) (br+n) c) {w with heap:=w.heap.push (.cells (DO++di++rest).toArray elem),drawn:=w.drawn+1}:=by
 have⟨i,hi,hb,hti⟩:=Hz ha.alq w
 have auo:∀w':World,(typeInfo elem).run P w'=.ok i w':=fun w'=>by simp[typeInfo,hi]
 have⟨c,hc,hch⟩:=Om (P:=P) (br+n) fx elem w
 have ho:=hold (w.drawn+1)
 have h1:¬((br+n:Nat):Int) > azc.max:=by
  have:azc.max=9223372036854775807:=by decide
  have:=ha.ZE
  omega
 have h2:¬aAI (br+n) fx*i.bytes>2 ^ 48:=by
  have kG:=ZD (aC:=br+n) (cQ:=fx) (by omega)
  have:aAI (br+n) fx*i.bytes<=(4*(br+n)+4096)*i.bytes:=azd _ kG
  have:=ha.S_
  grind
 have tO:(zeroValue elem).run P {w with drawn:=w.drawn+1}=.ok zero {w with drawn:=w.drawn+1}:=mA ha.hzero _
 have kj:aA0 zero.cells (c-(br+n))=((ay_ (c-(br+n)) zero.cells.toList).flatten).toArray:=by
  unfold aA0
  rw[ha.hz]
  have:=Fu zero.cells size (c-(br+n)) ha.hz ha.xy
  simp_all[ha.hz]
 refine⟨c,(ay_ (c-(br+n)) zero.cells.toList).flatten,hc,Qw zero size _ ha.hz,?_⟩
 cases jc
 .have hn:(azX size n x).run P {w with drawn:=w.drawn+1}=_:=gp (w.drawn+1)
  simp only[qv,zQk,if_neg Te,ayT,auo,ayM,h1,false_and,if_false,h2,hch,run_askRoom,Bool.not_false,if_true,ay9,List.getElem_toArray,List.getElem_cons_zero,List.getElem_cons_succ,ho,hn,tO,kj,newRow,run_newObj]
  simp
 have⟨z,k0,k1,k2,k3⟩:=gp (w.drawn+1)
 cases ha.hzero.symm.trans k0
 subst k3
 have hN:n≠0->n*size≠0:=fun h=>Nat.mul_ne_zero h k2
 have hz':=zQc (n:=n) k1 k2
 by_cases h4:n=0
 .subst h4
  simp only[qv,zQk,if_neg Te,ayT,auo,ayM,h1,false_and,if_false,h2,hch,run_askRoom,Bool.not_true,azi,Nat.zero_mul,if_true,ay9,List.getElem_toArray,List.getElem_cons_zero,ho,tO,kj,newRow,run_newObj]
  simp
 .simp only[qv,zQk,if_neg Te,ayT,auo,ayM,h1,false_and,if_false,h2,hch,run_askRoom,Bool.not_true,azi,if_neg (hN h4),ay9,List.getElem_toArray,List.getElem_cons_zero,ho,hz',tO,kj,newRow,run_newObj]
  simp
theorem W4{argTypes:Array TypeId}{ty sT xT elem:TypeId}{xd:TypeDesc}{base:Option Addr}{br fx size n:Nat}{x:Value}(h0:argTypes[0]?=aa sT)(h1:argTypes[1]?=aa xT)
  (hu:P.underlying sT=aa (.slice elem)) (hx:P.underlying xT=aa xd) (hd:∀k,xd≠.int k) (hs:aX P elem=aa size) (hn:(aBk x).run P w=.ok n w):
  (aBd argTypes ty #[.slice base br fx,x]).run P w=(qv elem af base br fx size n x).run P w:=by
 rw[(zQk elem base br fx size x).eq h0 h1 hu hs,ayT,bD hx,ayM,HD hd]
 show aAz P (do
  let n<-aBk x
  _) w=_
 rw[ayT,hn,ayM]
 rfl
theorem W5{argTypes:Array TypeId}{ty sT xT elem:TypeId}{k:IntKind}{base:Option Addr}{br fx size bytes:Nat}{l:Int}(h0:argTypes[0]?=aa sT)(h1:argTypes[1]?=aa xT)
  (hu:P.underlying sT=aa (.slice elem)) (hx:P.underlying xT=aa (.int k)) (hs:aX P elem=aa size) (hb:(P.info? elem).map (·.bytes)=aa bytes) (mc:0<=l) (om:l<=1000000)
  (S_:l.toNat*bytes<=2 ^ 48):
  (aBd argTypes ty #[.slice base br fx,.int .i64 l]).run P w=(qv elem ab base br fx size l.toNat (.int .i64 l)).run P w:=by
 have⟨i,hi,Xx,hti⟩:=Hz hb w
 have wl:azc.wrap l=l:=aB_ _ (by omega)
 have c1:¬l < 0:=by omega
 have c2:¬l*(i.bytes:Int)>2 ^ 48:=by
  grind
 rw[(zQk elem base br fx size _).eq h0 h1 hu hs,ayT,bD hx,ayM]
 show aAz P (if azc.wrap l < 0 then _ else (do
  let t<-typeInfo elem
  if azc.wrap l*(t.bytes:Int)>2 ^ 48 then _ else _)) w=_
 rw[wl,if_neg c1,ayT,hti,ayM,if_neg c2]
 rfl
theorem Tg{size n:Nat}{zero:Value}{xd:TypeDesc}{x:IV}{vx:Value}{new:List IV}{elem:TypeId}(hi:Inv N ι σ w)(hs:size≠0)(hz:zero.cells.size=size)(tO:db P elem=aa zero)
 (h:u5 size zero xd σ x=aa (n,new))(hx:Rv ι x vx):
 ∃di,aN ι new di/\(∀d,yg P elem size n vx di {w with drawn:=d} (Tf xd))/\
  ((∃k,xd=.int k/\∃l,vx=.int .i64 l/\0<=l/\l<=1000000/\n=l.toNat)\/((∀k,xd≠.int k)/\(aBk vx).run P w=.ok n w)):=by
 unfold u5 at h;split at h
 .rename_i k;split at h
  .rename_i l;split at h
   .rename_i hl;cases h;cases hx;refine⟨_,HB zero size l.toNat hz hs,λd=>?_,.inl ⟨k,rfl,l,rfl,hl.1,hl.2,rfl⟩⟩;exact ⟨_,tO,hz,hs,rfl⟩
   grind
  grind
 .rename_i hd;split at h
  .rename_i n' hn;split at h
   .rename_i cs hc;cases h;have⟨vs,h1,h2⟩:=HC (P:=P) hi hc hx;refine⟨vs,h2,λd=>?_,.inr ⟨hd,ajo hn hx w⟩⟩;rw [HD hd];exact h1 _ rfl
   grind
  grind
theorem Fv{elem:TypeId}{jc:Bool}{size bytes br n fx:Nat}{zero vx:Value}{base:Option Addr}{s v:IV}{new:List IV}{di:List Value}{au:St}(hi:Inv N ι σ w)
 (ha:Ew P elem size bytes br n zero)(Te:¬br+n<=fx)(hr:aN ι new di)(hlen:new.length=n*size)(gp:∀d,yg P elem size n vx di {w with drawn:=d} jc)
 (hs:Rv ι s (.slice base br fx))(h:gl size br n new s σ=aa (.val v au))(hN:au.n<=N):
 Eu P ro N ι w σ (qv elem jc base br fx size n vx) v au:=by
 unfold gl at h;split at h
 .rename_i cQ ho;split at h
  .rename_i Ey;cases h;have⟨DO,h1,h2⟩:=HC (P:=P) hi ho hs;obtain⟨c,rest,hc,qM,ia⟩:=Td (base:=base) ha Te gp (λd=>h1 _ rfl);have xy:=ha.xy
   have⟨aM,r1,r2,r3⟩:=hi.grown (ro:=ro) (by assumption) (h2.append hr) rest elem (size:=size) (m:=br+n) (c:=c) aj bc
    (by
     have e1:=h2.1;have e2:=hr.1;simp only[ayP,qM,<-e1,<-e2,Ey,hlen];rw[<-azD,<-azD]
     grind) hc
   exact⟨_,_,aM,ia,r1,r2,r3⟩
  grind
 grind
theorem Inv.shrink(hi:Inv N ι σ w){id aE mn k:Nat}{cs:List IV}{l:Loc}(aT:σ.at id=aa (.cells cs aE mn))(eA:ro<=id)(hl:ι id aE=aa l)(hk:k<=cs.length):
 Inv N (eR ι id (aE+1) ⟨l.b,k,l.Ep⟩) (σ.put id (.cells (cs.take k) (aE+1) (aE+1))) w/\Le ro ι w σ (eR ι id (aE+1) ⟨l.b,k,l.Ep⟩) w (σ.put id (.cells (cs.take k) (aE+1) (aE+1))):=by
 have⟨⟨yU,gx⟩,⟨l0,mc,m7⟩,bX⟩:=hi.obj id _ aT;obtain rfl:l=l0:=bc;have ki:ι id (aE+1)=ah:=gx _ aj;have iX:=mz (l:=⟨l.b,k,l.Ep⟩) ki;refine hi.put aT eA ⟨_,_,hl⟩ iX (λi bA e=>by simp[eR,bA]) ?_ (ayL _) (λ_ _ _=>rfl) rfl rfl rfl ?_
 .intro b hb;rcases pF hb with hb|⟨_,hb⟩
  .grind
  .subst hb;exact .inl ⟨_,_,hl,rfl⟩
 .refine⟨⟨ayL _,λe he=>?_⟩,⟨_,cC _ _ _ _,by grind⟩,λe he gw=>?_⟩
  .have:e≠aE+1:=aj;simp[eR,this,gx e aj]
  .have Qz:e=aE+1:=aj;subst Qz;have⟨l2,c2,Tb,h1,_,h3,h4,h5⟩:=bX aE yU (ayL _);rw[hl]at h1;cases h1;refine⟨_,c2,Tb,cC _ _ _ _,by grind,h3,h4,λj x hj hx=>?_⟩;simp only at hj;rw[azn,if_pos hj]at hx;have⟨u,hu,kZ⟩:=h5 j x aj hx;exact⟨u,hu,kZ.mono iX⟩
theorem HE{elem:TypeId}{jc:Bool}{st bytes br n id aE mn c:Nat}{zero vx:Value}{new cs:List IV}{di:List Value}{l:Loc}{a:Addr}(hi:Inv N ι σ w)
 (ha:Ew P elem st bytes br n zero)(hr:aN ι new di)(hlen:new.length=n*st)(bf:new.all ao=ab)(gp:∀d,yg P elem st n vx di {w with drawn:=d} jc)
 (aT:σ.at id=aa (.cells cs aE mn))(eA:ro<=id)(hl:ι id aE=aa l)(hn:0+br*st<=l.n)(kF:0+c*st<=l.Ep)(cw:0<st)(hle:br<=c)(MA:0<c->a=⟨l.b,0,ah⟩)
 (w_:br*st=cs.length)(h0:¬n=0):
 Eu P ro N ι w σ (qv elem jc (aa a) br c st n vx) (.sl id 0 (br+n) ah (aE+1) st) (σ.put id (.cells (cs++new) (aE+1) mn)):=by
 have hw:({w with drawn:=w.drawn}:World)=w:=rfl;have aeS:Rv ι (.sl id 0 br ah aE st) (.slice (aa a) br c):=.sl _ _ _ _ _ _ l c a hl hn kF cw hle (λk hk=>by grind) MA;have⟨⟨yU,_⟩,⟨l3,h3,h4⟩,_⟩:=hi.obj id _ aT;rw[hl]at h3;cases h3;by_cases vD:br+n<=c
 .have⟨l2,cc,el,gb,Oo,ayl,Et,axN,_⟩:=Jm (hi.obj id _ aT) yU (ayL _);rw[hl]at gb;cases gb;have hmul:=azd st vD;have Es:=hr.1;have ak:cs.length+di.length<=cc.size:=bc;have⟨r1,r2⟩:=hi.alp (ro:=ro) aT eA hr hl Et ak;have Th:=MA aj;subst Th;refine⟨.slice (aa ⟨l.b,0,ah⟩) (br+n) c,_,_,?_,?_,r1,r2⟩
  .rw[On vD (gp w.drawn),hw];simp only[jb,aAn,w_,vB (P:=P) Et ak (Ft hr bf),ayM]
  .exact .sl _ _ _ _ _ _ _ c _ (cC _ _ _ _) bc kF cw vD (λk hk=>by cases hk) (λ_=>rfl)
 .have Xz:fU st br σ (.sl id 0 br ah aE st)=aa cs:=by
   simp_all[fU]
  have⟨DO,h5,h6⟩:=HC (P:=P) hi Xz aeS;obtain⟨c',rest,qd,qM,ia⟩:=Td (base:=aa a) ha vD gp (λd=>h5 _ rfl);have⟨r1,r2⟩:=hi.ajp (ro:=ro) aT eA h6 hr rest elem;refine⟨_,_,_,ia,?_,r1,r2⟩;refine .sl _ _ _ _ _ _ _ c' _ (cC _ _ _ _) ?_ ?_ cw qd (λk hk=>by grind) (λ_=>rfl)
  .grind
  .have e1:=h6.1;have e2:=hr.1;simp only[ayP,qM,<-e1,<-e2,hlen,<-w_];rw[<-azD,<-azD]
   grind
theorem W6{elem:TypeId}{jc:Bool}{size bytes br n:Nat}{zero vs vx:Value}{s v:IV}{new:List IV}{di:List Value}{au:St}(hi:Inv N ι σ w)
 (ha:Ew P elem size bytes br n zero)(hr:aN ι new di)(hlen:new.length=n*size)(bf:new.all ao=ab)(gp:∀d,yg P elem size n vx di {w with drawn:=d} jc)
 (hs:Rv ι s vs)(Km:qE s=aa br)(h:fv ro size br n new s σ=aa (.val v au))(hN:au.n<=N):
 ∃base fx,vs=.slice base br fx/\Eu P ro N ι w σ (qv elem jc base br fx size n vx) v au:=by
 have hw:({w with drawn:=w.drawn}:World)=w:=rfl;have xy:=ha.xy
 have stay:∀{base:Option Addr} {fx:Nat},n=0->br<=fx->(∃a,base=aa a)\/base=ah->∀{u:IV},Rv ι u (.slice base br fx)->
  Eu P ro N ι w σ (qv elem jc base br fx size n vx) u σ:=by
  intro base fx h0 hle hb u hu;subst h0;have hv:di=[]:=azb (by have:=hr.1;omega);subst hv;refine⟨_,w,ι,?_,hu,hi,Le.refl _ _ _ _⟩;rw[On aj (gp w.drawn)];cases base<;>simp[storeCells]
 unfold fv at h;split at h
 .split at h
  .rename_i w_;obtain⟨rfl,rfl⟩:=w_;have e0:br=0:=by simp_all[qE]
   subst e0;cases hs;refine⟨ah,0,rfl,?_⟩;split at h<;>try exact Fv hi ha aj hr hlen gp (.raw _) h hN
   rename_i h0;cases h;exact stay h0 (ayL _) (.inr rfl) (.raw _)
  grind
 .have e0:br=0:=by simp_all[qE]
  subst e0;cases hs with
  |emp a=>
   refine⟨aa a,0,rfl,?_⟩;split at h<;>try exact Fv hi ha aj hr hlen gp (.emp a) h hN
   rename_i h0;cases h;exact stay h0 (ayL _) (.inl ⟨a,rfl⟩) (.emp a)
 .rename_i st es;have e0:br=es.length:=by simp_all[qE]
  subst e0;split at h
  .rename_i h0;cases h;cases hs with
   |tree _ _ b off c us cw hc bH hu hh=>exact⟨_,c,rfl,stay h0 hc (.inl ⟨_,rfl⟩) (.tree _ _ b off c us cw hc bH hu hh)⟩
   |eJ _ a c cw hn=>exact⟨a,c,rfl,stay h0 (azz _) (by cases a with|none=>simp|some a=>simp) (.eJ _ a c cw hn)⟩
  grind
 .rename_i id off len cap ep st;have e0:br=len:=by grind [qE]
  subst e0;split at h<;>try cases h
  rename_i bL;have bL:=azs bL;subst bL;cases hs with
  |sl _ _ _ _ _ _ l c a hl hn kF cw hle kG MA=>
   refine⟨aa a,c,rfl,?_⟩;have aeS:Rv ι (.sl id off br cap ep st) (.slice (aa a) br c):=.sl _ _ _ _ _ _ l c a hl hn kF cw hle kG MA;split at h
   .cases h
    grind
   .rename_i h0;split at h
    .rename_i k;have hck:=(kG k rfl).1;subst hck;split at h
     .rename_i vD;split at h
      .rename_i cs aE mn aT;split at h
       .rename_i hc;obtain⟨eA,rfl,alj⟩:=hc;cases h;have aqd:off+br*st+new.length<=cs.length:=bc;have⟨l2,cc,el,gb,Et,ak,r1,r2⟩:=hi.write (ro:=ro) aT eA aqd hr;rw[hl]at gb;cases gb
        have Hc:l.n=cs.length:=by
         have⟨_,⟨l3,h3,h4⟩,_⟩:=hi.obj id _ aT
         grind
        have Th:=MA aj;subst Th;refine⟨.slice (aa ⟨l.b,off,ah⟩) (br+n) c,_,ι,?_,?_,r1,r2⟩
        .rw[On vD (gp w.drawn),hw];simp only[jb,vB (P:=P) Et ak (Ft hr bf),ayM]
        .exact .sl _ _ _ _ _ _ l c _ hl aj kF cw vD kG (λ_=>rfl)
       grind
      grind
     .rename_i vD;exact Fv hi ha vD hr hlen gp aeS h hN
    .split at h
     .rename_i cs aE mn aT;split at h
      .rename_i hc;obtain⟨eA,rfl,rfl,w_⟩:=hc;cases h;exact HE hi ha hr hlen bf gp aT eA hl hn kF cw hle MA w_ h0
      .split at h
       .rename_i hc;obtain⟨eA,rfl,rfl,w_⟩:=hc;cases h;have⟨i1,l1⟩:=hi.shrink (ro:=ro) aT eA hl w_;have hx:=l1.ext;have:=HE (ro:=ro) (id:=id) (aE:=ep+1) (mn:=ep+1) (cs:=cs.take (br*st)) (l:=⟨l.b,br*st,l.Ep⟩) (a:=a) i1 ha (hr.mono hx) hlen bf gp aw eA (cC _ _ _ _) aw kF cw hle MA bc h0;have⟨u,w',aM,k1,k2,k3,k4⟩:=this;exact⟨u,w',aM,k1,k2,k3,Le.trans (λid h1 h2=>by grind [St.qK]) l1 k4⟩
       grind
     grind
 grind
theorem ab1{argTypes:Array TypeId}{ty:TypeId}{s x v:IV}{vs vx:Value}{au:St}(hi:Inv N ι σ w)(hs:Rv ι s vs)(hx:Rv ι x vx)(h:mw P ro argTypes s x σ=aa (.val v au))(hN:au.n<=N):
 Eu P ro N ι w σ (aBd argTypes ty #[vs,vx]) v au:=by
 unfold mw at h;split at h
 .rename_i sT xT h0 h1;split at h
  .rename_i elem xd hu hxd;split at h
   .rename_i size zero bytes bo hz hb;split at h<;>try cases h
    rename_i hc;have cw:=λe=>hc (.inl e);have Kl:=azs λe=>hc (.inr e);split at h
    .rename_i n new br Ti hls;split at h
     .rename_i cH;have⟨hlen,bf,S_,ZE⟩:=cH;have⟨di,hr,gp,vE⟩:=Tg hi cw Kl hz Ti hx;have ha:Ew P elem size bytes br n zero:=⟨bo,hz,hb,cw,Kl,S_,ZE⟩;obtain⟨base,fx,rfl,u,w',aM,ia,g⟩:=W6 hi ha hr hlen bf gp hs hls h hN;refine⟨u,w',aM,?_,g⟩;rcases vE with⟨k,rfl,l,rfl,mc,om,rfl⟩|⟨hd,hn⟩
      .have Xw:l.toNat*bytes<=2 ^48:=by
        grind
       rw[W5 h0 h1 hu hxd bo hb mc om Xw];exact ia
      .rw[W4 h0 h1 hu hxd hd bo hn];rw[HD hd]at ia;omega
     grind
    grind
   grind
  grind
 grind
def Bd:Option Nat->Option Value->Prop
 |none,v=>v=ah
 |some n,v=>∃k i,v=aa (.int k i)/\0<=i/\i.toNat=n
theorem Oq{x:Option Operand}{q:Option Nat}(h:iD (x.map ρ)=aa q)(hr:∀y,x=aa y->Rv ι (ρ y) (r y)):Bd q (x.map r):=by
 cases x with
 |none=>simp[iD]at h;subst h;rfl
 |some y=>
  have hy:=hr y rfl;simp only[azl,iD]at h;split at h
  .grind
  .rename_i k i he;simp only[ayO]at he;split at h
   .rename_i h0;cases h;exact⟨k,i,by simp[gn he hy],h0,rfl⟩
   grind
  grind
theorem Cb{v:Value}{n y:Nat}{code:BoundsCode}(h:∃k i,v=.int k i/\0<=i/\i.toNat=n)(hle:n<=y)(w:World):(aBZ v y code).run P w=.ok n w:=by
 obtain⟨k,i,rfl,h0,h1⟩:=h;have:i<=(y:Int):=aj;simp[aBZ,asIntOf,h0,this,h1]
theorem Fw{isSlice:Bool}{len cap:Nat}{lo hi mx:Option Value}{ql qh qm:Option Nat}(hl:Bd ql lo)(hh:Bd qh hi)(hm:Bd qm mx)(Hd:¬(qm.isSome=ab/\qh.isSome=af))
 (h1:qm.getD cap<=cap)(h2:∀h,qh=aa h->h<=qm.getD cap)(h3:ql.getD 0<=qh.getD len)(w:World):
 (aCR isSlice len cap lo hi mx).run P w=.ok (ql.getD 0,qh.getD len,qm.getD cap) w:=by
 have fin:∀(h m:Nat) (code:BoundsCode),ql.getD 0<=h->aAz P (match lo with
  |some v=>do
   let l<-aBZ v h code
   pure (l,h,m)
  |none=>do
   let l<-pure 0
   pure (l,h,m)) w=.ok (ql.getD 0,h,m) w:=by
  intro h m code hle;cases ql with
  |none=>cases hl;rfl
  |some l=>
   obtain⟨k,i,rfl,h0,h1⟩:=hl;simp only[ayT,Cb (P:=P) (v:=.int k i) (n:=l) (y:=h) (code:=code) ⟨k,i,rfl,h0,h1⟩ hle w,ayM,ay9,aAy]
 unfold aCR;cases qm with
 |none=>
  cases hm;cases qh with
  |none=>
   cases hh;exact fin len cap _ h3
  |some h=>
   obtain⟨k,i,rfl,h0,h4⟩:=hh;have hb:=Cb (P:=P) (v:=.int k i) (n:=h) (y:=cap) (code:=if isSlice then .sliceAcap else .sliceAlen) ⟨k,i,rfl,h0,h4⟩ (h2 h rfl) w;simp only[ayT,ay9,ayM,hb];exact fin h cap _ h3
 |some m=>
  obtain⟨km,im,rfl,zS,xc⟩:=hm;have A4:=Cb (P:=P) (v:=.int km im) (n:=m) (y:=cap) (code:=if isSlice then .slice3Acap else .slice3Alen) ⟨km,im,rfl,zS,xc⟩ h1 w;cases qh with
  |none=>grind
  |some h=>
   obtain⟨k,i,rfl,h0,h4⟩:=hh;have hb:=Cb (P:=P) (v:=.int k i) (n:=h) (y:=m) (code:=.slice3B) ⟨k,i,rfl,h0,h4⟩ (h2 h rfl) w;simp only[ayT,ayM,A4,hb];exact fin h m _ h3
theorem px{t elem:TypeId}{sz len cap:Nat}{a:Option Addr}{lo hi mx:Option Value}{ql qh qm:Option Nat}(hu:P.underlying t=aa (.slice elem))(hs:aX P elem=aa sz)
 (hl:Bd ql lo)(hh:Bd qh hi)(hm:Bd qm mx)(Hd:¬(qm.isSome=ab/\qh.isSome=af))(h1:qm.getD cap<=cap)(h2:∀h,qh=aa h->h<=qm.getD cap)(h3:ql.getD 0<=qh.getD len)(w:World):
 (aAU t (.slice a len cap) lo hi mx).run P w=
  .ok (.slice (if qm.getD cap=ql.getD 0 then a else a.map (·.add (ql.getD 0*sz))) (qh.getD len- ql.getD 0) (qm.getD cap- ql.getD 0)) w:=by
 have hb:=Fw (P:=P) (isSlice:=ab) hl hh hm Hd h1 h2 h3 w;simp only[aAU,ayT,bD hu,ayM,aDY,hb,fQ hs,ay9]
theorem extract_eq(s:ByteArray)(l h:Nat):(⟨((s.data.toList.drop l).take (h- l)).toArray⟩:ByteArray)=s.extract l h:=by
 apply aCQ;apply aBi;simp
theorem aeT{t:TypeId}{x:Operand}{lo hi mx:Option Operand}(ct:Inv N ι σ w)(hr:Rv ι (ρ x) (r x))(yW:∀y,lo=aa y->Rv ι (ρ y) (r y))(hhi:∀y,hi=aa y->Rv ι (ρ y) (r y))
 (vF:∀y,mx=aa y->Rv ι (ρ y) (r y))(ho:o.op=.slice t x lo hi mx)(h:aA P ro ρ o σ=aa out):bB P ro N ι w σ r o out:=by
 unfold aA at h;rw[ho]at h;simp only at h;split at h
 .rename_i v hv;obtain rfl:=aZ h
  suffices hs:∃u,(aAU t (r x) (lo.map r) (hi.map r) (mx.map r)).run P w=.ok u w/\Rv ι v u by
   have⟨u,h1,h2⟩:=hs;exact bB.same ct (u:=u) (by simp[execOp,ho,h1]) h2
  generalize hq:r x=q at hr;generalize hiq:ρ x=iq at hr hv;unfold gm at hv;split at hv
  .rename_i _ _ _ ql qh qm e1 e2 e3;have bl:=Oq e1 yW;have bh:=Oq e2 hhi;have bm:=Oq e3 vF;clear e1 e2 e3;split at hv
   .grind
   .rename_i Hd;split at hv
    .rename_i hu;split at hv
     .rename_i s;split at hv
      .rename_i hc;obtain⟨rfl,h1,h2⟩:=hc;cases hv;cases hr;refine⟨.string (s.extract (ql.getD 0) (qh.getD s.size)),?_,by rw[extract_eq];exact .raw _⟩;have hb:=Fw (P:=P) (isSlice:=af) (len:=s.size) (cap:=s.size) (mx:=ah) bl bh (qm:=ah) rfl aw (ayL _) (λh hh=>by grind) h1 w;have yU:mx.map r=ah:=bm;simp only[aAU,ayT,bD hu,ayM,aDY,yU,Option.isSome_none,azi,if_false,ay9,hb]
      grind
     grind
    .rename_i elem hu;split at hv
     .grind
     .rename_i sz bo;split at hv
      .split at hv
       .rename_i hc;have⟨h1,h2,h3⟩:=hc;cases hv;cases hr;have hb:=px (P:=P) (a:=ah) (len:=0) (cap:=0) hu bo bl bh bm Hd aj (λh hh=>by grind) aj w;rw[h1,h2,h3]at hb;exact⟨_,by grind,.raw _⟩
       grind
      .split at hv
       .rename_i hc;have⟨h1,h2,h3⟩:=hc;cases hv;cases hr with
        |emp a=>
         have hb:=px (P:=P) (a:=aa a) (len:=0) (cap:=0) hu bo bl bh bm Hd aj (λh hh=>by grind) aj w;rw[h1,h2,h3]at hb;exact⟨_,by grind,.emp a⟩
       grind
      .rename_i id off len cap ep s;split at hv
       .grind
       .rename_i me;have me:sz=s:=azs me;subst me;cases hr with
        |sl _ _ _ _ _ _ l c a hl hn kF cw hle kG ha=>
         have known:∀m:Nat,qm.getD c=m->m<=c->(off+m*sz<=l.n)->ql.getD 0<=qh.getD len->qh.getD len<=m->
          aa v=aa (if m=ql.getD 0 then .emp else .sl id (off+ql.getD 0*sz) (qh.getD len- ql.getD 0) (aa (m- ql.getD 0)) ep sz)->
          ∃u,(aAU t (.slice (aa a) len c) (lo.map r) (hi.map r) (mx.map r)).run P w=.ok u w/\Rv ι v u:=by
          intro m e1 e2 e3 e4 e5 e6;have hb:=px (P:=P) (a:=aa a) (len:=len) (cap:=c) hu bo bl bh bm Hd aj (λh hh=>by grind) e4 w;rw[e1]at hb;refine⟨_,hb,?_⟩;by_cases Cc:m=ql.getD 0
          .rw[if_pos Cc]at e6;cases e6;rw[if_pos Cc,show qh.getD len- ql.getD 0=0 by omega,show m- ql.getD 0=0 by omega];exact .emp a
          .rw[if_neg Cc]at e6;cases e6;rw[if_neg Cc];have Th:=ha aj;subst Th;simp only[azl,jb];have xc:ql.getD 0*sz+(m- ql.getD 0)*sz=m*sz:=by rw[<-azD];grind
           have hm2:ql.getD 0*sz+(qh.getD len- ql.getD 0)*sz=qh.getD len*sz:=by rw[<-azD];grind
           have hm3:qh.getD len*sz<=m*sz:=azd sz e5;have hm4:m*sz<=c*sz:=azd sz e2;exact .sl _ _ _ _ _ _ l _ _ hl aj aj cw aj (λk hk=>by grind) (λ_=>rfl)
         split at hv
         .rename_i _ m;split at hv
          .rename_i hc;have⟨h1,h2,h3⟩:=hc
           have yU:m<=c/\off+m*sz<=l.n:=by
            cases cap with
            |none=>
             simp only[aBo]at h3;have:m*sz<=len*sz:=azd sz h3;omega
            |some k=>
             simp only[aAy]at h3;obtain⟨hk,oU⟩:=kG k rfl;subst hk;have:m*sz<=c*sz:=azd sz h3;omega
           grind
          grind
         .grind
         .split at hv
          .rename_i hc;have⟨h1,h2⟩:=hc;cases hv;have hb:=px (P:=P) (a:=aa a) (len:=len) (cap:=c) hu bo bl bh bm Hd (ayL _) (λh hh=>by grind) h1 w;simp only[aBo]at hb;have xc:ql.getD 0*sz+(c- ql.getD 0)*sz=c*sz:=by rw[<-azD];grind
           have hm2:ql.getD 0*sz+(qh.getD len- ql.getD 0)*sz=qh.getD len*sz:=by rw[<-azD];grind
           have hm3:=azd sz h2;by_cases jy:c=ql.getD 0
           .rw[if_pos jy]at hb;exact⟨_,hb,.sl _ _ _ _ _ _ l _ _ hl aj aj cw aj (λk hk=>by grind) (λh0=>by omega)⟩
           .rw[if_neg jy]at hb;have Th:=ha aj;subst Th;simp only[azl,jb]at hb;exact⟨_,hb,.sl _ _ _ _ _ _ l _ _ hl aj aj cw aj (λk hk=>by grind) (λ_=>rfl)⟩
          grind
      .rename_i s es;split at hv<;>try grind
       rename_i me;have me:=azs me;subst me;cases hr with
       |tree _ _ b off c us cw vC bH Kj hh=>
        split at hv
        .split at hv
         .rename_i hc;have⟨h1,h2⟩:=hc;cases hv;have hb:=px (P:=P) (a:=aa ⟨b,off,ah⟩) (len:=es.length) (cap:=c) hu bo bl bh bm Hd (ayL _) (λh hh=>by grind) h1 w;have hlen:((es.take (qh.getD es.length)).drop (ql.getD 0)).length=qh.getD es.length- ql.getD 0:=bc
          have aym:∀bb oo,(c≠ql.getD 0->bb=b/\oo=off+ql.getD 0*sz)->Rv ι (.tree sz ((es.take (qh.getD es.length)).drop (ql.getD 0))) (.slice (aa ⟨bb,oo,ah⟩) (qh.getD es.length- ql.getD 0) (c- ql.getD 0)):=by
           intro bb oo hbo;rw[<-hlen];refine .tree _ _ _ _ _ (λk=>us (ql.getD 0*sz+k)) cw aj (λe he=>bH e (azM (List.mem_of_mem_drop he))) (λk hk=>?_) (λi e j x he hx=>?_)
           .rw[hlen]at hk;have xc:ql.getD 0*sz+(qh.getD es.length- ql.getD 0)*sz=qh.getD es.length*sz:=by rw[<-azD];grind
            have hm2:=azd sz h2
            have bA:c≠ql.getD 0:=by
             grind
            obtain⟨rfl,rfl⟩:=hbo bA
            grind
           grind
          grind [jb]
         grind
        .split at hv
         .rename_i hc;obtain⟨rfl,h1,h2⟩:=hc;cases hv;have hb:=px (P:=P) (a:=aa ⟨b,off,ah⟩) (len:=es.length) (cap:=c) hu bo bl bh bm Hd (azz _) (λh hh=>by grind) aj w;rw[h1,h2]at hb;exact⟨_,by omega,.eJ _ _ _ cw aw⟩
         grind
       |eJ _ a c cw hn=>
        split at hv
        .split at hv
         .rename_i hc;have⟨h1,h2⟩:=hc;cases hv;simp only[aAm]at h1 h2;have mc:ql.getD 0=0:=aj;have QA:qh.getD 0=0:=aj;have hb:=px (P:=P) (a:=a) (len:=0) (cap:=c) hu bo bl bh bm Hd (ayL _) (λh hh=>by grind) aj w;simp only[aBo,mc,QA]at hb;refine⟨_,hb,?_⟩;simp only[List.take_nil,List.drop_nil]
          exact .eJ _ _ _ cw (λhx=>by
           cases a with
           |none=>grind
           |some a=>grind)
         grind
        .split at hv
         .rename_i hc;obtain⟨rfl,h1,h2⟩:=hc;cases hv;have hb:=px (P:=P) (a:=a) (len:=0) (cap:=c) hu bo bl bh bm Hd (azz _) (λh hh=>by grind) aj w;simp only[aAm]at h2;rw[h1,h2]at hb;exact⟨_,by omega,.eJ _ _ _ cw aw⟩
         grind
      grind
    .rename_i n elem hu;split at hv
     .rename_i id off ep ext s hs;split at hv
      .rename_i hc;obtain⟨cw,bA,rfl,h1,h2⟩:=hc;cases hr with
       |ptr _ _ _ _ l hl hx=>
        have hb:=Fw (P:=P) (isSlice:=af) (len:=n) (cap:=n) bl bh bm Hd (ayL _) (λh hh=>by grind) h1 w;simp only[aBo]at hb
        have ia:(aAU t (.pointer (aa ⟨l.b,off,ah⟩)) (lo.map r) (hi.map r) (mx.map r)).run P w=
         .ok (.slice (aa (if n=ql.getD 0 then⟨l.b,off,ah⟩else(⟨l.b,off,ah⟩:Addr).add (ql.getD 0*s))) (qh.getD n- ql.getD 0) (n- ql.getD 0)) w:=by
         simp only[aAU,ayT,bD hu,ayM,aAN,ay9,hb,fQ hs]
        refine⟨_,ia,?_⟩;split at hv
        .rename_i Kn;cases hv;rw[if_pos Kn,show qh.getD n- ql.getD 0=0 by omega,show n- ql.getD 0=0 by omega];exact .emp _
        .rename_i Kn;cases hv;rw[if_neg Kn,jb];have xc:ql.getD 0*s+(n- ql.getD 0)*s=n*s:=by rw[<-azD];grind
         have hm2:ql.getD 0*s+(qh.getD n- ql.getD 0)*s=qh.getD n*s:=by rw[<-azD];grind
         have hm3:=azd s h2;exact .sl _ _ _ _ _ _ l _ _ hl aj aj aj aj (λk hk=>by grind) (λ_=>rfl)
      grind
     grind
    grind
  grind
 grind
theorem Tj{c:Call}{b:Builtin}(ho:o.op=.call c)(hb:c.callee=.builtin b):
 execOp r o=builtin b c.argTypes o.type (c.args.map λ|.const _=>ab|_=>af) (c.args.map r):=by
 simp only[execOp,ho,resolve,hb];rfl
def HF(P:Program)(ro:Nat)(N:Nat)(ι:Io)(w:World)(σ:St)(s:Sem Next)(out:gT):Prop:=
 ∃v au,out=.val v au/\(au.n<=N->Mx ro N ι w σ (s.run P w) v au)
theorem HF.ofV{s:Sem Value}{v:IV}{au:St}(h:au.n<=N->Eu P ro N ι w σ s v au):HF P ro N ι w σ (do pure (.value (<-s))) (.val v au):=by
 refine⟨v,au,rfl,λhN=>?_⟩;obtain⟨u,w',aM,h1,h2,h3,h4⟩:=h hN;exact⟨u,w',aM,.inl (by simp only[ayT,h1,ayM,ay9]),h2,h3,h4⟩
theorem HF.same{s:Sem Value}{v:IV}{u:Value}(hi:Inv N ι σ w)(h:s.run P w=.ok u w)(hr:Rv ι v u):HF P ro N ι w σ (do pure (.value (<-s))) (.val v σ):=
 HF.ofV λ_=>⟨u,w,ι,h,hr,hi,Le.refl _ _ _ _⟩
theorem Jo{x:IV}{vs:List Value}(h:aN ι [x] vs):∃v,vs=[v]/\Rv ι x v:=by
 obtain⟨v,zQ,rfl,h1,h2⟩:=h.yQ;exact⟨v,by rw[h2.of_nil],h1⟩
theorem ajq{x y:IV}{vs:List Value}(h:aN ι [x,y] vs):∃v u,vs=[v,u]/\Rv ι x v/\Rv ι y u:=by
 obtain⟨v,zQ,rfl,h1,h2⟩:=h.yQ;obtain⟨u,rfl,h3⟩:=Jo h2;exact⟨v,u,rfl,h1,h3⟩
theorem ajr{argTypes:Array TypeId}{ty:TypeId}{x v:IV}{u:Value}(hi:Inv N ι σ w)(hr:Rv ι x u)(h:qF P argTypes x σ=aa v):∃z,(aDr argTypes ty #[u]).run P w=.ok z w/\Rv ι v z:=by
 unfold qF at h;cases QB:argTypes[0]? with
 |none=>simp[QB]at h
 |some t=>
  rw[QB,ayK]at h;have e1:(#[u]:Array Value)[0]?=aa u:=rfl;unfold aDr;rw[QB,e1];split at h
  .rename_i hu;cases h;cases hr;exact⟨_,by simp only[ayT,bD hu,ayM,ay9,goInt],.raw _⟩
  .rename_i hu;cases h;cases hr;exact⟨_,by simp only[ayT,bD hu,ayM,ay9,goInt];rfl,.raw _⟩
  .rename_i hu;cases h;cases hr<;>
   exact⟨_,by simp only[ayT,bD hu,ayM,ay9,goInt]<;>rfl,.raw _⟩
  .rename_i hu;cases h;cases hr;exact⟨_,by simp only[ayT,bD hu,ayM,ay9,goInt],.raw _⟩
  .rename_i hu;cases h;cases hr;exact⟨_,by simp only[ayT,bD hu,ayM,ay9,goInt],.raw _⟩
  .rename_i hu;cases h;cases hr;exact⟨_,by simp only[ayT,bD hu,ayM,ay9,goInt],.raw _⟩
  .rename_i id hu;split at h
   .rename_i es clock aT;cases h;cases hr with
    |map _ l hl=>
     obtain⟨l',res,cJ,hh,he⟩:=hi.obj id _ aT;rw[hl]at cJ;cases cJ;have:(getObj l.b).run P w=.ok (.map res clock) w:=by simp[getObj,aAz,hh]
     refine⟨.int .i64 res.size,?_,?_⟩
     .simp only[ayT,bD hu,ayM,this,ay9,goInt]
     .rw[<-he.1];exact .raw _
   .cases h
  .rename_i n e hu;cases h;exact⟨.int .i64 n,by simp only[ayT,bD hu,ayM];rfl,.raw _⟩
  .cases h
theorem ajs{argTypes:Array TypeId}{ty:TypeId}{x v:IV}{u:Value}(hr:Rv ι x u)(h:Zs P argTypes x=aa v):∃z,(aDs argTypes ty #[u]).run P w=.ok z w/\Rv ι v z:=by
 unfold Zs at h;cases QB:argTypes[0]? with
 |none=>simp[QB]at h
 |some t=>
  rw[QB,ayK]at h;have e1:(#[u]:Array Value)[0]?=aa u:=rfl;unfold aDs;rw[QB,e1];split at h
  .rename_i c _ _ hu;cases h;cases hr with
   |sl _ _ _ _ _ _ l c' a hl hn kF cw hle kG ha=>
    obtain⟨rfl,_⟩:=kG _ rfl;exact⟨_,by simp only[ayT,bD hu,ayM,ay9,goInt],.raw _⟩
  .rename_i hu;cases h;cases hr;exact⟨_,by simp only[ayT,bD hu,ayM,ay9,goInt];rfl,.raw _⟩
  .rename_i hu;cases h;cases hr;exact⟨_,by simp only[ayT,bD hu,ayM,ay9,goInt],.raw _⟩
  .rename_i n e hu;cases h;exact⟨.int .i64 n,by simp only[ayT,bD hu,ayM];rfl,.raw _⟩
  .cases h
theorem c7{b:Nat}{ob:aCD}(h:w.heap[b]?=aa ob)(hc:∀c e f,ob≠.cells c e f):(getObj b).run P w=.ok ob w:=by
 simp only[getObj,aAz,h]
theorem gC{b:Nat}{ob fB:aCD}(h:w.heap[b]?=aa ob)(hc:∀c e f,ob≠.cells c e f):(setObj b fB).run P w=.ok () {w with heap:=w.heap.setIfInBounds b fB}:=by
 simp only[setObj,aAz,h]
theorem Inv.xz(hi:Inv N ι σ w){id:Nat}{ob fB:Ob}{l:Loc}{go:aCD}(aT:σ.at id=aa ob)(eA:ro<=id)(hl:ι id 0=aa l)(eW:my ι {w with heap:=w.heap.setIfInBounds l.b go} id fB):
 Inv N ι (σ.put id fB) {w with heap:=w.heap.setIfInBounds l.b go}/\Le ro ι w σ ι {w with heap:=w.heap.setIfInBounds l.b go} (σ.put id fB):=by
 refine hi.put aT eA ⟨_,_,hl⟩ (Ext.refl _) (λ_ _ _=>rfl) (λb hb=>.inl hb) aw (λb _ gx=>?_) rfl rfl rfl eW;have:l.b≠b:=λe=>gx ⟨0,l,hl,e⟩;simp[this]
theorem aO{α β:Type}(x:Sem α)(f:α->Sem β):aK P (x>>=f)=(aK P x).bind λa=>aK P (f a):=by
 show aK P (x.bind f)=_;induction x with
 |pure a=>rfl
 |program k ih=>simp_all[Sem.bind,aK]
 |mark m k ih=>assumption
 |_=>rfl
theorem oD{α β:Type}{x:Sem α}{f:α->Sem β}{b:β}(h:aK P (x>>=f)=aa b):∃a,aK P x=aa a/\aK P (f a)=aa b:=by
 rw[aO]at h;exact Option.bind_eq_some_iff.1 h
def SameKeys(es aW:List MapEntry):Prop:=es.length=aW.length/\∀(i:Nat) (e e':MapEntry),es[i]?=aa e->aW[i]?=aa e'->e.key=e'.key
theorem SameKeys.tail{e e':MapEntry}{es aW:List MapEntry}(h:SameKeys (e::es) (e'::aW)):e.key=e'.key/\SameKeys es aW:=
 ⟨h.2 0 e e' rfl rfl,by simpa using h.1,λi a b h1 h2=>h.2 (i+1) a b h1 h2⟩
theorem HG{kind:TypeDesc}{k:Value}:∀{es aW:List MapEntry} (i:Nat) {q:Option (Nat×Value)},SameKeys es aW->az9 kind k es i=aa q->
 (q=ah/\az9 kind k aW i=aa ah)\/(∃j v e',q=aa (j,v)/\i<=j/\aW[j- i]?=aa e'/\az9 kind k aW i=aa (aa (j,e'.val)))
 |[],aW,i,q,hk,h=>by
  cases aW with
  |nil=>simp_all[az9]
  |cons a b=>have:=hk.1;grind
 |e::es,aW,i,q,hk,h=>by
  cases aW with
  |nil=>have:=hk.1;grind
  |cons e' aW=>
   have⟨h1,h2⟩:=hk.tail;simp only[az9]at h⊢;rw[h1]at h;split at h
   .grind
   .rcases HG (i+1) h2 h with⟨h3,h4⟩|⟨j,v,e2,h3,h4,h5,h6⟩
    .grind
    .refine .inr ⟨j,v,e2,h3,by omega,?_,h6⟩
     grind
   grind
theorem HH{kind:TypeDesc}{k:Value}:∀{es aW:List MapEntry} (i:Nat),SameKeys es aW->az9 kind k es i=ah->az9 kind k aW i=ah
 |[],aW,i,hk,h=>by contradiction
 |e::es,aW,i,hk,h=>by
  cases aW with
  |nil=>have:=hk.1;grind
  |cons e' aW=>
   have⟨h1,h2⟩:=hk.tail;simp only[az9]at h⊢;rw[h1]at h;split at h
   .cases h
   .exact HH (i+1) h2 h
   .rfl
theorem Cd{kt:TypeId}{k:Value}:∀{es aW:List MapEntry} (i:Nat) {q:Option (Nat×Value)},SameKeys es aW->aK P (azt kt k es i)=aa q->
 (q=ah/\∀w,(azt kt k aW i).run P w=.ok ah w)\/(∃j v e',q=aa (j,v)/\i<=j/\aW[j- i]?=aa e'/\∀w,(azt kt k aW i).run P w=.ok (aa (j,e'.val)) w)
 |[],aW,i,q,hk,h=>by
  cases aW with
  |nil=>cases h;exact .inl ⟨rfl,λw=>rfl⟩
  |cons a b=>have:=hk.1;grind
 |e::es,aW,i,q,hk,h=>by
  cases aW with
  |nil=>have:=hk.1;grind
  |cons e' aW=>
   have⟨h1,h2⟩:=hk.tail;simp only[azt]at h⊢;rw[h1]at h;have⟨b,hb,h⟩:=oD h;cases b with
   |true=>
    cases h;refine .inr ⟨i,_,e',rfl,ayL _,by simp,λw=>?_⟩;simp only[ayT,gv w _ hb,ayM,if_true,ay9]
   |false=>
    rcases Cd (i+1) h2 h with⟨h3,h4⟩|⟨j,v,e2,h3,h4,h5,h6⟩
    .refine .inl ⟨h3,λw=>?_⟩;simp only[ayT,gv w _ hb,ayM,azi,if_false,h4]
    .refine .inr ⟨j,v,e2,h3,by omega,?_,λw=>?_⟩
     .grind
     .simp only[ayT,gv w _ hb,ayM,azi,if_false,h6]
theorem Fx{empty:Bool}{kt:TypeId}{k:Value}{es:List (Value×IV×Nat)}{res:Array MapEntry}{q:Option Nat}(he:ja ι es res)(h:fG P empty kt k es=aa q)(w:World):
 (aA7 empty 10000 kt k).run P w=.ok () w/\
 ((q=ah/\(azR kt k res.toList).run P w=.ok ah w)\/(∃i e rr,q=aa i/\es[i]?=aa e/\res[i]?=aa rr/\(azR kt k res.toList).run P w=.ok (aa (i,rr.val)) w)):=by
 have hk:SameKeys (es.map λe=>{key:=e.1,val:=azm,born:=e.2.2}) res.toList:=by
  refine⟨by simp[he.1],λi a b h1 h2=>?_⟩;simp only[ay1,ayR]at h1;obtain⟨e,h1,rfl⟩:=h1;exact(he.2 i e b h1 bc).1.symm
 have fin:∀{q':Option (Nat×Value)},aK P (azR kt k (es.map λe=>{key:=e.1,val:=azm,born:=e.2.2}))=aa q'->
  (q'=ah/\(azR kt k res.toList).run P w=.ok ah w)\/(∃i v rr,q'=aa (i,v)/\res[i]?=aa rr/\(azR kt k res.toList).run P w=.ok (aa (i,rr.val)) w):=by
  intro q' h;unfold azR at h⊢;have⟨d,hd,h⟩:=oD h;have MB:=gv w _ hd;simp only[ayT,MB,ayM];split at h
  .rename_i q2 Ko;cases h;rcases HG 0 hk Ko with⟨h3,h4⟩|⟨j,v,e2,h3,h4,h5,h6⟩
   all_goals simp_all
  .rename_i Ko;rw[HH 0 hk Ko];rcases Cd 0 hk h with⟨h3,h4⟩|⟨j,v,e2,h3,h4,h5,h6⟩
   all_goals grind
 unfold fG at h;split at h
 .rename_i i v hp;cases h;have⟨_,h1,h2⟩:=oD hp;refine⟨gv w _ h1,.inr ?_⟩;rcases fin h2 with⟨h3,_⟩|⟨j,v',rr,h3,h4,h5⟩
  .grind
  .cases h3;have ak:i<es.length:=by have:=(azx.1 h4).1;have:=he.1;omega
   exact⟨i,es[i],rr,rfl,ayG ak,h4,h5⟩
 .rename_i hp;cases h;have⟨_,h1,h2⟩:=oD hp;refine⟨gv w _ h1,.inl ⟨rfl,?_⟩⟩
  grind
 grind
theorem ja.nil:ja ι [] #[]:=⟨rfl,λi e r h=>by simp⟩
theorem ja.isEmpty{es:List (Value×IV×Nat)}{res:Array MapEntry}(h:ja ι es res):es.isEmpty=res.isEmpty:=by
 have:=h.1;rw[Bool.eq_iff_iff,List.isEmpty_iff,Array.isEmpty_iff]
 grind
theorem ab2{t:TypeId}{x ix:Operand}{ok:Bool}(hi:Inv N ι σ w)(hr:Rv ι (ρ x) (r x))(Qv:Rv ι (ρ ix) (r ix))(ho:o.op=.lookup t x ix ok)(h:aA P ro ρ o σ=aa out):bB P ro N ι w σ r o out:=by
 simp only[aA,ho]at h;split at h
 .rename_i kt elem es key hu m8 tB;have hk:=Fo tB Qv
  have aup:∃res,ja ι es res/\((r x=.map ah/\res= #[])\/∃b clock,r x=.map (aa b)/\w.heap[b]?=aa (.map res clock)):=by
   generalize hq:r x=q at hr;unfold entriesOf at m8;split at m8
   .rename_i hx;rw[hx]at hr;cases m8;cases hr;exact⟨#[],ja.nil,.inl ⟨rfl,rfl⟩⟩
   .rename_i id hx;rw[hx]at hr;split at m8
    .rename_i aW clock aT;cases m8;cases hr with
     |map _ l hl=>
      have⟨l',res,cJ,hh,he⟩:=hi.obj id _ aT
      grind
    grind
   grind
  have⟨res,he,j8⟩:=aup;split at h
  .rename_i i z Tk hz;split at h
   .rename_i e HI;obtain rfl:=aZ h;have⟨hc,hf⟩:=Fx he Tk w;rcases hf with⟨hn,_⟩|⟨j,e',rr,hj,h1,h2,h3⟩
    .grind
    .cases hj;rw[HI]at h1;cases h1;have⟨_,hv,_⟩:=he.2 i e rr HI h2;refine bB.same hi (u:=if ok then .tuple #[rr.val,.bool ab]else rr.val) ?_ ?_
     .rw[he.isEmpty]at hc;rcases j8 with⟨hx,rfl⟩|⟨b,clock,hx,hh⟩
      .grind
      .simp only[execOp,ho,aCq,ayT,bD hu,ayM,hx,c7 (P:=P) hh aw,hk,hc,h3,ay9]
     .cases ok
      .grind
      .have:=aN.cons hv (aN.cons (Rv.raw (ι:=ι) (.bool ab)) aN.nil);exact .aF _ _ this.1 this.2
   grind
  .rename_i z Tk hz;obtain rfl:=aZ h;have⟨hc,hf⟩:=Fx he Tk w;rcases hf with⟨_,h3⟩|⟨j,e',rr,hj,h1,h2,h3⟩
   .refine bB.same hi (u:=if ok then .tuple #[z,.bool af]else z) ?_ ?_
    .rw[he.isEmpty]at hc;rcases j8 with⟨hx,rfl⟩|⟨b,clock,hx,hh⟩
     .simp only[execOp,ho,aCq,ayT,bD hu,ayM,hx,hk,hc,h3,mA hz,ay9]
     .simp only[execOp,ho,aCq,ayT,bD hu,ayM,hx,c7 (P:=P) hh aw,hk,hc,h3,mA hz,ay9]
    .cases ok
     .exact Rv.lift z
     .have:=aN.cons (Rv.lift (ι:=ι) z) (aN.cons (Rv.raw (ι:=ι) (.bool af)) aN.nil);exact .aF _ _ this.1 this.2
   grind
  grind
 grind
theorem ja.set{es:List (Value×IV×Nat)}{res:Array MapEntry}{i:Nat}{e:Value×IV×Nat}{key:Value}{v:IV}{u:Value}{f:MapEntry->MapEntry}(h:ja ι es res)(he:es[i]?=aa e)(hv:Rv ι v u)
 (hf:∀rr,res[i]?=aa rr->f rr={key:=key,val:=u,born:=rr.born}):ja ι (es.set i (key,v,e.2.2)) (res.modify i f):=by
 refine⟨by simp[h.1],λj a b h1 h2=>?_⟩;rw[List.getElem?_set]at h1;rw[Array.getElem?_modify]at h2;by_cases qN:i=j
 .subst qN;rw[if_pos rfl]at h1 h2;split at h1
  .cases h1;cases hrr:res[i]? with
   |none=>grind
   |some rr=>
    have⟨_,_,hb⟩:=h.2 i e rr he hrr
    grind
  grind
 .rw[if_neg qN]at h1 h2;exact h.2 j a b h1 h2
theorem ja.push{es:List (Value×IV×Nat)}{res:Array MapEntry}{key:Value}{v:IV}{u:Value}{n:Nat}(h:ja ι es res)(hv:Rv ι v u):ja ι (es++[(key,v,n)]) (res.push {key:=key,val:=u,born:=n}):=by
 refine⟨by simp[h.1],λj a b h1 h2=>?_⟩;rw[aCF]at h2;by_cases hj:j<es.length
 .rw[ayZ hj]at h1;rw[if_neg (by have:=h.1;omega)]at h2;exact h.2 j a b h1 h2
 .rw[aze aj]at h1;by_cases Ce:j=es.length
  .subst Ce;rw[if_pos h.1]at h2
   grind
  grind
theorem XA(hi:Inv N ι σ w){id clock:Nat}{es:List (Value×IV×Nat)}{u:Value}(hr:Rv ι (.map id) u)(aT:σ.at id=aa (.map es clock)):
 ∃l res,u=.map (aa l.b)/\ι id 0=aa l/\w.heap[l.b]?=aa (.map res clock)/\l.b<w.heap.size/\ja ι es res:=by
 cases hr with
 |map _ l hl=>
  have⟨l',res,cJ,hh,he⟩:=hi.obj id _ aT
  grind
theorem MC{l:Loc}{id clock:Nat}{es:List (Value×IV×Nat)}{res:Array MapEntry}(hl:ι id 0=aa l)(ak:l.b<w.heap.size)(he:ja ι es res):
 my ι {w with heap:=w.heap.setIfInBounds l.b (.map res clock)} id (.map es clock):=⟨l,res,hl,by grind,he⟩
theorem ab3{cQ new:Value}(h:aAD 10000 cQ new=ab)(w:World):(aBJ cQ new).run P w=.ok new w:=by
 simp_all[aBJ]
theorem ab4{t kt elem:TypeId}{m k v:IV}{um uk uv:Value}{au:St}(hi:Inv N ι σ w)(hu:P.underlying t=aa (.map kt elem))(hm:Rv ι m um)(hk:Rv ι k uk)(hv:Rv ι v uv)
 (h:qa P ro kt m k v σ=aa au):∃w',(aCa t um uk uv).run P w=.ok () w'/\Inv N ι au w'/\Le ro ι w σ ι w' au:=by
 unfold qa at h;split at h
 .rename_i id key tB;have yV:=Fo tB hk;subst yV;split at h
  .rename_i es clock aT;obtain⟨l,res,rfl,hl,hh,ak,he⟩:=XA hi hm aT;split at h<;>try cases h
   rename_i eA;have eA:ro<=id:=aCh λh=>eA aj;split at h
   .rename_i i Tk;split at h
    .rename_i e HI;split at h
     .cases h;have⟨hc,hf⟩:=Fx he Tk w;rcases hf with⟨hn,_⟩|⟨j,e',rr,hj,h1,h2,h3⟩
      .grind
      .cases hj;rw[HI]at h1;cases h1;have axO:=(he.2 i e rr HI h2).1;obtain⟨r1,r2⟩:=hi.xz (ro:=ro) aT eA hl (MC (clock:=clock) hl ak (he.set HI hv (key:=uk) (f:=λe=>{e with key:=uk,val:=uv}) (λrr _=>rfl)));refine⟨_,?_,r1,r2⟩
       have bL:(aBJ (((res[i]?).map (·.key)).getD uk) uk).run P w=.ok uk w:=by
        rw[h2];exact ab3 bc w
       simp only[aCa,ayT,bD hu,ayM,c7 (P:=P) hh aw,hc,h3,bL,gC (P:=P) hh aw]
     grind
    grind
   .rename_i Tk;cases h;have⟨hc,hf⟩:=Fx he Tk w;rcases hf with⟨_,h3⟩|⟨j,e',rr,hj,h1,h2,h3⟩
    .have⟨r1,r2⟩:=hi.xz (ro:=ro) aT eA hl (MC (clock:=clock+1) hl ak (he.push hv (key:=uk) (n:=clock)));refine⟨_,?_,r1,r2⟩;simp only[aCa,ayT,bD hu,ayM,c7 (P:=P) hh aw,hc,h3,gC (P:=P) hh aw]
    grind
   grind
  grind
 grind
theorem HJ{t:TypeId}{m k x:Operand}(hi:Inv N ι σ w)(hm:Rv ι (ρ m) (r m))(hk:Rv ι (ρ k) (r k))(hx:Rv ι (ρ x) (r x))(ho:o.op=.mapUpdate t m k x\/o.op=.insert t m k x)
 (h:aA P ro ρ o σ=aa out):bB P ro N ι w σ r o out:=by
 have h':(match P.underlying t with
  |some (.map kt _)=>match qa P ro kt (ρ m) (ρ k) (ρ x) σ with
   |some au=>ret .undef au
   |none=>ah
  |_=>ah)=aa out:=by
  unfold aA at h;rcases ho with ho|ho<;>rw[ho]at h<;>exact h
 clear h;split at h'
 .rename_i kt elem hu;split at h'
  .rename_i au hs;obtain rfl:=aZ h';intro hN;have⟨w',h1,h2,h3⟩:=ab4 (N:=N) hi hu hm hk hx hs;refine⟨azm,w',ι,.inr ⟨?_,rfl⟩,.raw _,h2,h3⟩;rcases ho with ho|ho<;>simp only[execOp,ho,ayT,h1,ayM,ay9]
  grind
 grind
theorem Inv.Ez(hi:Inv N ι σ w)(hN:σ.n<N){go:aCD}{ob:Ob}(eW:my (eR ι σ.n 0 ⟨w.heap.size,1,1⟩) {w with heap:=w.heap.push go} σ.n ob):
 Inv N (eR ι σ.n 0 ⟨w.heap.size,1,1⟩) (σ.add ob) {w with heap:=w.heap.push go}/\Le ro ι w σ (eR ι σ.n 0 ⟨w.heap.size,1,1⟩) {w with heap:=w.heap.push go} (σ.add ob):=
 hi.add hN rfl rfl rfl rfl rfl eW
theorem aeU{t:TypeId}{x:Operand}(hi:Inv N ι σ w)(hr:Rv ι (ρ x) (r x))(ho:o.op=.range t x)(h:aA P ro ρ o σ=aa out):bB P ro N ι w σ r o out:=by
 unfold aA at h;rw[ho]at h;simp only at h;have rv:∀(aM:Io) (n b:Nat),Rv (eR aM n 0 ⟨b,1,1⟩) (.ptr n 0 0 1) (.pointer (aa ⟨b,0,ah⟩)):=λaM n b=>.ptr _ _ _ _ _ (cC _ _ _ _) aw;split at h
 .rename_i s hu hx;have e:=gn hx hr;obtain rfl:=aZ h;intro hN;obtain⟨h1,h2⟩:=hi.Ez (ro:=ro) (go:=.stringIter s 0) (ob:=.sB s 0) (by simp at hN;omega) ⟨_,cC _ _ _ _,by simp⟩;exact⟨_,_,_,.inl (by simp only[execOp,ho,aCw,ayT,bD hu,ayM,e,ay9,run_newObj]),rv _ _ _,h1,h2⟩
 .rename_i k e' hu hx;have e:=gn hx hr;obtain rfl:=aZ h;intro hN;obtain⟨h1,h2⟩:=hi.Ez (ro:=ro) (go:=.mapIter ah 0 #[] 0) (ob:=.kV ah 0 [] 0) (by simp at hN;omega) ⟨_,ah,cC _ _ _ _,by simp,rfl⟩;exact⟨_,_,_,.inl (by simp only[execOp,ho,aCw,ayT,bD hu,ayM,e,ay9,run_newObj]),rv _ _ _,h1,h2⟩
 .rename_i k e' m hu hx;rw[hx]at hr;split at h
  .rename_i es clock aT;obtain⟨l,res,hum,hl,hh,ak,he⟩:=XA hi hr aT;obtain rfl:=aZ h;intro hN;have bA:ι σ.n 0=ah:=hi.fresh _ (ayL _) (by simp at hN;omega) 0
   obtain⟨h1,h2⟩:=hi.Ez (ro:=ro) (go:=.mapIter (aa l.b) clock #[] clock) (ob:=.kV (aa m) clock [] clock) (by simp at hN;omega)
    ⟨_,aa l.b,cC _ _ _ _,by simp,l,mz bA _ _ _ hl,rfl⟩
   exact⟨_,_,_,.inl (by simp only[execOp,ho,aCw,ayT,bD hu,ayM,hum,c7 (P:=P) hh aw,ay9,run_newObj]),rv _ _ _,h1,h2⟩
  .cases h
 .cases h
theorem sD{vs:List IV}{us:List Value}(h:aN ι vs us):Rv ι (.aF vs) (.tuple us.toArray):=.aF _ _ h.1 h.2
theorem ajt{it:Operand}{str:Bool}(hi:Inv N ι σ w)(hr:Rv ι (ρ it) (r it))(ho:o.op=.next it str)(h:aA P ro ρ o σ=aa out):bB P ro N ι w σ r o out:=by
 unfold aA at h;rw[ho]at h;simp only at h;split at h
 .rename_i id hx;rw[hx]at hr;split at h
  .cases h
  .rename_i eA;have eA:ro<=id:=aCh λh=>eA aj;generalize hq:r it=q at hr;cases hr with
   |ptr _ _ _ _ l hl hle=>
    have ak:l.b<w.heap.size:=hi.gU id _ ⟨_,_,hl,rfl⟩;split at h
    .rename_i s pos aT;obtain⟨l',cJ,hh⟩:=hi.obj id _ aT;rw[hl]at cJ;cases cJ;split at h
     .rename_i xy;obtain rfl:=aZ h;intro hN;obtain⟨r1,r2⟩:=hi.xz (ro:=ro) (fB:=.sB s (pos+(aAc s pos).2)) (go:=.stringIter s (pos+(aAc s pos).2)) aT eA hl ⟨l,hl,by simp[ak]⟩;refine⟨.tuple #[.bool ab,.int .i64 pos,.int .i32 (aAc s pos).1],_,ι,.inl ?_,?_,r1,r2⟩
      .simp only[execOp,ho,aAX,hq,ayT,c7 (P:=P) hh aw,ayM,xy,if_true,gC (P:=P) hh aw,ay9,goInt]
      .exact sD (aN.cons (.raw _) (aN.cons (.raw _) (aN.cons (.raw _) aN.nil)))
     .rename_i xy;obtain rfl:=aZ h;refine bB.same hi (u:=.tuple #[.bool af]) ?_ (sD (aN.cons (.raw _) aN.nil));simp only[execOp,ho,aAX,hq,ayT,c7 (P:=P) hh aw,ayM,xy,if_false,ay9]
    .rename_i a b c aT;obtain⟨l',mr,cJ,hh,hm⟩:=hi.obj id _ aT;rw[hl]at cJ;cases cJ;simp only at hm;subst hm;obtain rfl:=aZ h;refine bB.same hi (u:=.tuple #[.bool af]) ?_ (sD (aN.cons (.raw _) aN.nil));simp only[execOp,ho,aAX,hq,ayT,c7 (P:=P) hh aw,ayM,ay9]
    .rename_i m since seen last aT;obtain⟨l',mr,cJ,hh,hm⟩:=hi.obj id _ aT;rw[hl]at cJ;cases cJ;obtain⟨lm,s6,rfl⟩:=hm;split at h
     .rename_i es clock Tn;obtain⟨lm',res,HK,Kp,he⟩:=hi.obj m _ Tn;rw[s6]at HK;cases HK
      have over:∀{aeV:Array (Option MapEntry)},aeV= #[ah]->(choose (.mapNext aeV.size)).run P w=.ok 0 w:=by
       intro aeV hc;subst hc;simp[choose,aAz,aAB]
      split at h
      .have hre:res= #[]:=aA_ (by have:=he.1;simpa using this.symm);subst hre;obtain rfl:=aZ h;refine bB.same hi (u:=.tuple #[.bool af]) ?_ (sD (aN.cons (.raw _) aN.nil));simp[execOp,ho,aAX,hq,c7 (P:=P) hh aw,c7 (P:=P) Kp aw,choose,aAz,aAB]
      .rename_i e;have bo:res.size=1:=by have:=he.1;simpa using this.symm
       obtain⟨rr,rfl⟩:∃rr,res= #[rr]:=by
        refine⟨res[0],?_⟩;apply Array.ext (by simp[bo]);intro i h1 h2;have:i=0:=aj;subst this;rfl
       obtain⟨hk,hv,hb⟩:=he.2 0 e rr rfl rfl;split at h
       .rename_i oq;split at h
        .rename_i oE;obtain rfl:=aZ h;refine bB.same hi (u:=.tuple #[.bool af]) ?_ (sD (aN.cons (.raw _) aN.nil));have alr:rr.born∈seen:=by rw[hb];exact oq
         have To:¬last<=rr.born:=by rw[hb];omega
         have aeW:Array.filter (λe=> !seen.toArray.contains e.born) #[rr]= #[]:=by simp[alr]
         simp[execOp,ho,aAX,hq,c7 (P:=P) hh aw,c7 (P:=P) Kp aw,choose,aAz,aAB,alr,To]
        .cases h
       .rename_i oq;split at h
        .rename_i hc;obtain⟨cU,rfl⟩:=hc;obtain rfl:=aZ h;intro hN;have cd:rr.born<since:=by rw[hb];exact cU
         obtain⟨r1,r2⟩:=hi.xz (ro:=ro) (fB:=.kV (aa m) since [e.2.2] clock) (go:=.mapIter (aa lm.b) since #[rr.born] clock) aT eA hl ⟨l,aa lm.b,hl,by simp[ak,hb],lm,s6,rfl⟩;refine⟨.tuple #[.bool ab,rr.key,rr.val],_,ι,.inl ?_,?_,r1,r2⟩
         .have dw:¬since<=rr.born:=aj;simp[execOp,ho,aAX,hq,c7 (P:=P) hh aw,c7 (P:=P) Kp aw,choose,aAz,aAB,cd,dw,gC (P:=P) hh aw]
         .rw[<-hk];exact sD (aN.cons (.raw _) (aN.cons (Rv.lift _) (aN.cons hv aN.nil)))
        .cases h
      .cases h
     .cases h
    .cases h
 .cases h
theorem aeX{it:Operand}(hi:Inv N ι σ w)(hr:Rv ι (ρ it) (r it))(ho:o.op=.entry it)(h:aA P ro ρ o σ=aa out):bB P ro N ι w σ r o out:=by
 unfold aA at h;rw[ho]at h;simp only at h;split at h
 .rename_i id hx;rw[hx]at hr;generalize hq:r it=q at hr;cases hr with
  |ptr _ _ _ _ l hl hle=>
   split at h
   .rename_i m since seen AF aT;obtain⟨l',mr,cJ,hh,hm⟩:=hi.obj id _ aT;rw[hl]at cJ;cases cJ;obtain⟨lm,s6,rfl⟩:=hm;split at h
    .rename_i es clock Jk Tn oE;obtain⟨lm',res,HK,Kp,he⟩:=hi.obj m _ Tn;rw[s6]at HK;cases HK;split at h
     .rename_i bH;split at h
      .rename_i e Tp;obtain rfl:=aZ h
       have key:∀(es:List (Value×IV×Nat)) (rs:List MapEntry),es.length=rs.length->(∀(j:Nat) (e:Value×IV×Nat) (rr:MapEntry),es[j]?=aa e->rs[j]?=aa rr->rr.key=e.1/\Rv ι e.2.1 rr.val/\rr.born=e.2.2)->
        es.find? (λe=>e.2.2==Jk)=aa e->∃rr,rs.find? (λe=>e.born==Jk)=aa rr/\rr.key=e.1/\Rv ι e.2.1 rr.val:=by
        intro es;induction es with
        |nil=>intro rs _ _ hf;simp at hf
        |cons a es ih=>
         intro rs hl hb hf;cases rs with
         |nil=>simp at hl
         |cons rr rs=>
          obtain⟨h1,h2,h3⟩:=hb 0 a rr rfl rfl;rw[List.find?_cons]at hf⊢;rw[h3];split at hf
          .rename_i hc;cases hf;exact⟨rr,rfl,h1,h2⟩
          .rename_i hc;exact ih rs (by simpa using hl) (λk x y h1 h2=>hb (k+1) x y h1 h2) hf
       obtain⟨rr,hf,hk,hv⟩:=key es res.toList (by simpa using he.1) (λj e rr h1 h2=>he.2 j e rr h1 (by simpa using h2)) Tp;have hf':res.find? (λe=>e.born==Jk)=aa rr:=by rw[<-hf,<-Array.find?_toList]
       have To:seen.toArray.back?=aa Jk:=by rw[<-oE];simp
       refine bB.same hi (u:=.tuple #[rr.key,rr.val]) ?_ (by rw[<-hk];exact sD (aN.cons (Rv.lift _) (aN.cons hv aN.nil)));subst bH;simp[execOp,ho,Instr.entry,hq,c7 (P:=P) hh aw,c7 (P:=P) Kp aw,To,hf']
      .cases h
     .cases h
    .cases h
   .cases h
 .cases h
theorem als{argTypes:Array TypeId}{ty:TypeId}{args:List IV}{us:List Value}{v:IV}(hr:aN ι args us)(h:Oj P args=aa v):∃z,(aDq argTypes ty us.toArray).run P w=.ok z w/\Rv ι v z:=by
 unfold Oj at h;split at h
 .rename_i vs hv;rw[<-DM hv hr]at h;rw[ayR]at h;obtain⟨z,hz,rfl⟩:=h;exact⟨z,gv w _ hz,Rv.lift z⟩
 .cases h
theorem Kq{argTypes:Array TypeId}{s x:IV}(h:mw P ro argTypes s x σ=aa out):∃v au,out=.val v au:=by
 have hn:∀{size br n:Nat} {new:List IV} {s:IV},gl size br n new s σ=aa out->∃v au,out=.val v au:=by
  intro size br n new s h;unfold gl at h;split at h
  .split at h
   .exact⟨_,_,aZ h⟩
   .cases h
  .cases h
 unfold mw at h;split at h
 .split at h
  .split at h
   .split at h
    .cases h
    .split at h
     .split at h
      .unfold fv at h
       repeat' split at h
       all_goals first|exact⟨_,_,aZ h⟩|exact hn h|cases h
      .cases h
     .cases h
   .cases h
  .cases h
 .cases h
theorem bB.ofB{c:Call}{b:Builtin}{us:List Value}(ho:o.op=.call c)(hb:c.callee=.builtin b)(yX:c.args.map r=us.toArray)(h:HF P ro N ι w σ (builtin b c.argTypes o.type (c.args.map λ|.const _=>ab|_=>af) us.toArray) out):
 bB P ro N ι w σ r o out:=by
 obtain⟨v,au,rfl,h⟩:=h;intro hN;rw[Tj ho hb,yX];exact h hN
theorem ZF{b:Builtin}{argTypes:Array TypeId}{ty:TypeId}{cs:Array Bool}{args:List IV}{us:List Value}(hi:Inv N ι σ w)(hr:aN ι args us)(h:fw P ro b argTypes args σ=aa out):
 HF P ro N ι w σ (builtin b argTypes ty cs us.toArray) out:=by
 unfold fw at h;split at h
 .split at h
  .obtain⟨v,u,rfl,h1,h2⟩:=ajq hr;obtain⟨v',au,rfl⟩:=Kq h;exact HF.ofV λhN=>ab1 hi h1 h2 h hN
  .cases h
 .split at h
  .obtain⟨v,rfl,h1⟩:=Jo hr;rw[ayR]at h;obtain⟨z,hz,rfl⟩:=h;obtain⟨u,hu,kZ⟩:=ajr (ty:=ty) hi h1 hz;exact HF.same hi hu kZ
  .cases h
 .split at h
  .obtain⟨v,rfl,h1⟩:=Jo hr;rw[ayR]at h;obtain⟨z,hz,rfl⟩:=h;obtain⟨u,hu,kZ⟩:=ajs (ty:=ty) (w:=w) h1 hz;exact HF.same hi hu kZ
  .cases h
 .rw[ayR]at h;obtain⟨z,hz,rfl⟩:=h;obtain⟨u,hu,kZ⟩:=als (argTypes:=argTypes) (ty:=ty) (w:=w) hr hz;exact HF.same hi hu kZ
 .cases h
theorem Jp{l:Array Operand}(h:∀x,Rv ι (ρ x) (r x)):aN ι (l.toList.map ρ) (l.toList.map r):=aN.of_map λx _=>h x
theorem DP{f:FuncId}{fn:Func}{us:Array Value}(h:P.funcs[f]?=aa fn)(hb:(fn.body.isSome&&fn.name != "runtime.NumGoroutine")=ab):(callFunc f us).run P w=.ok (.enter f us) w:=by
 simp only[Bool.and_eq_true,bne_iff_ne,ne_eq]at hb;have h2:fn.body≠ah:=by cases hh:fn.body<;>simp_all
 simp[callFunc,h,h2,hb.2]
theorem Cf{x:IV}{v:Value}{args:List IV}{us:List Value}(hx:Rv ι x v)(hr:aN ι args us)(h:iH P x args=aa out):
 ∃d,(aBM v us.toArray).run P w=.ok d w/\((∃f as vs,out=.enter f as/\(invoke d.target d.args).run P w=.ok (.enter f vs.toArray) w/\aN ι as vs/\Fs ι (.call f as) d)\/
  (∃id l,out=.round id args/\ι id 0=aa l/\d.target=.fn (.yield l.b) #[]/\d.args=us.toArray)):=by
 unfold iH at h;split at h
 .rename_i f first cap
  cases hx with
  |fn _ _ _ cs ds hl h1 gb h2=>
   split at h
   .rename_i fn dk;split at h
    .rename_i hb;cases h;have eB:aN ι (first++args++cap) (cs++us++ds):=(aN.append ⟨hl,h1⟩ hr).append ⟨gb,h2⟩;refine⟨{target:=.fn (.func f) ds.toArray,args:=cs.toArray++us.toArray},rfl,.inl ⟨f,_,_,rfl,?_,eB,ds,cs++us,_,by simp,eB,rfl⟩⟩;simp only[invoke];rw[DP dk hb];simp
    .cases h
   .cases h
 .rename_i f a b;cases hx;split at h
  .rename_i he;obtain⟨rfl,rfl⟩:a= #[]/\b= #[]:=⟨aA_ he.1,aA_ he.2⟩;split at h
   .rename_i fn dk;split at h
    .rename_i hb;cases h;refine⟨{target:=.fn (.func f) #[],args:=us.toArray},by simp[aBM],.inl ⟨f,_,us,rfl,?_,hr,[],us,us,by simp,hr,by simp⟩⟩;simp only[invoke];rw[DP dk hb];simp
    .cases h
   .cases h
  .cases h
 .rename_i id;cases hx with
  |sX _ l hl=>
   cases h;exact⟨{target:=.fn (.yield l.b) #[],args:=us.toArray},by simp[aBM],.inr ⟨id,l,rfl,hl,rfl,rfl⟩⟩
 .cases h
theorem aju{c:Call}(hi:Inv N ι σ w)(hr:∀x,Rv ι (ρ x) (r x))(ho:o.op=.call c)(h:aA P ro ρ o σ=aa out):bB P ro N ι w σ r o out:=by
 unfold aA at h;rw[ho]at h;(try dsimp only at h);have yX:c.args.map r=(c.args.toList.map r).toArray:=by apply aBi;rw[aC4]
 split at h
 .rename_i b hb;exact bB.ofB ho hb yX (ZF hi (Jp hr) h)
 .rename_i f hf;obtain⟨d,hd,h⟩:=Cf (w:=w) (hr f) (Jp hr) h
  have e:(execOp r o).run P w=(invoke d.target d.args).run P w:=by
   simp only[execOp,ho,resolve,hf,yX,ayT,hd,ayM]
  rcases h with⟨f',as,vs,rfl,h1,h2,_⟩|⟨id,l,rfl,h1,h2,h3⟩
  .exact⟨vs,by rw[e,h1],h2⟩
  .exact⟨l,_,h1,by rw[e,h2,h3];rfl,Jp hr⟩
 .cases h
theorem aeY{c:Call}(hr:∀x,Rv ι (ρ x) (r x))(ho:o.op=.defer c)(h:aA P ro ρ o σ=aa out):bB P ro N ι w σ r o out:=by
 unfold aA at h;rw[ho]at h;(try dsimp only at h);have yX:c.args.map r=(c.args.toList.map r).toArray:=by apply aBi;rw[aC4]
 split at h
 .rename_i f hf;split at h
  .rename_i f' args hc;cases h;obtain⟨d,hd,h⟩:=Cf (w:=w) (hr f) (Jp hr) hc;rcases h with⟨f',as,vs,he,_,_,h3⟩|⟨id,l,he,_⟩
   .cases he;exact⟨d,by simp only[execOp,ho,resolve,hf,yX,ayT,hd,ayM,ay9],h3,c,ho⟩
   .cases he
  .cases h
 .cases h
theorem aeZ{x:Operand}(hr:Rv ι (ρ x) (r x))(ho:o.op=.panic x)(h:aA P ro ρ o σ=aa out):bB P ro N ι w σ r o out:=by
 unfold aA at h;rw[ho]at h;simp only at h;split at h
 .rename_i t v hx;cases h;rw[hx]at hr;generalize hq:r x=q at hr;have qL:=hr;cases hr with
  |dP _ _ u hu=>
   refine⟨_,?_,qL⟩;simp only[execOp,ho,Instr.panic,hq,goPanic,ayT];rfl
 .cases h
theorem R_{x:Operand}{xt asserted:TypeId}{ok:Bool}(hi:Inv N ι σ w)(hr:Rv ι (ρ x) (r x))(ho:o.op=.typeAssert x xt asserted ok)(h:aA P ro ρ o σ=aa out):bB P ro N ι w σ r o out:=by
 unfold aA at h;rw[ho]at h;simp only at h;split at h
 .cases h
 .rename_i d z hni hu hz
  have hd:∀{α:Type} (k1:Array (String×TypeId)->α) (k2:α),(match d with|.interface want=>k1 want|_=>k2)=k2:=by
   intro α k1 k2;cases d<;>first|rfl|exact absurd rfl (hni _)
  split at h
  .rename_i t v hx;rw[hx]at hr;generalize hq:r x=q at hr;cases hr with
   |dP _ _ u kZ=>
    split at h
    .rename_i XB;have ZH:t=asserted:=by simpa using XB
     obtain rfl:=aZ h;cases ok with
     |true=>
      refine bB.same hi (u:=.tuple #[u,.bool ab]) ?_ ?_
      .cases d<;>first
        |exact absurd rfl (hni _)
        |simp[execOp,ho,aBs,hq,bD hu,ZH]
      .have:=aN.cons kZ (aN.cons (Rv.raw (ι:=ι) (.bool ab)) aN.nil);exact sD this
     |false=>
      refine bB.same hi (u:=u) ?_ kZ
      cases d<;>first
       |exact absurd rfl (hni _)
       |simp[execOp,ho,aBs,hq,bD hu,ZH]
    .rename_i XB;have ZH:¬t=asserted:=by simpa using XB
     split at h
     .rename_i bf;subst bf;obtain rfl:=aZ h;refine bB.same hi (u:=.tuple #[z,.bool af]) ?_ ?_
      .cases d<;>first
        |exact absurd rfl (hni _)
        |simp[execOp,ho,aBs,hq,bD hu,ZH,mA hz]
      .have:=aN.cons (Rv.lift (ι:=ι) z) (aN.cons (Rv.raw (ι:=ι) (.bool af)) aN.nil);exact sD this
     .cases h
  .rename_i hx;have e:=gn hx hr;split at h
   .rename_i bf;subst bf;obtain rfl:=aZ h;refine bB.same hi (u:=.tuple #[z,.bool af]) ?_ ?_
    .cases d<;>first
      |exact absurd rfl (hni _)
      |simp[execOp,ho,aBs,e,bD hu,mA hz]
    .have:=aN.cons (Rv.lift (ι:=ι) z) (aN.cons (Rv.raw (ι:=ι) (.bool af)) aN.nil);exact sD this
   .cases h
  .cases h
 .cases h
theorem qO(hi:Inv N ι σ w)(hr:∀x,Rv ι (ρ x) (r x))(h:aA P ro ρ o σ=aa out):bB P ro N ι w σ r o out:=by
 cases ho:o.op with
 |move x=>unfold aA at h;rw[ho]at h;simp only at h;obtain rfl:=aZ h;exact Xu hi (hr _) (.inl ho)
 |assign x=>unfold aA at h;rw[ho]at h;simp only at h;obtain rfl:=aZ h;exact Xu hi (hr _) (.inr ho)
 |pick c a b=>exact ajm hi (hr _) (hr _) (hr _) ho h
 |alloc t=>exact aeL hi ho h
 |box t x=>exact ali hi (hr _) ho h
 |build t parts=>exact aeR hi (λx _=>hr x) ho h
 |buildSlice t len parts=>exact R9 hi (λx _=>hr x) ho h
 |load t a=>exact ajn hi (hr _) ho h
 |store t a x=>exact aeM hi (hr _) (hr _) ho h
 |nilCheck x=>exact WY hi (hr _) ho h
 |binOp op t x y yT=>exact alk hi (hr _) (hr _) ho h
 |unOp op t x=>exact aqc hi (hr _) ho h
 |convert s t x=>exact Zy hi (hr _) ho h
 |makeInterface t x=>exact K8 hi (hr _) ho h
 |makeFunc f a b=>exact WZ hi (λx _=>hr x) ho h
 |makeMap t x=>exact ZB hi (λx _=>hr x) ho h
 |makeSlice t l c=>exact Ta hi (hr _) (hr _) ho h
 |slice t x lo ct mx=>exact aeT hi (hr _) (λx _=>hr x) (λx _=>hr x) (λx _=>hr x) ho h
 |fieldAddr s x f=>exact S8 hi (hr _) ho h
 |field t x f=>exact aeO hi (hr _) ho h
 |indexAddr t x ix=>exact S9 hi (hr _) (hr _) ho h
 |index t x ix=>exact aeQ hi (hr _) (hr _) ho h
 |lookup t x ix ok=>exact ab2 hi (hr _) (hr _) ho h
 |mapUpdate t m k x=>exact HJ hi (hr _) (hr _) (hr _) (.inl ho) h
 |insert t m k x=>exact HJ hi (hr _) (hr _) (hr _) (.inr ho) h
 |mapEntry=>unfold aA at h;rw[ho]at h;cases h
 |entryStore=>unfold aA at h;rw[ho]at h;cases h
 |range t x=>exact aeU hi (hr _) ho h
 |next it s=>exact ajt hi (hr _) ho h
 |entry it=>exact aeX hi (hr _) ho h
 |extract t i=>exact Zz hi (hr _) ho h
 |call c=>exact aju hi hr ho h
 |defer c=>exact aeY hr ho h
 |panic x=>exact aeZ (hr _) ho h
 |typeAssert x xt t ok=>exact R_ hi (hr _) ho h
 |_=>unfold aA at h;rw[ho]at h;cases h
def Grown(σ:St):gT->Prop
 |.val _ au=>σ.n<=au.n
 |_=>True
theorem u9{v:IV}{au:St}(hle:σ.n<=au.n)(h:ret v au=aa out):Grown σ out:=by rw[aZ h];exact hle
theorem MD{v:IV}(h:ret v σ=aa out):Grown σ out:=u9 (ayL σ.n) h
theorem QC{v:IV}{id:Nat}{ob:Ob}(h:ret v (σ.put id ob)=aa out):Grown σ out:=u9 (au:=σ.put id ob) (ayL σ.n) h
theorem QD{v:IV}{ob:Ob}(h:ret v (σ.add ob)=aa out):Grown σ out:=u9 (Nat.le_succ _) h
theorem Tq{kt:TypeId}{m k v:IV}{au:St}(h:qa P ro kt m k v σ=aa au):au.n=σ.n:=by
 unfold qa at h
 repeat' split at h
 all_goals first|(cases h;done)|(cases h;rfl)
theorem Ts{f:IV}{args:List IV}(h:iH P f args=aa out):Grown σ out:=by
 unfold iH at h
 repeat' split at h
 all_goals first|(cases h;done)|(cases h;exact trivial)
theorem Tt{argTypes:Array TypeId}{s x:IV}(h:mw P ro argTypes s x σ=aa out):Grown σ out:=by
 have hn:∀{size br n:Nat} {new:List IV} {s:IV},gl size br n new s σ=aa out->Grown σ out:=by
  intro size br n new s h;unfold gl at h;split at h
  .split at h
   .exact QD h
   .cases h
  .cases h
 unfold mw at h;split at h
 .split at h
  .split at h
   .split at h
    .cases h
    .split at h
     .split at h
      .unfold fv at h
       repeat' split at h
       all_goals first|exact MD h|exact QC h|exact u9 (by exact ayL σ.n) h|exact hn h|cases h
      .cases h
     .cases h
   .cases h
  .cases h
 .cases h
theorem Sa{b:Builtin}{argTypes:Array TypeId}{args:List IV}(h:fw P ro b argTypes args σ=aa out):Grown σ out:=by
 unfold fw at h;split at h
 .split at h
  .exact Tt h
  .cases h
 .split at h
  .rw[ayR]at h;obtain⟨z,hz,rfl⟩:=h;exact ayL _
  .cases h
 .split at h
  .rw[ayR]at h;obtain⟨z,hz,rfl⟩:=h;exact ayL _
  .cases h
 .rw[ayR]at h;obtain⟨z,hz,rfl⟩:=h;exact ayL _
 .cases h
theorem mB(h:aA P ro ρ o σ=aa out):Grown σ out:=by
 unfold aA at h;cases ho:o.op<;>rw[ho]at h<;>(try dsimp only at h)
 case call c=>
  split at h
  .exact Sa h
  .exact Ts h
  .cases h
 case defer c=>
  split at h
  .split at h
   .cases h;exact trivial
   .cases h
  .cases h
 case mapUpdate=>
  split at h
  .split at h
   .rename_i au hs;exact u9 (aD4 (Tq hs).symm) h
   .cases h
  .cases h
 case insert=>
  split at h
  .split at h
   .rename_i au hs;exact u9 (aD4 (Tq hs).symm) h
   .cases h
  .cases h
 all_goals (repeat' split at h)
 all_goals first|exact MD h|exact QC h|exact QD h|(cases h;done)|(cases h;exact trivial)
end
end Go.Ev
