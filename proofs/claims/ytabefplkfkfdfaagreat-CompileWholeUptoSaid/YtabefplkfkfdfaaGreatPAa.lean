/- Lemmas over the model, without conditions. -/
import Derived.RangeFuncLeaves
import Derived.RecoverIn
import Derived.LoopNIn
import Derived.OrdersIn
import Derived.Laws.CopyRow
import Derived.Laws.Cells
import Derived.Lib.Strings
import Derived.IntWalk
open Nat renaming beq->awl,blt->aw6,testBit->awC,eq_of_beq_eq_true->awk,beq_eq->awV,le_refl->awe,le_trans->awy,lt_of_lt_of_le->axV,lt_or_ge->aBw,eq_zero_or_pos->aAC,zero_add->axo,min_eq_left->azg,mul_le_mul_right->awL,add_mul->awU,mul_eq_zero->azT,zero_mul->ay8,zero_le->aw5,le_of_not_lt->azV
open Go renaming undef->awT,Obj->aAk,binOp->ax5
open List renaming replicate->awE,eq_nil_of_length_eq_zero->awG,getElem?_append_left->awp,getElem?_append_right->awD,getElem?_take->awR,getElem?_eq_some_iff->awa,getElem?_eq_getElem->av_,getElem?_map->awu,mem_of_getElem?->awq,drop_take->aA3,take_take->azi,getElem?_toArray->axY,range->axt,length_take->axe,append_assoc->awv,length_append->awi,flatten_cons->ax6,ext_getElem?->aAD,getElem?_eq_none->ayd,map_cons->awZ,replicate_succ->ayQ,length_cons->awJ,getElem?_cons_succ->axI,getElem?_drop->axR,flatMap_cons->axP,mem_of_mem_take->axv,length_nil->axM
open Go.Instr renaming checkKey->ayC,findKey->axr,sameBits->ayi,loadAt->aBh,sureAddr->ayg,extract->aA4,makeMap->aA5,fieldAt->aA6,indexAt->azY,index->aBq,fill->aBx,build->aBr,sliceBound->azD,sliceBounds->aAw,sliceAt->ayq,slice->aBs,findNow->axE,findAsking->aw1,lookup->azw,keyThatStays->azk,mapUpdate->azO,range->aAd,next->ayt
open Go.Op renaming bytesLess->azI,equalIn->axa,equal->ayF,stringOp->ayL
open Go.Utf8 renaming decode->axU
open Go.Region renaming binds->axH
open Bool renaming and_eq_true->awb,false_eq_true->awA
open Option renaming none->azC,map_some->awQ,map_eq_some_iff->awj,isSome_iff_exists->aym,getD_some->aw8,bind_eq_some_iff->awx,getD_none->axF,bind_some->awc
open Option.some renaming injEq->awf,inj->ayh
open Go.Sem renaming run->axX,run_bind->awn,run_pure->awz
open Array renaming getElem?_eq_none->ayA,getElem?_push->ayK,ext'->ayR,getElem?_eq_some_iff->aw4,getElem?_modify->az_,range->aAc,toList_map->azJ,getElem?_toList->aya,length_toList->azj,all_eq_true_iff_forall_mem->azv,map_empty->aAR
open Go.Result renaming andThen_ok->awg
open Go.World renaming cell?->aAl,setRow->aBi
open ByteArray renaming ext->aAv,getElem_eq_getElem_data->aBE,data_extract->aBL
open Go.IntKind renaming i64->awK
open List.cons renaming injEq->axC
open Classical renaming byContradiction->aw2
open Go.IntWalk renaming i64_in->azN
open Go.Builtin renaming lenOf->ayS,firstCells->axx,growBy->aAE,nextslicecap->ayb,zeroCells->ayu,append_->ayG,len_->aAZ,cap_->aA0
open Go.Question renaming forced->ax7
open Option renaming some->aa,none->ah
open Bool renaming true->ab,false->af
set_option linter.all false
namespace Go.Ev
def aj{p:Prop}(h:p:=by omega):p:=h
def ay{p:Prop}(h:p:=by simp):p:=h
inductive T(α:Type) where
 |lf
 |nd (l:T α) (v:Option α) (r:T α)
namespace T
variable{α:Type}
def get:T α->Nat->Option α
 |.lf,_=>ah
 |.nd l v r,i=>if awl i 0 then v else if awl (i % 2) 1 then l.get (i/2)else r.get (i/2- 1)
def sX:Nat->T α->Nat->α->T α
 |0,t,_,_=>t
 |f+1,t,i,x=>
  match t with
  |.lf=>if awl i 0 then .nd .lf (aa x) .lf else if awl (i % 2) 1 then .nd (sX f .lf (i/2) x) ah .lf else .nd .lf ah (sX f .lf (i/2- 1) x)
  |.nd l v r=>if awl i 0 then .nd l (aa x) r else if awl (i % 2) 1 then .nd (sX f l (i/2) x) v r else .nd l v (sX f r (i/2- 1) x)
def set(t:T α)(i:Nat)(x:α):T α:=sX (i+1) t i x
end T
inductive IV where
 |raw (v:Value)
 |agg (cs:List IV)
 |aF (vs:List IV)
 |ptr (id off ep ext:Nat)
 |sl (id off len:Nat) (cap:Option Nat) (ep s:Nat)
 |emp
 |map (id:Nat)
 |fn (f:Fn) (first captured:List IV)
 |sD (id:Nat)
 |dK (t:TypeId) (v:IV)
 |tree (s:Nat) (es:List IV)
 |mS (cs:List IV)
 deriving Inhabited
def IV.undef:IV:=.raw awT
abbrev IV.bool(b:Bool):IV:=.raw (.bool b)
abbrev IV.int(n:Int):IV:=.raw (.int .i64 n)
inductive Ob where
 |cells (cs:List IV) (ep mn:Nat)
 |map (es:List (Value×IV×Nat)) (clock:Nat)
 |rW (s:ByteArray) (pos:Nat)
 |kG (m:Option Nat) (since:Nat) (seen:List Nat) (Ag:Nat)
 |loop (state:LoopState) (pending:Option Code) (f:FuncId) (tm:T IV) (lO:Nat) (params:List Tmp) (assign body:Code) (fT:Nat)
 |Gp (taken:Bool)
 deriving Inhabited
inductive Df where
 |wT (id:Nat)
 |call (f:FuncId) (args:List IV)
structure St where
 n:Nat
 t:T Ob
def St.add(G:St)(o:Ob):St:=⟨G.n+1,G.t.set G.n o⟩
def St.put(G:St)(id:Nat)(o:Ob):St:=⟨G.n,G.t.set id o⟩
def St.at(G:St)(id:Nat):Option Ob:=G.t.get id
structure Env where
 n:Nat
 t:T IV
def Env.at(e:Env)(i:Nat):IV:=(e.t.get i).getD .undef
def Env.put(e:Env)(dst:Option Tmp)(v:IV):Env:=
 match dst with
 |none=>e
 |some d=>if aw6 d e.n then⟨e.n,e.t.set d v⟩else e
def aH{α:Type}(P:Program):Sem α->Option α
 |.pure a=>aa a
 |.program k=>aH P (k P)
 |.mark _ k=>aH P k
 |_=>ah
def lift:Value->IV
 |.agg cs=>.agg (cs.toList.map .raw)
 |v=>.raw v
def kR:List IV->Option (List Value)
 |[]=>aa []
 |c::cs=>match c with
  |.raw v=>match kR cs with
   |some vs=>aa (v::vs)
   |none=>ah
  |_=>ah
def qV:IV->Option Value
 |.raw v=>aa v
 |.agg cs=>match kR cs with
  |some vs=>aa (.agg vs.toArray)
  |none=>ah
 |_=>ah
def lr:IV->Option Value
 |.dK t v=>match qV v with
  |some u=>aa (.iface t u)
  |none=>ah
 |v=>qV v
def cellsOf:IV->List IV
 |.agg cs=>cs
 |v=>[v]
def ao:IV->Bool
 |.raw (.agg _)|.raw (.tuple _)|.agg _|.aF _=>af
 |_=>ab
section ops
variable(P:Program)
def aW(t:TypeId):Option Nat:=(P.info? t).map (·.size)
def cZ(t:TypeId):Option Value:=(P.info? t).bind (·.zero)
def sY(t:TypeId):Option Bool:=(P.underlying t).map λ|.struct _|.array _ _=>ab|_=>af
def partOf(t:TypeId)(cs:List IV)(off:Nat):Option IV:=
 match sY P t,aW P t with
 |some ab,aa s=>if off+s<=cs.length then aa (.agg ((cs.drop off).take s))else ah
 |some af,aa s=>if s=1 then cs[off]? else ah
 |_,_=>ah
def eG(cs:List IV)(off:Nat)(new:List IV):List IV:=cs.take off++new++cs.drop (off+new.length)
def rX(place:Nat->Option (Nat×Nat)):List IV->List (Nat×IV)->Option (List IV)
 |cells,[]=>aa cells
 |cells,(i,v)::rest=>
  match place i with
  |none=>ah
  |some (off,size)=>
   if(cellsOf v).length=size/\off+size<=cells.length/\(cellsOf v).all ao then rX place (eG cells off (cellsOf v)) rest else ah
def lu(zero:List IV)(n:Nat):List IV:=
 match zero with
 |[z]=>awE n z
 |_=>(awE (n/zero.length) zero).flatten
def fJ(size n:Nat)(G:St):IV->Option (List IV)
 |.raw (.slice ah _ _)=>if n=0 then aa []else ah
 |.emp=>if n=0 then aa []else ah
 |.raw (.string s)=>if n<=s.size then aa ((s.data.toList.take n).map λb=>.raw (.int .u8 b.toNat))else ah
 |.sl id off len _ ep s=>if s=size/\n<=len then match G.at id with
   |some (.cells cs aD mn)=>if mn<=ep/\ep<=aD/\off+n*size<=cs.length then aa ((cs.drop off).take (n*size))else ah
   |_=>ah
  else ah
 |.tree s es=>if s=size/\n<=es.length then aa ((es.take n).flatMap cellsOf)else ah
 |_=>ah
def qi:IV->Option Nat
 |.raw (.slice ah l _)=>if l=0 then aa 0 else ah
 |.raw (.string s)=>aa s.size
 |.emp=>aa 0
 |.sl _ _ len _ _ _=>aa len
 |.tree _ es=>aa es.length
 |_=>ah
inductive gv where
 |val (v:IV) (G:St)
 |enter (f:FuncId) (args:List IV)
 |round (id:Nat) (args:List IV)
 |WG (d:Df)
 |cd (v:IV)
def ret(v:IV)(G:St):Option gv:=aa (.val v G)
def uT(size:Nat)(zero:Value)(xd:TypeDesc)(G:St)(x:IV):Option (Nat×List IV):=
 match xd with
 |.int _=>match x with
  |.raw (.int .i64 l)=>if 0<=l/\l<=1000000 then aa (l.toNat,lu (zero.cells.toList.map .raw) (l.toNat*size))else ah
  |_=>ah
 |_=>match qi x with
  |some n=>match fJ size n G x with
   |some cs=>aa (n,cs)
   |none=>ah
  |none=>ah
def gb(size bj n:Nat)(new:List IV)(s:IV)(G:St):Option gv:=
 match fJ size bj G s with
 |some cG=>if cG.length=bj*size then ret (.sl G.n 0 (bj+n) ah 0 size) (G.add (.cells (cG++new) 0 0))else ah
 |none=>ah
def fj(ro size bj n:Nat)(new:List IV)(s:IV)(G:St):Option gv:=
 match s with
 |.raw (.slice ah l c)=>if l=0/\c=0 then(if n=0 then ret s G else gb size bj n new s G)else ah
 |.emp=>if n=0 then ret s G else gb size bj n new s G
 |.tree _ _=>if n=0 then ret s G else ah
 |.sl id off len cap ep st=>
  if st≠size then ah else
  if n=0 then ret (.sl id off len cap ep st) G else
  match cap with
  |some c=>if len+n<=c then
    match G.at id with
    |some (.cells cs aD _)=>if ro<=id/\ep=aD/\off+(len+n)*size<=cs.length then
      ret (.sl id off (len+n) cap ep st) (G.put id (.cells (eG cs (off+len*size) new) aD aD))else ah
    |_=>ah
   else gb size bj n new s G
  |none=>match G.at id with
   |some (.cells cs aD mn)=>if ro<=id/\ep=aD/\off=0/\len*size=cs.length then
     ret (.sl id 0 (len+n) ah (ep+1) st) (G.put id (.cells (cs++new) (aD+1) mn))
    else if ro<=id/\ep=aD/\off=0/\len*size<=cs.length then
     ret (.sl id 0 (len+n) ah (ep+1+1) st) ((G.put id (.cells (cs.take (len*size)) (aD+1) (aD+1))).put id (.cells (cs.take (len*size)++new) (aD+1+1) (aD+1)))
    else ah
   |_=>ah
 |_=>ah
def l6(ro:Nat)(argTypes:Array TypeId)(s x:IV)(G:St):Option gv:=
 match argTypes[0]?,argTypes[1]? with
 |some sT,aa xT=>
  match P.underlying sT,P.underlying xT with
  |some (.slice elem),aa xd=>
   match aW P elem,cZ P elem,(P.info? elem).map (·.bytes)with
   |some size,aa zero,aa bytes=>
    if size=0\/zero.cells.size≠size then ah else
    match uT size zero xd G x,qi s with
    |some (n,new),aa bj=>
     if new.length=n*size/\new.all ao=ab/\(4*(bj+n)+4096)*bytes<=2 ^47/\bj+n<=2 ^40 then fj ro size bj n new s G else ah
    |_,_=>ah
   |_,_,_=>ah
  |_,_=>ah
 |_,_=>ah
def ig:Option IV->Option (Option Nat)
 |none=>aa ah
 |some (.raw (.int _ i))=>if 0<=i then aa (aa i.toNat)else ah
 |_=>ah
def gd(t:TypeId)(x:IV)(lo hi mx:Option IV):Option IV:=
 match ig lo,ig hi,ig mx with
 |some lo,aa hi,aa mx=>
  if mx.isSome=ab/\hi.isSome=af then ah else
  match P.underlying t with
  |some .string=>match x with
   |.raw (.string s)=>
    if mx=ah/\lo.getD 0<=hi.getD s.size/\hi.getD s.size<=s.size then aa (.raw (.string ⟨((s.data.toList.drop (lo.getD 0)).take (hi.getD s.size- lo.getD 0)).toArray⟩))else ah
   |_=>ah
  |some (.slice elem)=>match aW P elem with
   |none=>ah
   |some sz=>match x with
    |.raw (.slice ah 0 0)=>if lo.getD 0=0/\hi.getD 0=0/\mx.getD 0=0 then aa (.raw (.slice ah 0 0))else ah
    |.emp=>if lo.getD 0=0/\hi.getD 0=0/\mx.getD 0=0 then aa .emp else ah
    |.sl id off len cap ep s=>
     if sz≠s then ah else
     match mx,cap with
     |some m,cap=>if lo.getD 0<=hi.getD len/\hi.getD len<=m/\m<=cap.getD len then
       (if m=lo.getD 0 then aa .emp else aa (.sl id (off+lo.getD 0*s) (hi.getD len- lo.getD 0) (aa (m- lo.getD 0)) ep s))else ah
     |none,aa m=>if lo.getD 0<=hi.getD len/\hi.getD len<=m then
       (if m=lo.getD 0 then aa .emp else aa (.sl id (off+lo.getD 0*s) (hi.getD len- lo.getD 0) (aa (m- lo.getD 0)) ep s))else ah
     |none,ah=>if lo.getD 0<=hi.getD len/\hi.getD len<=len then aa (.sl id (off+lo.getD 0*s) (hi.getD len- lo.getD 0) ah ep s)else ah
    |.tree s es=>
     if sz≠s then ah else
     match mx with
     |none=>if lo.getD 0<=hi.getD es.length/\hi.getD es.length<=es.length then aa (.tree s ((es.take (hi.getD es.length)).drop (lo.getD 0)))else ah
     |some m=>if m=0/\lo.getD 0=0/\hi.getD es.length=0 then aa (.tree s [])else ah
    |_=>ah
  |some (.array n elem)=>match x,aW P elem with
   |.ptr id off ep ext,aa s=>
    if s≠0/\n*s<=ext/\mx=ah/\lo.getD 0<=hi.getD n/\hi.getD n<=n then
     (if n=lo.getD 0 then aa .emp else aa (.sl id (off+lo.getD 0*s) (hi.getD n- lo.getD 0) (aa (n- lo.getD 0)) ep s))else ah
   |_,_=>ah
  |_=>ah
 |_,_,_=>ah
def fy(empty:Bool)(kt:TypeId)(k:Value)(es:List (Value×IV×Nat)):Option (Option Nat):=
 match aH P (do
  ayC empty 10000 kt k
  axr kt k (es.map λe=>{key:=e.1,val:=awT,born:=e.2.2}))with
 |some (aa (i,_))=>aa (aa i)
 |some ah=>aa ah
 |none=>ah
def entriesOf(G:St):IV->Option (List (Value×IV×Nat))
 |.raw (.map ah)=>aa []
 |.map id=>match G.at id with
  |some (.map es _)=>aa es
  |_=>ah
 |_=>ah
def pK(ro:Nat)(kt:TypeId)(m k v:IV)(G:St):Option St:=
 match m,lr k with
 |.map id,aa key=>
  match G.at id with
  |some (.map es clock)=>
   if¬ro<=id then ah else
   match fy P af kt key es with
   |some (aa i)=>match es[i]? with
    |some e=>if ayi 10000 e.1 key then aa (G.put id (.map (es.set i (key,v,e.2.2)) clock))else ah
    |none=>ah
   |some ah=>aa (G.put id (.map (es++[(key,v,clock)]) (clock+1)))
   |none=>ah
  |_=>ah
 |_,_=>ah
def DB(t:TypeId):IV->IV->Bool
 |.raw (.pointer ah),.ptr .. |.raw (.pointer ah),.mS _=>match P.underlying t with|some (.pointer _)=>ab|_=>af
 |.raw (.slice ah _ _),.sl .. |.raw (.slice ah _ _),.emp|.raw (.slice ah _ _),.tree _ (_::_)=>match P.underlying t with|some (.slice _)=>ab|_=>af
 |.raw (.map ah),.map _=>match P.underlying t with|some (.map _ _)=>ab|_=>af
 |.raw .nilFunc,.fn .. |.raw .nilFunc,.sD _=>match P.underlying t with|some (.func _ _ _)=>ab|_=>af
 |.raw .nilIface,.dK .. =>match P.underlying t with|some (.interface _)=>ab|_=>af
 |_,_=>af
def YF(t:TypeId)(a b:IV):Bool:=DB P t a b||DB P t b a
def ptrEq(t:TypeId):IV->IV->Option Bool
 |.ptr i o e _,.ptr j p f _=>match P.underlying t with
  |some (.pointer el)=>match aW P el with
   |some s=>if i=j/\e=f/\s≠0 then aa (o==p)else ah
   |none=>ah
  |_=>ah
 |_,_=>ah
def sZ(op:BinOp)(t:TypeId)(x y:Operand)(a b:IV):Option IV:=
 match op,a,b with
 |.eql,.raw (.string s),.raw (.string u)=>aa (.bool (s.data.toList==u.data.toList))
 |.neq,.raw (.string s),.raw (.string u)=>aa (.bool (!(s.data.toList==u.data.toList)))
 |.lss,.raw (.string s),.raw (.string u)=>aa (.bool (azI s.data.toList u.data.toList))
 |.gtr,.raw (.string s),.raw (.string u)=>aa (.bool (!(azI s.data.toList u.data.toList||s.data.toList==u.data.toList)))
 |.leq,.raw (.string s),.raw (.string u)=>aa (.bool (azI s.data.toList u.data.toList||s.data.toList==u.data.toList))
 |.geq,.raw (.string s),.raw (.string u)=>aa (.bool (!(azI s.data.toList u.data.toList)))
 |.add,.raw (.string s),.raw (.string u)=>if s.size+u.size<=2 ^40 then aa (.raw (.string ⟨(s.data.toList++u.data.toList).toArray⟩))else ah
 |op,a,b=>
  match lr a,lr b with
  |some u,aa v=>(aH P (do eqGuard op t x y u v;binOp op t u v)).map lift
  |_,_=>
   if YF P t a b then
    match op with
    |.eql=>aa (.bool af)
    |.neq=>aa (.bool ab)
    |_=>ah
   else match op,ptrEq P t a b with
    |.eql,aa c=>aa (.bool c)
    |.neq,aa c=>aa (.bool !c)
    |_,_=>ah
def gV(f:IV)(args:List IV):Option gv:=
 match f with
 |.fn (.func f) first cap=>
  match P.funcs[f]? with
  |some fn=>if fn.body.isSome&&fn.name != "runtime.NumGoroutine" then aa (.enter f (first++args++cap))else ah
  |none=>ah
 |.raw (.func (.func f) a b)=>
  if a.size=0/\b.size=0 then
   match P.funcs[f]? with
   |some fn=>if fn.body.isSome&&fn.name != "runtime.NumGoroutine" then aa (.enter f args)else ah
   |none=>ah
  else ah
 |.sD id=>aa (.round id args)
 |_=>ah
def qj(argTypes:Array TypeId)(x:IV)(G:St):Option IV:=
 match(argTypes[0]?).bind P.underlying,x with
 |some (.slice _),.sl _ _ len _ _ _=>aa (.int len)
 |some (.slice _),.emp=>aa (.int 0)
 |some (.slice _),.tree _ es=>aa (.int es.length)
 |some (.slice _),.raw (.slice ah l _)=>aa (.int l)
 |some .string,.raw (.string s)=>aa (.int s.size)
 |some (.map _ _),.raw (.map ah)=>aa (.int 0)
 |some (.map _ _),.map id=>match G.at id with
  |some (.map es _)=>aa (.int es.length)
  |_=>ah
 |some (.array n _),_=>aa (.int n)
 |_,_=>ah
def YG(argTypes:Array TypeId)(x:IV):Option IV:=
 match(argTypes[0]?).bind P.underlying,x with
 |some (.slice _),.sl _ _ _ (aa c) _ _=>aa (.int c)
 |some (.slice _),.emp=>aa (.int 0)
 |some (.slice _),.raw (.slice ah _ c)=>aa (.int c)
 |some (.array n _),_=>aa (.int n)
 |_,_=>ah
def Nq(args:List IV):Option IV:=
 match kR args with
 |some vs=>(aH P (Builtin.max_ #[] 0 vs.toArray)).map lift
 |none=>ah
def fk(ro:Nat)(b:Builtin)(argTypes:Array TypeId)(args:List IV)(G:St):Option gv:=
 match b with
 |.append=>match args with
  |[s,x]=>l6 P ro argTypes s x G
  |_=>ah
 |.len=>match args with
  |[x]=>(qj P argTypes x G).map λv=>.val v G
  |_=>ah
 |.cap=>match args with
  |[x]=>(YG P argTypes x).map λv=>.val v G
  |_=>ah
 |.max=>(Nq P args).map λv=>.val v G
 |_=>ah
def aA(ro:Nat)(ρ:Operand->IV)(o:Oper)(G:St):Option gv:=
 match o.op with
 |.move x|.assign x=>ret (ρ x) G
 |.pick c a b=>match ρ c with
  |.raw (.bool t)=>ret (if t then ρ a else ρ b) G
  |_=>ah
 |.alloc elem=>match cZ P elem with
  |some z=>ret (.ptr G.n 0 0 z.cells.size) (G.add (.cells (z.cells.toList.map .raw) 0 0))
  |none=>ah
 |.box _ x=>if(cellsOf (ρ x)).all ao then ret (.ptr G.n 0 0 (cellsOf (ρ x)).length) (G.add (.cells (cellsOf (ρ x)) 0 0))else ah
 |.build t parts=>match cZ P t,P.underlying t with
  |some z,aa (.struct fields)=>match rX (λi=>(fields[i]?).bind λf=>(aW P f.type).map λs=>(f.offset,s)) (z.cells.toList.map .raw) (parts.toList.map λ(i,x)=>(i,ρ x))with
   |some cs=>if fields.all λf=>(aW P f.type).isSome then ret (.agg cs) G else ah
   |none=>ah
  |some z,aa (.array _ elem)=>match aW P elem with
   |some s=>match rX (λi=>aa (i*s,s)) (z.cells.toList.map .raw) (parts.toList.map λ(i,x)=>(i,ρ x))with
    |some cs=>ret (.agg cs) G
    |none=>ah
   |none=>ah
  |_,_=>ah
 |.buildSlice t len parts=>match P.underlying t with
  |some (.slice elem)=>match aW P elem,cZ P elem with
   |some s,aa z=>
    if s=0\/z.cells.size≠s\/len*s>2 ^20 then ah else
    match rX (λi=>aa (i*s,s)) (lu (z.cells.toList.map .raw) (len*s)) (parts.toList.map λ(i,x)=>(i,ρ x))with
    |some cs=>if cs.length=len*s/\cs.all ao then(if len=0 then ret .emp G else ret (.sl G.n 0 len (aa len) 0 s) (G.add (.cells cs 0 0)))else ah
    |none=>ah
   |_,_=>ah
  |_=>ah
 |.load t a=>match ρ a with
  |.ptr id off ep ext=>match aW P t,G.at id with
   |some s,aa (.cells cs aD mn)=>if s<=ext/\mn<=ep/\ep<=aD then(match partOf P t cs off with|some v=>ret v G|none=>ah)else ah
   |_,_=>ah
  |.mS cs=>match partOf P t cs 0 with
   |some v=>ret v G
   |none=>ah
  |_=>ah
 |.store t a x=>match ρ a with
  |.ptr id off ep ext=>match aW P t,G.at id with
   |some s,aa (.cells cs aD mn)=>
    if ro<=id/\(cellsOf (ρ x)).length=s/\s<=ext/\ep=aD/\off+s<=cs.length/\(cellsOf (ρ x)).all ao then
     ret .undef (G.put id (.cells (eG cs off (cellsOf (ρ x))) aD aD))else ah
   |_,_=>ah
  |_=>ah
 |.nilCheck x=>match ρ x with
  |.ptr a b c d=>ret (.ptr a b c d) G
  |.mS cs=>ret (.mS cs) G
  |.fn (.func f) a b=>ret (.fn (.func f) a b) G
  |.sD l=>ret (.sD l) G
  |.dK t v=>ret (.dK t v) G
  |_=>ah
 |.binOp op t x y _=>match sZ P op t x y (ρ x) (ρ y)with
  |some v=>ret v G
  |none=>ah
 |.unOp op _ x=>match ρ x with
  |.raw v=>match aH P (Op.unary op v)with
   |some r=>ret (lift r) G
   |none=>ah
  |_=>ah
 |.convert src dst x=>match ρ x with
  |.raw (.string s)=>match P.underlying src,P.underlying dst with
   |some _,aa .string=>ret (.raw (.string s)) G
   |_,_=>ah
  |.raw v=>match aH P (convert src dst v)with
   |some r=>ret (lift r) G
   |none=>ah
  |_=>ah
 |.makeInterface t x=>match P.underlying t with
  |some (.interface _)=>ah
  |some _=>ret (.dK t (ρ x)) G
  |none=>ah
 |.makeFunc fn first cap=>ret (.fn fn (first.toList.map ρ) (cap.toList.map ρ)) G
 |.makeMap t r=>match r with
  |none=>ret (.map G.n) (G.add (.map [] 0))
  |some h=>match P.underlying t,ρ h with
   |some (.map _ _),.raw (.int _ _)=>ret (.map G.n) (G.add (.map [] 0))
   |_,_=>ah
 |.makeSlice t l c=>match P.underlying t,ρ l,ρ c with
  |some (.slice elem),.raw (.int _ l),.raw (.int _ c)=>match aW P elem,cZ P elem,(P.info? elem).map (·.bytes)with
   |some s,aa z,aa bytes=>
    if s=0\/z.cells.size≠s\/¬(0<=l/\l<=c/\c<=1000000)\/bytes>1000000 then ah else
    if c=0 then ret .emp G else
    ret (.sl G.n 0 l.toNat (aa c.toNat) 0 s) (G.add (.cells (lu (z.cells.toList.map .raw) (c.toNat*s)) 0 0))
   |_,_,_=>ah
  |_,_,_=>ah
 |.slice t x lo hi mx=>match gd P t (ρ x) (lo.map ρ) (hi.map ρ) (mx.map ρ)with
  |some v=>ret v G
  |none=>ah
 |.fieldAddr s x f=>match P.underlying s with
  |some (.struct fields)=>match fields[f]? with
   |some fd=>match aW P fd.type,ρ x with
    |some sz,.ptr id off ep ext=>if sz≠0/\fd.offset+sz<=ext then ret (.ptr id (off+fd.offset) ep sz) G else ah
    |some sz,.mS cs=>if sz≠0/\fd.offset+sz<=cs.length then ret (.mS ((cs.drop fd.offset).take sz)) G else ah
    |_,_=>ah
   |none=>ah
  |_=>ah
 |.field t x f=>match P.underlying t,ρ x with
  |some (.struct fields),.agg cs=>match fields[f]? with
   |some fd=>match partOf P fd.type cs fd.offset with
    |some v=>ret v G
    |none=>ah
   |none=>ah
  |_,_=>ah
 |.indexAddr t x ix=>match P.underlying t,ρ ix with
  |some (.slice elem),.raw (.int _ i)=>match ρ x with
   |.sl id off len _ ep s=>if aW P elem=aa s/\0<=i/\i<len then ret (.ptr id (off+i.toNat*s) ep s) G else ah
   |.tree s es=>if aW P elem=aa s/\0<=i then match es[i.toNat]? with
     |some e=>if(cellsOf e).length=s then ret (.mS (cellsOf e)) G else ah
     |none=>ah
    else ah
   |_=>ah
  |some (.array n elem),.raw (.int _ i)=>match ρ x,aW P elem with
   |.ptr id off ep ext,aa s=>if s≠0/\0<=i/\i<n/\i.toNat*s+s<=ext then ret (.ptr id (off+i.toNat*s) ep s) G else ah
   |_,_=>ah
  |_,_=>ah
 |.index t x ix=>match P.underlying t,ρ x,ρ ix with
  |some .string,.raw (.string s),.raw (.int _ i)=>if 0<=i then match s.data.toList[i.toNat]? with
    |some b=>ret (.raw (.int .u8 b.toNat)) G
    |none=>ah
   else ah
  |some (.array n elem),.agg cs,.raw (.int _ i)=>match aW P elem with
   |some s=>if 0<=i/\i<n then(match partOf P elem cs (i.toNat*s)with|some v=>ret v G|none=>ah)else ah
   |none=>ah
  |_,_,_=>ah
 |.lookup t x ix ok=>match P.underlying t,entriesOf G (ρ x),lr (ρ ix)with
  |some (.map kt elem),aa es,aa key=>match fy P es.isEmpty kt key es,cZ P elem with
   |some (aa i),aa _=>match es[i]? with
    |some e=>ret (if ok then .aF [e.2.1,.bool ab]else e.2.1) G
    |none=>ah
   |some ah,aa z=>ret (if ok then .aF [lift z,.bool af]else lift z) G
   |_,_=>ah
  |_,_,_=>ah
 |.mapUpdate t m k x|.insert t m k x=>match P.underlying t with
  |some (.map kt _)=>match pK P ro kt (ρ m) (ρ k) (ρ x) G with
   |some au=>ret .undef au
   |none=>ah
  |_=>ah
 |.range t x=>match P.underlying t,ρ x with
  |some .string,.raw (.string s)=>ret (.ptr G.n 0 0 1) (G.add (.rW s 0))
  |some (.map _ _),.raw (.map ah)=>ret (.ptr G.n 0 0 1) (G.add (.kG ah 0 [] 0))
  |some (.map _ _),.map m=>match G.at m with
   |some (.map _ clock)=>ret (.ptr G.n 0 0 1) (G.add (.kG (aa m) clock [] clock))
   |_=>ah
  |_,_=>ah
 |.next it str=>match ρ it with
  |.ptr r 0 0 1=>if¬ro<=r then ah else match G.at r,str with
   |some (.rW s pos),ab=>
    if pos<s.size then
     ret (.aF [.bool ab,.int pos,.raw (.int .i32 (axU s pos).1)]) (G.put r (.rW s (pos+(axU s pos).2)))
    else ret (.aF [.bool af]) G
   |some (.kG ah _ _ _),af=>ret (.aF [.bool af]) G
   |some (.kG (aa m) since seen last),af=>match G.at m with
    |some (.map es clock)=>match es with
     |[]=>ret (.aF [.bool af]) G
     |[e]=>if e.2.2∈seen then(if e.2.2<last then ret (.aF [.bool af]) G else ah)else
      if e.2.2<since/\seen=[]then ret (.aF [.bool ab,lift e.1,e.2.1]) (G.put r (.kG (aa m) since [e.2.2] clock))else ah
     |_=>ah
    |_=>ah
   |_,_=>ah
  |_=>ah
 |.entry it=>match ρ it with
  |.ptr r 0 0 1=>match G.at r with
   |some (.kG (aa m) _ seen Ag)=>match G.at m,seen.getLast? with
    |some (.map es clock),aa Iv=>if clock=Ag then match es.find? (λe=>e.2.2==Iv)with
      |some e=>ret (.aF [lift e.1,e.2.1]) G
      |none=>ah
     else ah
    |_,_=>ah
   |_=>ah
  |_=>ah
 |.extract t i=>match ρ t with
  |.aF vs=>match vs[i]? with
   |some v=>ret v G
   |none=>ah
  |.raw (.tuple vs)=>match vs[i]? with
   |some v=>ret (.raw v) G
   |none=>ah
  |_=>ah
 |.panic x=>match ρ x with
  |.dK t v=>aa (.cd (.dK t v))
  |_=>ah
 |.typeAssert x _ asserted ok=>match P.underlying asserted,cZ P asserted with
  |some (.interface _),_=>ah
  |some _,aa z=>match ρ x with
   |.dK t v=>if awl t asserted then ret (if ok then .aF [v,.bool ab]else v) G else
     if ok then ret (.aF [lift z,.bool af]) G else ah
   |.raw .nilIface=>if ok then ret (.aF [lift z,.bool af]) G else ah
   |_=>ah
  |_,_=>ah
 |.call c=>match c.callee with
  |.builtin b=>fk P ro b c.argTypes (c.args.toList.map ρ) G
  |.value f=>gV P (ρ f) (c.args.toList.map ρ)
  |_=>ah
 |.defer c=>match c.callee with
  |.value f=>match gV P (ρ f) (c.args.toList.map ρ)with
   |some (.enter f args)=>aa (.WG (.call f args))
   |_=>ah
  |_=>ah
 |_=>ah
end ops
inductive Ex where
 |normal
 |exit (id:Nat)
 |goto (l:Nat)
 |ret
 |cd (v:IV)
def Ex.Ez:Ex->Bool
 |.cd _=>ab
 |_=>af
def fK:Ex->Option Code
 |.normal=>ah
 |.cd _=>ah
 |.ret=>aa .ret
 |.exit id=>aa (.exit id)
 |.goto t=>aa (.goto t)
structure CR where
 ex:Ex
 e:Env
 df:List Df
 G:St
structure Self where
 code:(ro:Nat)->(rd:Option Nat)->FuncId->Code->Env->List Df->St->Option CR
 call:(ro:Nat)->FuncId->List IV->St->Option (IV×St)
 cd:(ro:Nat)->FuncId->List IV->St->Option (IV×St)
 zd:(ro:Nat)->FuncId->List IV->Option IV->St->Option (Option IV×St)
section steps
variable(P:Program)(S:Self)
def aB(e:Env):Operand->IV
 |.tmp t=>e.at t
 |.const v=>lift v
 |.global g=>.raw (.pointer (aa ⟨g,0,ah⟩))
 |.func f=>.raw (.func (.func f) #[] #[])
def aX(o:Oper)(ops:Array Oper)(e:Env):Bool:=
 match o.guard with
 |none=>ab
 |some (j,want)=>match((ops[j]?).bind (·.dst))with
  |some d=>if aw6 d e.n then(match e.at d with|.raw (.bool b)=>b==want|_=>af)else af
  |none=>af
def DC(ro:Nat)(l:Nat)(args:List IV)(G:St):Option (IV×St):=
 match G.at l with
 |some (.loop state pending f tm lO params assign body fT)=>
  if args.length≠params.length\/¬ro<=l\/state≠.ready then ah else
  let e:Env:=(params.zip args).foldl (λe (p,v)=>e.put (aa p) v) ⟨lO,tm⟩
  match S.code ro (aa l) f assign e [] G with
  |some ⟨.normal,e,[],G⟩=>
   match G.at l with
   |some (.loop .ready pending f1 Aw EA params1 WH agm s5)=>
    match S.code ro (aa l) f body e [] (G.put l (.loop .busy pending f1 Aw EA params1 WH agm s5))with
    |some ⟨ex,_,[],G⟩=>
     if ex.Ez then ah else
     match G.at l with
     |some (.loop _ _ f tm lO params assign body fT)=>
      aa (.bool (fK ex).isNone,G.put l (.loop (if(fK ex).isNone then .ready else .done) (fK ex) f tm lO params assign body fT))
     |_=>ah
    |_=>ah
   |_=>ah
  |_=>ah
 |_=>ah
def kH(ro:Nat)(e:Env)(o:Oper)(G:St):Option (IV×St):=
 match aA P ro (aB e) o G with
 |some (.val v G)=>aa (v,G)
 |some (.enter f args)=>S.call ro f args G
 |some (.round l args)=>DC S ro l args G
 |_=>ah
def Bx(ro:Nat)(rd:Option Nat)(ops:Array Oper):List Oper->Env->List Df->St->Option CR
 |[],e,df,G=>aa ⟨.normal,e,df,G⟩
 |o::rest,e,df,G=>
  if aX o ops e then
   match kH P S ro e o G with
   |some (v,G)=>Bx ro rd ops rest (e.put o.dst v) df G
   |none=>match aA P ro (aB e) o G with
    |some (.WG d)=>if rd.isNone then Bx ro rd ops rest (e.put o.dst .undef) (d::df) G else ah
    |some (.enter f args)=>match S.cd ro f args G with
     |some (v,G)=>aa ⟨.cd v,e,df,G⟩
     |none=>ah
    |some (.cd v)=>aa ⟨.cd v,e,df,G⟩
    |_=>ah
  else Bx ro rd ops rest (e.put o.dst .undef) df G
inductive Kind where
 |pure|alloc|load|call|effect
 deriving DecidableEq
def cN(o:Oper):Kind:=
 match o.op with
 |.move _|.assign _|.pick .. |.build .. |.binOp .. |.unOp .. |.convert .. |.makeInterface .. |.makeFunc .. |.slice .. |.fieldAddr .. |.field ..
 |.indexAddr .. |.index .. |.extract .. |.nilCheck _=>.pure
 |.call {callee:=.builtin .cap,.. }|.call {callee:=.builtin .min,.. }|.call {callee:=.builtin .max,.. }=>.pure
 |.alloc .. |.box .. |.buildSlice .. |.makeMap .. |.makeSlice .. =>.alloc
 |.load .. |.lookup .. |.entry _|.call {callee:=.builtin .len,.. }=>.load
 |.call {callee:=.value _,.. }|.call {callee:=.builtin .append,.. }=>.call
 |_=>.effect
def Iw(acc:List Nat)(o:Oper):List Nat:=
 acc++[o.after.toList.foldl (λs e=>if axH .any e then Nat.lor s (Nat.lor (Nat.shiftLeft 1 e.on) (acc.getD e.on 0))else s) 0]
def J2(ops:Array Oper):List Nat:=ops.toList.foldl Iw []
def wU(ops:Array Oper)(o:Oper):List Nat:=
 (o.op.operands.toList.filterMap λ|.tmp t=>aa t|_=>ah)++(match o.guard with|some (j,_)=>(((ops[j]?).bind (·.dst)).toList)|none=>[])
structure eh where
 cg:List Nat
 kinds:List Kind
 ok:Bool
def ago:Kind->Kind->Bool
 |.effect,.effect|.effect,.call|.call,.effect=>ab
 |_,_=>af
def writes(o:Oper)(l:List Nat):Bool:=
 match o.dst with
 |some a=>l.contains a
 |none=>af
def DD(cg:List Nat)(ks:List Kind)(WI:List (List Nat))(p:Oper)(i:Nat)(o:Oper)(j:Nat):Bool:=
 (match p.dst,o.dst with|some a,aa b=> !awl a b|_,_=>ab)&&
 (!(ks.getD i .effect==.load)|| !writes o (WI.getD i []))&&
 (awC (cg.getD j 0) i||(!writes p (WI.getD j [])&& !writes o (WI.getD i [])&& !ago (ks.getD i .effect) (ks.getD j .effect)))
def bP(ops:Array Oper):eh:=
 let l:=ops.toList.zipIdx
 let cg:=J2 ops
 let ord (i j:Nat):Bool:=if aw6 i j then awC (cg.getD j 0) i else awC (cg.getD i 0) j
 let ks:=l.map λ(o,i)=>match cN o with
  |.call=>if l.all λ(p,j)=>awl i j||(cN p)==.pure||ord i j then Kind.effect else Kind.call
  |k=>k
 let WI:=ops.toList.map (wU ops)
 let ok:=l.all λ(o,j)=>
  (o.after.toList.all λe=> !axH .any e||aw6 e.on j)&&
  (!(ks.getD j .effect==.load)|| !writes o (WI.getD j []))&&
  (l.all λ(p,i)=> !aw6 i j||DD cg ks WI p i o j)
 ⟨cg,ks,ok⟩
def R7:IV->IV->Bool
 |.raw (.int j a),.raw (.int k b)=>j==k&&a==b
 |.raw (.bool a),.raw (.bool b)=>a==b
 |.raw (.string a),.raw (.string b)=>a.data.toList==b.data.toList
 |.ptr a b c d,.ptr a' b' c' d'=>awl a a'&&awl b b'&&awl c c'&&awl d d'
 |.map a,.map b=>awl a b
 |.sl a b c d e f,.sl a' b' c' d' e' f'=>awl a a'&&awl b b'&&awl c c'&&(d==d')&&awl e e'&&awl f f'
 |.emp,.emp=>ab
 |_,_=>af
structure Piece where
 j:Nat
 lo:Nat
 hi:Nat
 t:T Ob
def dJ(b:T Ob)(p:Piece):T Ob:=
 (List.range' p.lo (p.hi- p.lo)).foldl (λb id=>match p.t.get id with|some o=>b.set id o|none=>b) b
structure DS where
 e:Env
 n:Nat
 bs:List (Nat×T Ob)
 aS:List Piece
def seen(aS:List Piece)(bits:Nat)(b:T Ob):T Ob:=(aS.filter λp=>awC bits p.j).foldl dJ b
def aa9{u v:IV}(h:R7 u v=ab):u=v:=by
 unfold R7 at h;split at h
 .simp only[awb,beq_iff_eq]at h;rw[h.1,h.2]
 .simp only[beq_iff_eq]at h;rw[h]
 .rename_i a b;simp only[beq_iff_eq]at h
  have:a=b:=by
   cases a with|mk x=>cases b with|mk y=>simp only at h;cases x;cases y;simp only at h;rw[h]
  rw[this]
 .simp only[awb]at h;rw[awk h.1.1.1,awk h.1.1.2,awk h.1.2,awk h.2]
 .rw[awk h]
 .simp only[awb,beq_iff_eq]at h;obtain⟨⟨⟨⟨⟨h1,h2⟩,h3⟩,h4⟩,h5⟩,h6⟩:=h;rw[awk h1,awk h2,awk h3,h4,awk h5,awk h6]
 .rfl
 .cases h
class Sm where
 sm:IV->IV->Bool
 ok:∀u v,sm u v=ab->u=v
abbrev xX:Sm:=⟨R7,λ_ _ h=>aa9 h⟩
section draw
variable[Sm]
def loadAt(e:Env)(o:Oper)(n:Nat)(v:IV)(aS:List Piece)(bits:Nat)(b:T Ob):Bool:=
 match aA P n (aB e) o ⟨n,seen aS bits b⟩with
 |some (.val u G)=>awl G.n n&&Sm.sm u v
 |_=>af
def nG(e:Env)(o:Oper)(n:Nat)(v:IV)(aS:List Piece)(bits:Nat):List (Nat×T Ob)->Bool
 |[]=>ab
 |(i,b)::rest=>loadAt P e o n v aS bits b&&(awC bits i||nG e o n v aS bits rest)
def recheck(pl:eh)(ops:Array Oper)(bits:Nat)(e:Env)(n:Nat)(aS:List Piece)(b:T Ob)(l:List (Oper×Nat)):Bool:=
 l.all λ(o,i)=>match pl.kinds.getD i .effect with
  |.load=>awC bits i|| !aX o ops e||(match o.dst with|some d=>loadAt P e o n (e.at d) aS (pl.cg.getD i 0) b|none=>af)
  |_=>ab
def bV(pl:eh)(ro:Nat)(ops:Array Oper)(o:Oper)(j:Nat)(d:DS):Option DS:=
 let bits:=pl.cg.getD j 0
 let WJ:=ops.toList.zipIdx.take j
 match d.bs with
 |[]=>ah
 |(i,b)::rest=>
  if aX o ops d.e then
   match pl.kinds.getD j .effect with
   |.pure=>match aA P 0 (aB d.e) o ⟨0,.lf⟩with
    |some (.val v G)=>if G.n=0 then aa {d with e:=d.e.put o.dst v}else ah
    |_=>ah
   |.alloc=>match aA P 0 (aB d.e) o ⟨d.n,.lf⟩with
    |some (.val v G)=>aa {d with e:=d.e.put o.dst v,n:=G.n,aS:=⟨j,d.n,G.n,G.t⟩::d.aS}
    |_=>ah
   |.load=>match aA P d.n (aB d.e) o ⟨d.n,seen d.aS bits b⟩with
    |some (.val v G)=>
     if G.n=d.n/\(awC bits i||nG P d.e o d.n v d.aS bits rest)=ab then aa {d with e:=d.e.put o.dst v}else ah
    |_=>ah
   |.call=>match kH P S d.n d.e o ⟨d.n,seen d.aS bits b⟩with
    |some (v,G)=>aa {d with e:=d.e.put o.dst v,n:=G.n,aS:=⟨j,d.n,G.n,G.t⟩::d.aS}
    |none=>ah
   |.effect=>
    match kH P S ro d.e o ⟨d.n,seen d.aS bits b⟩with
    |some (v,G)=>
     let e:=d.e.put o.dst v
     if recheck P pl ops bits d.e G.n (d.aS.filter λp=> !awC bits p.j) G.t WJ then
      aa ⟨e,G.n,(j,G.t)::d.bs,d.aS.filter λp=> !awC bits p.j⟩
     else ah
    |none=>ah
  else match pl.kinds.getD j .effect with
   |.effect=>if recheck P pl ops bits d.e d.n d.aS b WJ then aa ⟨d.e.put o.dst .undef,d.n,(j,b)::d.bs,d.aS⟩else ah
   |_=>aa {d with e:=d.e.put o.dst .undef}
def jF(SF:Nat->Self)(pl:eh)(ro:Nat)(ops:Array Oper):List (Oper×Nat)->DS->Option DS
 |[],d=>aa d
 |(o,j)::rest,d=>match bV P (SF j) pl ro ops o j d with
  |some d=>jF SF pl ro ops rest d
  |none=>ah
def kI(SF:Nat->Self)(ro:Nat)(ops:Array Oper)(e:Env)(df:List Df)(G:St):Option CR:=
 let pl:=bP ops
 if pl.ok then
  match jF P SF pl ro ops ops.toList.zipIdx ⟨e,G.n,[(0,G.t)],[]⟩with
  |some ⟨e,n,(_,b)::_,aS⟩=>aa ⟨.normal,e,df,⟨n,aS.foldl dJ b⟩⟩
  |_=>ah
 else ah
end draw
def R8(ro:Nat)(ops:Array Oper)(e:Env)(df:List Df)(G:St):Option CR:= @kI P xX (λ_=>S) ro ops e df G
def xY(ro:Nat)(rd:Option Nat)(fn:FuncId)(c:Code)(e:Env)(df:List Df)(G:St):Option CR:=
 match c with
 |.skip|.label _=>aa ⟨.normal,e,df,G⟩
 |.region _ ops draw=>if draw then R8 P S ro ops e df G else Bx P S ro rd ops ops.toList e df G
 |.seq a b=>match S.code ro rd fn a e df G with
  |some ⟨.normal,e,df,G⟩=>S.code ro rd fn b e df G
  |r=>r
 |.cond c a b=>match aB e c with
  |.raw (.bool t)=>S.code ro rd fn (if t then a else b) e df G
  |_=>ah
 |.block id a=>match S.code ro rd fn a e df G with
  |some ⟨.exit bt,e,df,G⟩=>if bt=id then aa ⟨.normal,e,df,G⟩else aa ⟨.exit bt,e,df,G⟩
  |r=>r
 |.loop a=>match S.code ro rd fn a e df G with
  |some ⟨.normal,e,df,G⟩=>S.code ro rd fn (.loop a) e df G
  |r=>r
 |.scope a=>match S.code ro rd fn a e df G with
  |some ⟨.goto _,_,_,_⟩=>ah
  |r=>r
 |.exit id=>aa ⟨.exit id,e,df,G⟩
 |.goto l=>aa ⟨.goto l,e,df,G⟩
 |.ret=>aa ⟨.ret,e,df,G⟩
 |.rangeFunc g params assign body=>
  let en:Option (Nat×St×List Df):=match rd with
   |none=>aa (G.n,G.add (.Gp af),[.wT G.n])
   |some l=>match G.at l with
    |some (.loop _ _ _ _ _ _ _ _ fT)=>aa (fT,G,[])
    |_=>ah
  match en with
  |some (fT,G,mark)=>
   let l:=G.n
   let G:=G.add (.loop .ready ah fn e.t e.n params.toList assign body fT)
   match gV P (aB e g) [.sD l]with
   |some (.enter f args)=>match S.call ro f args G with
    |some (_,G)=>match G.at l with
     |some (.loop state pending f tm lO ps as bd d)=>
      if state=.busy\/¬ro<=l then ah else
      let G:=G.put l (.loop .exhausted pending f tm lO ps as bd d)
      match pending with
      |none=>aa ⟨.normal,e,mark++df,G⟩
      |some c=>S.code ro rd fn c e (mark++df) G
     |_=>ah
    |none=>ah
   |_=>ah
  |none=>ah
 |.refuse _=>ah
def gW(ro:Nat):List Df->Option IV->St->Option (Option IV×St)
 |[],m,G=>aa (m,G)
 |.wT id::ds,m,G=>match G.at id with
  |some (.Gp af)=>if ro<=id then gW ro ds m (G.put id (.Gp ab))else ah
  |_=>ah
 |.call f args::ds,m,G=>match S.zd ro f args m G with
  |some (m,G)=>gW ro ds m G
  |none=>ah
def cV(fn:Func)(e:Env)(G:St):Option IV:=
 let one (r:ResultVar):Option IV:=match r with
  |.tmp t=>aa (e.at t)
  |.cell a t=>match e.at a with
   |.ptr id off ep ext=>match aW P t,G.at id with
    |some s,aa (.cells cs aD mn)=>if s<=ext/\mn<=ep/\ep<=aD then partOf P t cs off else ah
    |_,_=>ah
   |_=>ah
 match fn.results.toList with
 |[r]=>one r
 |l=>match l.mapM one with
  |some vs=>aa (.aF vs)
  |none=>ah
def DE(ro:Nat)(f:FuncId)(args:List IV)(G:St):Option (Func×Env×Option IV×St):=
 match P.funcs[f]? with
 |some fn=>match fn.body with
  |some c=>
   if args.length>fn.ntmps then ah else
   let e:Env:=(args.zipIdx).foldl (λe (v,i)=>e.put (aa i) v) ⟨fn.ntmps,.lf⟩
   match S.code ro ah f c e [] G with
   |some ⟨.normal,e,df,G⟩|some ⟨.ret,e,df,G⟩=>match gW S ro df ah G with
    |some (m,G)=>aa (fn,e,m,G)
    |none=>ah
   |some ⟨.cd v,e,df,G⟩=>match gW S ro df (aa v) G with
    |some (m,G)=>aa (fn,e,m,G)
    |none=>ah
   |_=>ah
  |none=>ah
 |none=>ah
def R9(ro:Nat)(f:FuncId)(args:List IV)(G:St):Option (IV×St):=
 match DE P S ro f args G with
 |some (fn,e,ah,G)=>match cV P fn e G with
  |some v=>aa (v,G)
  |none=>ah
 |_=>ah
def YH(ro:Nat)(f:FuncId)(args:List IV)(G:St):Option (IV×St):=
 match DE P S ro f args G with
 |some (_,_,aa v,G)=>aa (v,G)
 |_=>ah
def oU(o:Oper):Bool:=
 match o.op with
 |.call {callee:=.builtin .recover,.. }=>ab
 |_=>af
def pL(ro:Nat)(ops:Array Oper):List Oper->Env->Option IV->St->Option (Env×Option IV×St)
 |[],e,m,G=>aa (e,m,G)
 |o::rest,e,m,G=>
  if aX o ops e then
   if oU o then
    match m with
    |some v=>pL ro ops rest (e.put o.dst v) ah G
    |none=>pL ro ops rest (e.put o.dst (.raw .nilIface)) ah G
   else match aA P ro (aB e) o G with
    |some (.val v G)=>pL ro ops rest (e.put o.dst v) m G
    |_=>ah
  else pL ro ops rest (e.put o.dst .undef) m G
def By(ro:Nat)(fn:FuncId):Code->Env->Option IV->St->Option (CR×Option IV)
 |.seq a b,e,m,G=>match By ro fn a e m G with
  |some (⟨.normal,e,[],G⟩,m)=>By ro fn b e m G
  |some (⟨.normal,_,_,_⟩,_)=>ah
  |r=>r
 |.region id ops draw,e,m,G=>
  if !draw&&ops.any oU then match pL P ro ops ops.toList e m G with
   |some (e,m,G)=>aa (⟨.normal,e,[],G⟩,m)
   |none=>ah
  else match S.code ro ah fn (.region id ops draw) e [] G with
   |some r=>aa (r,m)
   |none=>ah
 |c,e,m,G=>match S.code ro ah fn c e [] G with
  |some r=>aa (r,m)
  |none=>ah
def EB(ro:Nat)(f:FuncId)(args:List IV)(m:Option IV)(G:St):Option (Option IV×St):=
 match P.funcs[f]? with
 |some fn=>
  if !(fn.body.isSome&&fn.name != "runtime.NumGoroutine")then ah else
  match fn.body with
  |some c=>
   if args.length>fn.ntmps then ah else
   let e:Env:=(args.zipIdx).foldl (λe (v,i)=>e.put (aa i) v) ⟨fn.ntmps,.lf⟩
   match By P S ro f c e m G with
   |some (⟨.normal,e,[],G⟩,m)|some (⟨.ret,e,[],G⟩,m)=>match cV P fn e G with
    |some _=>aa (m,G)
    |none=>ah
   |_=>ah
  |none=>ah
 |none=>ah
end steps
def Self.none:Self:=⟨λ_ _ _ _ _ _ _=>azC,λ_ _ _ _=>azC,λ_ _ _ _=>azC,λ_ _ _ _ _=>azC⟩
def mX(P:Program)(S:Self):Self:=⟨xY P S,R9 P S,YH P S,EB P S⟩
def ev(P:Program)(n:Nat):Self:=Nat.rec Self.none (λ_ S=>mX P S) n
end Go.Ev
namespace Go.Ev
namespace T
variable{α:Type}
theorem xZ(l:T α)(v:Option α)(r:T α)(i:Nat):(T.nd l v r).get i=if i=0 then v else if i % 2=1 then l.get (i/2)else r.get (i/2- 1):=by
 simp[get,awV]
theorem WK(f:Nat)(l:T α)(v:Option α)(r:T α)(i:Nat)(x:α):sX (f+1) (T.nd l v r) i x=
 if i=0 then .nd l (aa x) r else if i % 2=1 then .nd (sX f l (i/2) x) v r else .nd l v (sX f r (i/2- 1) x):=by
 simp[sX,awV]
theorem WL(f:Nat)(i:Nat)(x:α):sX (f+1) (.lf:T α) i x=sX (f+1) (.nd .lf ah .lf) i x:=by
 simp[sX]
theorem ahZ(i:Nat):(T.lf:T α).get i=(T.nd .lf ah .lf:T α).get i:=by
 rw[xZ];simp[get]
theorem J3:∀(f:Nat) (t:T α) (i:Nat) (x:α) (j:Nat),i<f->(sX f t i x).get j=if i=j then aa x else t.get j:=by
 intro f;induction f with
 |zero=>intro t i x j h;omega
 |succ f ih=>
  intro t i x j h
  have key:∀(l:T α) (v:Option α) (r:T α),(sX (f+1) (.nd l v r) i x).get j=if i=j then aa x else(T.nd l v r).get j:=by
   intro l v r;rw[WK,xZ];by_cases hi:i=0
   .subst hi;rw[if_pos rfl,xZ];by_cases hj:j=0
    .subst hj;simp
    .have:¬0=j:=λh=>hj h.symm;simp[hj,this]
   .rw[if_neg hi];by_cases ho:i % 2=1
    .rw[if_pos ho,xZ];by_cases hj:j=0
     .subst hj;simp[hi]
     .by_cases lP:j % 2=1
      .simp only[hj,lP,if_false,if_true];rw[ih _ _ _ _ aj];by_cases e:i=j
       .simp[e]
       .have:i/2≠j/2:=aj;simp[e,this]
      .have:i≠j:=aj;simp[hj,lP,this]
    .rw[if_neg ho,xZ];by_cases hj:j=0
     .subst hj;simp[hi]
     .by_cases lP:j % 2=1
      .have:i≠j:=aj;simp[hj,lP,this]
      .simp only[hj,lP,if_false];rw[ih _ _ _ _ aj];by_cases e:i=j
       .simp[e]
       .have:i/2- 1≠j/2- 1:=aj;simp[e,this]
  cases t with
  |lf=>rw[WL,key,ahZ]
  |nd l v r=>exact key l v r
theorem gX(t:T α)(i:Nat)(x:α)(j:Nat):(t.set i x).get j=if i=j then aa x else t.get j:=J3 _ _ _ _ _ aj
@[simp] theorem avl(j:Nat):(T.lf:T α).get j=ah:=rfl
end T
theorem gp{α:Type}{P:Program}(w:World):∀(s:Sem α) {a:α},aH P s=aa a->s.run P w=.ok a w
 |.pure _,_,h=>by simp only[aH,awf]at h;subst h;rfl
 |.program k,_,h=>by simp only[aH]at h;simp only[axX];exact gp w (k P) h
 |.mark m k,_,h=>by simp only[aH]at h;simp only[axX];exact gp w k h
 |.load ..,_,h|.store ..,_,h|.new ..,_,h|.shape ..,_,h|.freeze ..,_,h|.frozen ..,_,h|.getObj ..,_,h|.setObj ..,_,h|.choose ..,_,h|.sys ..,_,h|.halt ..,_,h=>by cases h
structure Loc where
 b:Nat
 n:Nat
 DF:Nat
abbrev Fz:=Nat->Option (Array Value)
structure Io where
 f:Nat->Nat->Option Loc
 m:Fz
instance:CoeFun Io (λ_=>Nat->Nat->Option Loc):=⟨Io.f⟩
structure Ext(Z aK:Io):Prop where
 f:∀id e l,Z id e=aa l->aK id e=aa l
 m:∀b c,Z.m b=aa c->aK.m b=aa c
instance{Z aK:Io}:CoeFun (Ext Z aK) (λ_=>∀id e l,Z id e=aa l->aK id e=aa l):=⟨Ext.f⟩
theorem Ext.refl(Z:Io):Ext Z Z:=⟨λ_ _ _ h=>h,λ_ _ h=>h⟩
theorem Ext.trans{Z bO sE:Io}(h:Ext Z bO)(k:Ext bO sE):Ext Z sE:=⟨λ_ _ _ x=>k.f _ _ _ (h.f _ _ _ x),λ_ _ x=>k.m _ _ (h.m _ _ x)⟩
def qq(M:Fz)(b off:Nat):Option Value:=(M b).bind (·[off]?)
theorem EC{M M':Fz}(h:∀b c,M b=aa c->M' b=aa c){b off:Nat}{v:Value}(hc:qq M b off=aa v):qq M' b off=aa v:=by
 unfold qq at hc⊢;cases hb:M b with
 |none=>rw[hb]at hc;cases hc
 |some c=>rw[hb]at hc;rw[h b c hb];exact hc
inductive Rv(Z:Io):IV->Value->Prop
 |raw (v:Value):Rv Z (.raw v) v
 |agg (cs:List IV) (vs:List Value) (hl:cs.length=vs.length) (h:∀(i:Nat) (c:IV) (v:Value),cs[i]?=aa c->vs[i]?=aa v->Rv Z c v):Rv Z (.agg cs) (.agg vs.toArray)
 |aF (cs:List IV) (vs:List Value) (hl:cs.length=vs.length) (h:∀(i:Nat) (c:IV) (v:Value),cs[i]?=aa c->vs[i]?=aa v->Rv Z c v):Rv Z (.aF cs) (.tuple vs.toArray)
 |ptr (id off ep ext:Nat) (l:Loc) (hl:Z id ep=aa l) (hx:off+ext<=l.n/\off+ext<=l.DF):Rv Z (.ptr id off ep ext) (.pointer (aa ⟨l.b,off,ah⟩))
 |sl (id off len:Nat) (cap:Option Nat) (ep s:Nat) (l:Loc) (c:Nat) (a:Addr) (hl:Z id ep=aa l) (hn:off+len*s<=l.n) (kc:off+c*s<=l.DF) (hs:0<s) (hle:len<=c)
   (jG:∀k,cap=aa k->c=k/\off+c*s<=l.n) (ha:0<c->a=⟨l.b,off,ah⟩):Rv Z (.sl id off len cap ep s) (.slice (aa a) len c)
 |emp (a:Addr):Rv Z .emp (.slice (aa a) 0 0)
 |map (id:Nat) (l:Loc) (hl:Z id 0=aa l):Rv Z (.map id) (.map (aa l.b))
 |fn (f:Fn) (as bs:List IV) (cs ds:List Value) (hl:as.length=cs.length) (h:∀(i:Nat) (c:IV) (v:Value),as[i]?=aa c->cs[i]?=aa v->Rv Z c v)
   (gg:bs.length=ds.length) (h2:∀(i:Nat) (c:IV) (v:Value),bs[i]?=aa c->ds[i]?=aa v->Rv Z c v):Rv Z (.fn f as bs) (.func f cs.toArray ds.toArray)
 |sD (id:Nat) (l:Loc) (hl:Z id 0=aa l):Rv Z (.sD id) (.func (.yield l.b) #[] #[])
 |dK (t:TypeId) (x:IV) (v:Value) (h:Rv Z x v):Rv Z (.dK t x) (.iface t v)
 |tree (s:Nat) (es:List IV) (b off c:Nat) (us:Nat->Value) (hs:0<s) (hc:es.length<=c) (bD:∀e∈es,(cellsOf e).length=s)
   (hu:∀k,k<es.length*s->qq Z.m b (off+k)=aa (us k)) (h:∀(i:Nat) (e:IV) (j:Nat) (c:IV),es[i]?=aa e->(cellsOf e)[j]?=aa c->Rv Z c (us (i*s+j))):
   Rv Z (.tree s es) (.slice (aa ⟨b,off,ah⟩) es.length c)
 |eB (s:Nat) (a:Option Addr) (c:Nat) (hs:0<s) (hn:a=ah->c=0):Rv Z (.tree s []) (.slice a 0 c)
 |mS (cs:List IV) (b off:Nat) (us:Nat->Value) (hu:∀k,k<cs.length->qq Z.m b (off+k)=aa (us k)) (h:∀(j:Nat) (c:IV),cs[j]?=aa c->Rv Z c (us j)):
   Rv Z (.mS cs) (.pointer (aa ⟨b,off,ah⟩))
theorem Rv.mono{Z aK:Io}(iK:Ext Z aK){x:IV}{v:Value}(h:Rv Z x v):Rv aK x v:=by
 induction h with
 |raw v=>exact .raw v
 |agg cs vs hl _ ih=>exact .agg cs vs hl ih
 |aF cs vs hl _ ih=>exact .aF cs vs hl ih
 |ptr id off ep ext l hl hx=>exact .ptr id off ep ext l (iK _ _ _ hl) hx
 |sl id off len cap ep s l c a hl hn kc hs hle jG ha=>exact .sl id off len cap ep s l c a (iK _ _ _ hl) hn kc hs hle jG ha
 |emp a=>exact .emp a
 |map id l hl=>exact .map id l (iK _ _ _ hl)
 |fn f as bs cs ds hl _ gg _ ih fL=>exact .fn f as bs cs ds hl ih gg fL
 |sD id l hl=>exact .sD id l (iK _ _ _ hl)
 |dK t x v _ ih=>exact .dK t x v ih
 |tree s es b off c us hs hc bD hu _ ih=>exact .tree s es b off c us hs hc bD (λk hk=>EC iK.m (hu k hk)) ih
 |eB s a c hs hn=>exact .eB s a c hs hn
 |mS cs b off us hu _ ih=>exact .mS cs b off us (λk hk=>EC iK.m (hu k hk)) ih
def aL(Z:Io)(cs:List IV)(vs:List Value):Prop:=cs.length=vs.length/\∀(i:Nat) (c:IV) (v:Value),cs[i]?=aa c->vs[i]?=aa v->Rv Z c v
section lists
variable{Z:Io}
theorem aL.mono{aK:Io}(iK:Ext Z aK){cs:List IV}{vs:List Value}(h:aL Z cs vs):aL aK cs vs:=
 ⟨h.1,λi c v h1 h2=>(h.2 i c v h1 h2).mono iK⟩
theorem aL.nil:aL Z [] []:=⟨rfl,λi c v h _=>by simp at h⟩
theorem aL.cons{c:IV}{v:Value}{cs:List IV}{vs:List Value}(h:Rv Z c v)(hs:aL Z cs vs):aL Z (c::cs) (v::vs):=by
 refine⟨by simp[hs.1],λi=>?_⟩;cases i with
 |zero=>intro c' v' h1 h2;simp at h1 h2;subst h1 h2;exact h
 |succ i=>intro c' v' h1 h2;simp at h1 h2;exact hs.2 i c' v' h1 h2
theorem aL.x_{c:IV}{cs:List IV}{vs:List Value}(h:aL Z (c::cs) vs):∃v zf,vs=v::zf/\Rv Z c v/\aL Z cs zf:=by
 cases vs with
 |nil=>simp[aL]at h
 |cons v zf=>exact⟨v,zf,rfl,h.2 0 c v rfl rfl,by simpa[aL]using h.1,λi c' v' h1 h2=>h.2 (i+1) c' v' h1 h2⟩
theorem aL.of_nil{vs:List Value}(h:aL Z [] vs):vs=[]:=awG h.1.symm
theorem aL.append{cs ds:List IV}{vs us:List Value}(h:aL Z cs vs)(k:aL Z ds us):aL Z (cs++ds) (vs++us):=by
 refine⟨by simp[h.1,k.1],λi c v h1 h2=>?_⟩;by_cases hi:i<cs.length
 .rw[awp hi]at h1;rw[awp (h.1▸hi)]at h2;exact h.2 i c v h1 h2
 .rw[awD aj]at h1;rw[awD (by have:=h.1;omega),<-h.1]at h2;exact k.2 _ c v h1 h2
theorem aL.drop(n:Nat){cs:List IV}{vs:List Value}(h:aL Z cs vs):aL Z (cs.drop n) (vs.drop n):=
 ⟨by simp[h.1],λi c v h1 h2=>h.2 (n+i) c v (by simpa using h1) (by simpa using h2)⟩
theorem aL.take(n:Nat){cs:List IV}{vs:List Value}(h:aL Z cs vs):aL Z (cs.take n) (vs.take n):=by
 refine⟨by simp[h.1],λi c v h1 h2=>?_⟩;rw[awR]at h1 h2;split at h1
 .rename_i hi;rw[if_pos hi]at h2;exact h.2 i c v h1 h2
 .cases h1
theorem aL.eG(off:Nat){cs ds:List IV}{vs us:List Value}(h:aL Z cs vs)(k:aL Z ds us):aL Z (eG cs off ds) (vs.take off++us++vs.drop (off+us.length)):=by
 unfold Ev.eG;rw[k.1];exact((h.take off).append k).append (h.drop _)
theorem aL.get{cs:List IV}{vs:List Value}(h:aL Z cs vs){i:Nat}{c:IV}(hc:cs[i]?=aa c):∃v,vs[i]?=aa v/\Rv Z c v:=by
 have hi:i<vs.length:=by have:=(awa.1 hc).1;have:=h.1;omega
 exact⟨vs[i],av_ hi,h.2 i c _ hc (av_ hi)⟩
theorem aL.vi(vs:List Value):aL Z (vs.map .raw) vs:=by
 refine⟨by simp,λi c v h1 h2=>?_⟩;simp only[awu,h2,awQ,awf]at h1;subst h1;exact .raw v
theorem aL.of_map{α:Type}{f:α->IV}{g:α->Value}{l:List α}(h:∀a∈l,Rv Z (f a) (g a)):aL Z (l.map f) (l.map g):=by
 refine⟨by simp,λi c v h1 h2=>?_⟩;simp only[awu,awj]at h1 h2;obtain⟨a,ha,rfl⟩:=h1;obtain⟨b,hb,rfl⟩:=h2;rw[ha]at hb;cases hb;exact h a (awq ha)
end lists
section shapes
variable{Z:Io}
theorem Rv.lift(v:Value):Rv Z (Ev.lift v) v:=by
 unfold Ev.lift;split
 .rename_i cs;have:=Rv.agg (Z:=Z) (cs.toList.map .raw) cs.toList ay (aL.vi cs.toList).2;simpa using this
 .exact .raw _
theorem C3:∀{cs:List IV} {us:List Value},kR cs=aa us->∀{vs:List Value},aL Z cs vs->vs=us
 |[],us,h,vs,hr=>by simp only[kR,awf]at h;subst h;exact hr.of_nil
 |c::cs,us,h,vs,hr=>by
  obtain⟨v,zf,rfl,h1,h2⟩:=hr.x_;simp only[kR]at h;split at h
  .split at h
   .rename_i u wA hu;simp only[awf]at h;subst h;cases h1;rw[C3 hu h2]
   .cases h
  .cases h
theorem PD{x:IV}{u v:Value}(h:qV x=aa u)(hr:Rv Z x v):v=u:=by
 unfold qV at h;split at h
 .cases hr;simpa using h
 .split at h
  .rename_i us hu;cases hr with
   |agg cs vs hl hh=>
    simp only[awf]at h;subst h;rw[C3 hu ⟨hl,hh⟩]
  .cases h
 .cases h
theorem ED{x:IV}{u v:Value}(h:lr x=aa u)(hr:Rv Z x v):v=u:=by
 unfold lr at h;split at h
 .split at h
  .rename_i hu;cases hr with
   |dK t x v hh=>
    simp only[awf]at h;subst h;rw[PD hu hh]
  .cases h
 .exact PD h hr
theorem Rv.cells{x:IV}{v:Value}(h:Rv Z x v)(hx:∀u,x=.raw u->∀c,u≠.agg c):aL Z (cellsOf x) v.cells.toList:=by
 cases h with
 |agg cs vs hl hh=>exact⟨hl,hh⟩
 |raw v=>
  have:v.cells= #[v]:=by
   cases v<;>first|rfl|exact absurd rfl (hx _ rfl _)
  simp only[cellsOf,this];exact aL.cons (.raw v) aL.nil
 |aF cs vs hl hh=>exact aL.cons (.aF cs vs hl hh) aL.nil
 |ptr id off ep ext l hl jQ=>exact aL.cons (.ptr id off ep ext l hl jQ) aL.nil
 |sl id off len cap ep s l c a hl hn kc hs hle jG ha=>exact aL.cons (.sl id off len cap ep s l c a hl hn kc hs hle jG ha) aL.nil
 |emp a=>exact aL.cons (.emp a) aL.nil
 |map id l hl=>exact aL.cons (.map id l hl) aL.nil
 |fn f as bs cs ds hl h1 gg h2=>exact aL.cons (.fn f as bs cs ds hl h1 gg h2) aL.nil
 |sD id l hl=>exact aL.cons (.sD id l hl) aL.nil
 |dK t x v h=>exact aL.cons (.dK t x v h) aL.nil
 |tree s es b off c us hs hc bD hu h=>exact aL.cons (.tree s es b off c us hs hc bD hu h) aL.nil
 |eB s a c hs hn=>exact aL.cons (.eB s a c hs hn) aL.nil
 |mS cs b off us hu h=>exact aL.cons (.mS cs b off us hu h) aL.nil
theorem Rv.EE{x:IV}{v:Value}(h:Rv Z x v)(hx:(cellsOf x).all ao=ab):aL Z (cellsOf x) v.cells.toList:=by
 refine h.cells λu hu c hc=>?_;subst hu hc;simp[cellsOf,ao]at hx
theorem aa_{x:IV}{v:Value}(h:Rv Z x v)(hx:ao x=ab):(∀c,v≠.agg c)/\(∀c,v≠.tuple c):=by
 cases h<;>first|(simp[ao]at hx;done)|(constructor<;>(intro c hc;first|(cases hc;done)|(subst hc;simp[ao]at hx;done)))
end shapes
end Go.Ev
namespace Go.Ev
def Own(Z:Io)(id b:Nat):Prop:=∃e l,Z id e=aa l/\l.b=b
def iN(Z:Io)(es:List (Value×IV×Nat))(res:Array MapEntry):Prop:=
 es.length=res.size/\∀(i:Nat) (e:Value×IV×Nat) (r:MapEntry),es[i]?=aa e->res[i]?=aa r->r.key=e.1/\Rv Z e.2.1 r.val/\r.born=e.2.2
def l8(Z:Io)(w:World)(id:Nat):Ob->Prop
 |.cells cs ep mn=>(mn<=ep/\∀e,ep<e->Z id e=ah)/\(∃l,Z id ep=aa l/\l.n=cs.length)/\∀e,mn<=e->e<=ep->∃l c el,Z id e=aa l/\l.n<=cs.length/\w.heap[l.b]?=aa (.cells c el (0,0))/\
   l.DF=c.size/\∀k x,k<l.n->cs[k]?=aa x->∃u,c[k]?=aa u/\Rv Z x u
 |.map es clock=>∃l res,Z id 0=aa l/\w.heap[l.b]?=aa (.map res clock)/\iN Z es res
 |.rW s pos=>∃l,Z id 0=aa l/\w.heap[l.b]?=aa (.stringIter s pos)
 |.kG m since seen Ag=>∃l mr,Z id 0=aa l/\w.heap[l.b]?=aa (.mapIter mr since seen.toArray Ag)/\
   (match m with|none=>mr=ah|some m=>∃lm,Z m 0=aa lm/\mr=aa lm.b)
 |.loop st C4 _ tm lO ps gD bd fT=>∃l ld ts f,Z id 0=aa l/\Z fT 0=aa ld/\
   w.heap[l.b]?=aa (.loop {state:=st,pending:=C4,fn:=f,tmps:=ts,params:=ps.toArray,assign:=gD,body:=bd,defers:=ld.b})/\
   ts.size=lO/\∀t,Rv Z ((tm.get t).getD .undef) (ts.getD t awT)
 |.Gp taken=>∃l,Z id 0=aa l/\w.heap[l.b]?=aa (.deferred (if taken then ah else aa []))
structure Inv(N:Nat)(Z:Io)(G:St)(w:World):Prop where
 mem:∀b c,Z.m b=aa c->∃e f,w.heap[b]?=aa (.cells c e f)
 sep:∀b c id,Z.m b=aa c->¬Own Z id b
 gE:∀id b,Own Z id b->b<w.heap.size
 fresh:∀id,G.n<=id->id<N->∀e,Z id e=ah
 inj:∀i j b,Own Z i b->Own Z j b->i=j
 obj:∀id o,G.at id=aa o->l8 Z w id o
 wf:∀id,G.n<=id->G.at id=ah
structure Le(ro:Nat)(Z:Io)(w:World)(G:St)(aK:Io)(w':World)(au:St):Prop where
 ext:Ext Z aK
 own:∀id b,Own aK id b->Own Z id b\/w.heap.size<=b
 Bz:∀id,G.at id=ah->(id<G.n\/au.n<=id)->∀e,aK id e=Z id e
 dead:∀id,G.at id=ah->(id<G.n\/au.n<=id)->au.at id=ah
 yN:∀id,id<ro->id<G.n->au.at id=G.at id
 yO:G.n<=au.n
 os:w'.os=w.os
 tape:w'.tape=w.tape
 output:w'.output=w.output
 size:w.heap.size<=w'.heap.size
 frame:∀b,b<w.heap.size->(∀id,Own Z id b->id<ro\/G.at id=ah)->w'.heap[b]?=w.heap[b]?
 yP:∀b c,aK.m b=aa c->Z.m b=aa c\/w.heap.size<=b
theorem Le.refl(ro:Nat)(Z:Io)(w:World)(G:St):Le ro Z w G Z w G:=
 ⟨Ext.refl _,λ_ _ h=>.inl h,λ_ _ _ _=>rfl,λ_ h _=>h,λ_ _ _=>rfl,awe _,rfl,rfl,rfl,awe _,λ_ _ _=>rfl,λ_ _ h=>.inl h⟩
theorem Le.trans{ro:Nat}{Z bO sE:Io}{w w1 w2:World}{G av cK:St}(hf:∀id,G.n<=id->id<av.n->∀e,Z id e=ah)
 (h:Le ro Z w G bO w1 av)(k:Le ro bO w1 av sE w2 cK):Le ro Z w G sE w2 cK where
 ext:=h.ext.trans k.ext
 own:=λid b hb=>(k.own id b hb).elim (λhb=>h.own id b hb) (λhb=>.inr (awy h.size hb))
 Bz:=λid hn hr e=>(k.Bz id (h.dead id hn (by have:=k.yO;omega)) (by have:=h.yO;omega) e).trans (h.Bz id hn (by have:=k.yO;omega) e)
 dead:=λid hn hr=>k.dead id (h.dead id hn (by have:=k.yO;omega)) (by have:=h.yO;omega)
 yN:=λid hr hn=>(k.yN id hr (by have:=h.yO;omega)).trans (h.yN id hr hn)
 yO:=awy h.yO k.yO
 os:=k.os.trans h.os
 tape:=k.tape.trans h.tape
 output:=k.output.trans h.output
 size:=awy h.size k.size
 frame:=λb hb hc=>by
  rw[k.frame b (axV hb h.size) ?_,h.frame b hb hc];intro id hid;rcases h.own id b hid with ho|ho
  .rcases hc id ho with ak|hd
   .exact .inl ak
   .right;refine h.dead id hd ?_;by_cases hn:id<G.n
    .exact .inl hn
    .by_cases dW:id<av.n
     .obtain⟨e,l,hl,_⟩:=ho;rw[hf id aj dW e]at hl;cases hl
     .exact .inr aj
  .omega
 yP:=λb c hb=>(k.yP b c hb).elim (λhb=>h.yP b c hb) (λhb=>.inr (awy h.size hb))
theorem iN.mono{Z aK:Io}(iK:Ext Z aK){es:List (Value×IV×Nat)}{res:Array MapEntry}(h:iN Z es res):iN aK es res:=
 ⟨h.1,λi e r h1 h2=>let⟨a,b,c⟩:=h.2 i e r h1 h2;⟨a,b.mono iK,c⟩⟩
theorem l8.vj{Z aK:Io}{w w':World}{id:Nat}(iK:Ext Z aK)(hid:∀e,aK id e=Z id e)(hb:∀b,Own Z id b->w'.heap[b]?=w.heap[b]?):
 ∀{o:Ob},l8 Z w id o->l8 aK w' id o
 |.cells cs ep mn,h=>by
  obtain⟨h1,⟨l,hl,hn⟩,h3⟩:=h;refine⟨⟨h1.1,λe he=>(hid e).trans (h1.2 e he)⟩,⟨l,iK _ _ _ hl,hn⟩,λe he fM=>?_⟩;obtain⟨l,c,el,hl,hn,hc,kc,hk⟩:=h3 e he fM;refine⟨l,c,el,iK _ _ _ hl,hn,by rw[hb _ ⟨e,l,hl,rfl⟩];exact hc,kc,λk x ya hx=>?_⟩;obtain⟨u,hu,hr⟩:=hk k x ya hx;exact⟨u,hu,hr.mono iK⟩
 |.map es clock,h=>by
  obtain⟨l,res,hl,hh,he⟩:=h;exact⟨l,res,iK _ _ _ hl,by rw[hb _ ⟨0,l,hl,rfl⟩];exact hh,he.mono iK⟩
 |.rW s pos,h=>by
  obtain⟨l,hl,hh⟩:=h;exact⟨l,iK _ _ _ hl,by rw[hb _ ⟨0,l,hl,rfl⟩];exact hh⟩
 |.kG m since seen Ag,h=>by
  obtain⟨l,mr,hl,hh,hm⟩:=h;refine⟨l,mr,iK _ _ _ hl,by rw[hb _ ⟨0,l,hl,rfl⟩];exact hh,?_⟩;cases m with
  |none=>exact hm
  |some m=>obtain⟨lm,h1,h2⟩:=hm;exact⟨lm,iK _ _ _ h1,h2⟩
 |.loop st C4 f tm lO ps gD bd fT,h=>by
  obtain⟨l,ld,ts,f,hl,hd,hh,hs,ht⟩:=h;exact⟨l,ld,ts,f,iK _ _ _ hl,iK _ _ _ hd,by rw[hb _ ⟨0,l,hl,rfl⟩];exact hh,hs,λt=>(ht t).mono iK⟩
 |.Gp taken,h=>by
  obtain⟨l,hl,hh⟩:=h;exact⟨l,iK _ _ _ hl,by rw[hb _ ⟨0,l,hl,rfl⟩];exact hh⟩
@[simp] theorem St.cW(G:St)(id:Nat)(o:Ob)(j:Nat):(G.put id o).at j=if id=j then aa o else G.at j:=by simp[St.at,St.put,T.gX]
@[simp] theorem St.iO(G:St)(o:Ob)(j:Nat):(G.add o).at j=if G.n=j then aa o else G.at j:=by simp[St.at,St.add,T.gX]
@[simp] theorem St.mY(G:St)(id:Nat)(o:Ob):(G.put id o).n=G.n:=rfl
@[simp] theorem St.o5(G:St)(o:Ob):(G.add o).n=G.n+1:=rfl
theorem Inv.change{N:Nat}{Z aK:Io}{G au:St}{w w':World}{sF:Nat}{fp:Ob}(h:Inv N Z G w)
 (iK:Ext Z aK)(uj:∀i,i≠sF->∀e,aK i e=Z i e)(o6:∀id b,Own aK id b->Own Z id b\/(id=sF/\w.heap.size<=b))
 (adL:∀b,Own aK sF b->b<w'.heap.size)(bf:w.heap.size<=w'.heap.size)
 (R_:∀b,b<w.heap.size->¬Own Z sF b->w'.heap[b]?=w.heap[b]?)(eK:l8 aK w' sF fp)
 (aM:∀j,au.at j=if sF=j then aa fp else G.at j)(hn:G.n<=au.n/\sF<au.n)(qW:∀id,au.n<=id->id<N->∀e,aK id e=ah)(hm:aK.m=Z.m:=by rfl):Inv N aK au w' where
 mem:=λb c hb=>by
  rw[hm]at hb;obtain⟨e,f,hh⟩:=h.mem b c hb
  have ak:b<w.heap.size:=by
   rcases aBw b w.heap.size with ak|Ax
   .exact ak
   .rw[ayA Ax]at hh;cases hh
  exact⟨e,f,by rw[R_ b ak (h.sep b c sF hb)];exact hh⟩
 sep:=λb c id hb ho=>by
  rw[hm]at hb;rcases o6 id b ho with ho|⟨_,ho⟩
  .exact h.sep b c id hb ho
  .obtain⟨e,f,hh⟩:=h.mem b c hb;rw[ayA ho]at hh;cases hh
 gE:=λid b ho=>by
  rcases o6 id b ho with Sa|⟨rfl,_⟩
  .exact axV (h.gE id b Sa) bf
  .exact adL b ho
 fresh:=qW
 inj:=λi j b hi hj=>by
  rcases o6 i b hi with cw|⟨rfl,cw⟩<;>rcases o6 j b hj with nW|⟨rfl,nW⟩
  .exact h.inj i j b cw nW
  .exact absurd (h.gE i b cw) aj
  .exact absurd (h.gE j b nW) aj
  .rfl
 obj:=λid o ho=>by
  rw[aM]at ho;split at ho
  .rename_i e;subst e;cases ho;exact eK
  .rename_i bg;refine(h.obj id o ho).vj iK (uj id (Ne.symm bg)) λb hb=>?_;refine R_ b (h.gE id b hb) λhb0=>bg (h.inj sF id b hb0 hb)
 wf:=λid hid=>by
  rw[aM,if_neg aj];exact h.wf id aj
theorem Inv.same{N:Nat}{Z:Io}{G:St}{w w':World}(h:Inv N Z G w)(hh:w'.heap=w.heap):Inv N Z G w' where
 mem:=λb c hb=>by rw[hh];exact h.mem b c hb
 sep:=h.sep
 gE:=λid b ho=>by rw[hh];exact h.gE id b ho
 fresh:=h.fresh
 inj:=h.inj
 obj:=λid o ho=>(h.obj id o ho).vj (Ext.refl _) (λ_=>rfl) λb _=>by rw[hh]
 wf:=h.wf
theorem Le.same{ro:Nat}{Z:Io}{G:St}{w w':World}(hh:w'.heap=w.heap)(ho:w'.os=w.os)(ht:w'.tape=w.tape)(hp:w'.output=w.output):Le ro Z w G Z w' G:=
 ⟨Ext.refl _,λ_ _ h=>.inl h,λ_ _ _ _=>rfl,λ_ h _=>h,λ_ _ _=>rfl,awe _,ho,ht,hp,by rw[hh];exact awe _,λ_ _ _=>by rw[hh],λ_ _ h=>.inl h⟩
def eJ(Z:Io)(id ep:Nat)(l:Loc):Io:=⟨λi e=>if i=id/\e=ep then aa l else Z i e,Z.m⟩
theorem cE(Z:Io)(id ep:Nat)(l:Loc):eJ Z id ep l id ep=aa l:=by simp[eJ]
theorem l9{Z:Io}{id ep:Nat}{l:Loc}(h:Z id ep=ah):Ext Z (eJ Z id ep l):=by
 refine⟨?_,λ_ _ h=>h⟩;intro i e l' hl;show(if i=id/\e=ep then aa l else Z i e)=aa l';split
 .rename_i hh;rw[hh.1,hh.2,h]at hl;cases hl
 .exact hl
theorem o7{Z:Io}{id ep:Nat}{l:Loc}{i b:Nat}(h:Own (eJ Z id ep l) i b):Own Z i b\/(i=id/\b=l.b):=by
 obtain⟨e,l',hl,hb⟩:=h;change(if i=id/\e=ep then aa l else Z i e)=aa l' at hl;split at hl
 .rename_i hh;cases hl;exact .inr ⟨hh.1,hb.symm⟩
 .exact .inl ⟨e,l',hl,hb⟩
theorem Inv.add{N ro:Nat}{Z:Io}{G:St}{w w':World}{o:aAk}{ob:Ob}{l:Loc}(h:Inv N Z G w)(hN:G.n<N)(hw:w'.heap=w.heap.push o)
 (yb:w'.os=w.os)(GJ:w'.tape=w.tape)(GK:w'.output=w.output)(hl:l.b=w.heap.size)(eK:l8 (eJ Z G.n 0 l) w' G.n ob):
 Inv N (eJ Z G.n 0 l) (G.add ob) w'/\Le ro Z w G (eJ Z G.n 0 l) w' (G.add ob):=by
 have jT:=h.fresh G.n (awe _) hN;have bf:w'.heap.size=w.heap.size+1:=by rw[hw];simp
 have hold:∀b,b<w.heap.size->w'.heap[b]?=w.heap[b]? :=λb hb=>by rw[hw,ayK,if_neg aj]
 refine⟨h.change (sF:=G.n) (l9 (jT 0)) (λi hi e=>by simp[eJ,hi]) ?_ ?_ aj (λb hb _=>hold b hb) eK (λj=>by simp) ⟨by simp,by simp⟩ ?_,?_⟩
 .intro id b hb;rcases o7 hb with hb|⟨h1,h2⟩
  .exact .inl hb
  .exact .inr ⟨h1,by omega⟩
 .intro b hb;rcases o7 hb with hb|⟨h1,h2⟩
  .have:=h.gE _ _ hb;omega
  .omega
 .intro id hid ak e;simp only[St.o5]at hid;have:id≠G.n:=aj;simp[eJ,this,h.fresh id aj ak e]
 .refine⟨l9 (jT 0),?_,?_,?_,?_,by simp,yb,GJ,GK,by omega,λb hb _=>hold b hb,λ_ _ h=>.inl h⟩
  .intro id b hb;rcases o7 hb with hb|⟨h1,h2⟩
   .exact .inl hb
   .exact .inr aj
  .intro id hn hr e;simp only[St.o5]at hr;have:id≠G.n:=aj;simp[eJ,this]
  .intro id hn hr;simp only[St.o5]at hr;have:G.n≠id:=aj;simp[this,hn]
  .intro id hr hn;have:G.n≠id:=aj;simp[this]
theorem Inv.push{N ro:Nat}{Z:Io}{G:St}{w w':World}{o:aAk}(h:Inv N Z G w)(hw:w'.heap=w.heap.push o)
 (yb:w'.os=w.os)(GJ:w'.tape=w.tape)(GK:w'.output=w.output):Inv N Z G w'/\Le ro Z w G Z w' G:=by
 have bf:w'.heap.size=w.heap.size+1:=by rw[hw];simp
 have hold:∀b,b<w.heap.size->w'.heap[b]?=w.heap[b]? :=λb hb=>by rw[hw,ayK,if_neg aj]
 refine⟨⟨λb c hb=>?_,h.sep,λid b ho=>by have:=h.gE id b ho;omega,h.fresh,h.inj,λid o ho=>(h.obj id o ho).vj (Ext.refl _) (λ_=>rfl) λb hb=>hold b (h.gE _ _ hb),h.wf⟩,?_⟩
 .obtain⟨e,f,hh⟩:=h.mem b c hb;refine⟨e,f,?_⟩;rw[hold b ?_];exact hh;rcases aBw b w.heap.size with ak|Ax
  .exact ak
  .rw[ayA Ax]at hh;cases hh
 .exact⟨Ext.refl _,λ_ _ h=>.inl h,λ_ _ _ _=>rfl,λ_ h _=>h,λ_ _ _=>rfl,awe _,yb,GJ,GK,by omega,λb hb _=>hold b hb,λ_ _ h=>.inl h⟩
theorem Inv.put{N ro:Nat}{Z aK:Io}{G:St}{w w':World}{id:Nat}{ob fp:Ob}(h:Inv N Z G w)(aM:G.at id=aa ob)(ej:ro<=id)(hid:∃e l,Z id e=aa l)
 (iK:Ext Z aK)(YI:∀i,i≠id->∀e,aK i e=Z i e)(o6:∀b,Own aK id b->Own Z id b\/(w.heap.size<=b/\b<w'.heap.size))
 (bf:w.heap.size<=w'.heap.size)(R_:∀b,b<w.heap.size->¬Own Z id b->w'.heap[b]?=w.heap[b]?)
 (yb:w'.os=w.os)(GJ:w'.tape=w.tape)(GK:w'.output=w.output)(eK:l8 aK w' id fp)(hm:aK.m=Z.m:=by rfl):
 Inv N aK (G.put id fp) w'/\Le ro Z w G aK w' (G.put id fp):=by
 obtain⟨e0,l0,iP⟩:=hid;have bg:∀i,(∀e,Z i e=ah)->i≠id:=λi hn hi=>by rw[hi]at hn;rw[hn e0]at iP;cases iP
 have hd:∀i,(∀e,Z i e=ah)->∀e,aK i e=ah:=λi hn e=>(YI i (bg i hn) e).trans (hn e)
 have Lw:∀i b,Own aK i b->Own Z i b\/(i=id/\w.heap.size<=b/\b<w'.heap.size):=by
  intro i b hb;by_cases hi:i=id
  .subst hi;rcases o6 b hb with hb|hb
   .exact .inl hb
   .exact .inr ⟨rfl,hb⟩
  .obtain⟨e,l,hl,WM⟩:=hb;rw[YI i hi e]at hl;exact .inl ⟨e,l,hl,WM⟩
 refine⟨h.change (sF:=id) iK YI (λi b hb=>(Lw i b hb).imp (λx=>x) (λx=>⟨x.1,x.2.1⟩)) ?_ bf R_ eK (λj=>by simp) ⟨by simp,by rw[St.mY];exact Nat.lt_of_not_le λhle=>by rw[h.wf id hle]at aM;cases aM⟩ ?_ hm,?_⟩
 .intro b hb;rcases o6 b hb with hb|hb
  .exact axV (h.gE _ _ hb) bf
  .exact hb.2
 .intro i hi ak e;exact hd i (h.fresh i hi ak) e
 .refine⟨iK,λi b hb=>(Lw i b hb).imp (λx=>x) (λx=>x.2.1),?_,?_,?_,by simp,yb,GJ,GK,bf,?_,λb c hb=>.inl (by rw[<-hm];exact hb)⟩
  .intro i hn _ e;exact YI i (λhi=>by subst hi;rw[aM]at hn;cases hn) e
  .intro i hn _;have:id≠i:=λhi=>by subst hi;rw[aM]at hn;cases hn
   simp[this,hn]
  .intro i hr _;have:id≠i:=aj;simp[this]
  .intro b hb hc;refine R_ b hb λho=>?_;rcases hc id ho with h1|h1
   .omega
   .rw[aM]at h1;cases h1
section
variable{P:Program}{N:Nat}{Z:Io}{w:World}{G:St}
theorem fE{t:TypeId}{s:Nat}(h:aW P t=aa s)(w:World):(sizeOf t).run P w=.ok s w:=by
 unfold aW at h;cases hi:P.info? t with
 |none=>simp[hi]at h
 |some i=>simp[hi]at h;simp[sizeOf,typeInfo,hi,h]
theorem l_{t:TypeId}{z:Value}(h:cZ P t=aa z)(w:World):(zeroValue t).run P w=.ok z w:=by
 unfold cZ at h;cases hi:P.info? t with
 |none=>simp[hi]at h
 |some i=>simp[hi]at h;simp[zeroValue,typeInfo,hi,h]
theorem bC{t:TypeId}{d:TypeDesc}(h:P.underlying t=aa d)(w:World):(underlying t).run P w=.ok d w:=by simp[underlying,h]
theorem EF{t:TypeId}{b:Bool}(h:sY P t=aa b)(w:World):(isAgg t).run P w=.ok b w:=by
 unfold sY at h;cases hu:P.underlying t with
 |none=>simp[hu]at h
 |some d=>
  simp[hu]at h;simp only[isAgg,awn,bC hu,awg];cases d<;>simp at h<;>subst h<;>rfl
theorem GL{t:TypeId}{n:Nat}(h:(P.info? t).map (·.bytes)=aa n)(w:World):∃i,P.info? t=aa i/\i.bytes=n/\(typeInfo t).run P w=.ok i w:=by
 cases hi:P.info? t with
 |none=>simp[hi]at h
 |some i=>simp[hi]at h;exact⟨i,rfl,h,by simp[typeInfo,hi]⟩
theorem iQ(b off n:Nat):(⟨b,off,ah⟩:Addr).add n=⟨b,off+n,ah⟩:=by
 unfold Addr.add;split<;>simp_all
theorem cell_of{b off:Nat}{c:Array Value}{el:TypeId}{f:Nat×Nat}(h:w.heap[b]?=aa (.cells c el f)):w.cell? ⟨b,off,ah⟩=c[off]? :=by
 simp[aAl,h]
theorem Sc{t:TypeId}{cs:List IV}{vs:List Value}{off:Nat}{v:IV}(h:partOf P t cs off=aa v)(hr:aL Z cs vs)(w:World):
 ∃u,(part t vs.toArray off).run P w=.ok u w/\Rv Z v u:=by
 unfold partOf at h;split at h
 .rename_i s ha hs;split at h
  .rename_i hle;cases h;refine⟨.agg (vs.toArray.extract off (off+s)),by simp[part,EF ha,fE hs],?_⟩
   have e:vs.toArray.extract off (off+s)=((vs.drop off).take s).toArray:=by
    apply ayR;simp
   rw[e];have:=(hr.drop off).take s;exact .agg _ _ this.1 this.2
  .cases h
 .rename_i s ha hs;split at h
  .obtain⟨u,hu,kJ⟩:=hr.get h;exact⟨u,by simp[part,EF ha,hu],kJ⟩
  .cases h
 .cases h
def BA(w:World)(b off:Nat)(vs:List Value):Prop:=∀j v,vs[j]?=aa v->w.cell? ⟨b,off+j,ah⟩=aa v
theorem Lx{t:TypeId}{cs:List IV}{vs:List Value}{b off k:Nat}{v:IV}(h:partOf P t cs k=aa v)(hr:aL Z cs vs)(mT:BA w b off vs):
 ∃u,(loadVar t ⟨b,off+k,ah⟩).run P w=.ok u w/\Rv Z v u:=by
 unfold partOf at h;split at h
 .rename_i s ha hs;split at h
  .rename_i hle;cases h;have hl:((vs.drop k).take s).length=s:=by simp;have:=hr.1;omega
   have hc:(loadCells ⟨b,off+k,ah⟩ s).run P w=.ok ((vs.drop k).take s).toArray w:=by
    have:=run_loadCells_list (P:=P) w ⟨b,off+k,ah⟩ ((vs.drop k).take s) ?_
    .rwa[hl]at this
    .intro j v hj;rw[iQ]
     have nW:vs[k+j]?=aa v:=by
      rw[awR]at hj;split at hj
      .simpa using hj
      .cases hj
     have:=mT _ _ nW;rw[show off+k+j=off+(k+j) by omega];exact this
   refine⟨.agg ((vs.drop k).take s).toArray,by simp[loadVar,EF ha,fE hs,hc],?_⟩;have:=(hr.drop k).take s;exact .agg _ _ this.1 this.2
  .cases h
 .rename_i s ha hs;split at h
  .obtain⟨u,hu,kJ⟩:=hr.get h;exact⟨u,by simp[loadVar,EF ha,mT _ _ hu],kJ⟩
  .cases h
 .cases h
theorem Ix{id:Nat}{cs:List IV}{ep aD mn:Nat}(h:l8 Z w id (.cells cs aD mn))(h1:mn<=ep)(h2:ep<=aD):
 ∃l c el,Z id ep=aa l/\l.n<=cs.length/\l.n<=c.size/\w.heap[l.b]?=aa (.cells c el (0,0))/\l.DF=c.size/\aL Z (cs.take l.n) (c.toList.take l.n):=by
 obtain⟨_,_,h3⟩:=h;obtain⟨l,c,el,hl,hn,hc,kc,hk⟩:=h3 ep h1 h2
 have bf:l.n<=c.size:=by
  rcases aAC l.n with h0|h0
  .omega
  .obtain⟨u,hu,_⟩:=hk (l.n- 1) cs[l.n- 1] aj (av_ aj);have:=(aw4.1 hu).1;omega
 refine⟨l,c,el,hl,hn,bf,hc,kc,by simp;omega,λi x v hx hv=>?_⟩;rw[awR]at hx hv;split at hx
 .rename_i hi;rw[if_pos hi]at hv;obtain⟨u,hu,hr⟩:=hk i x hi hx;have:c.toList[i]?=aa u:=by simpa using hu
  rw[this]at hv;cases hv;exact hr
 .cases hx
theorem Ly{b:Nat}{c:Array Value}{el:TypeId}{f:Nat×Nat}(h:w.heap[b]?=aa (.cells c el f))(n:Nat):BA w b 0 (c.toList.take n):=by
 intro j v hj;rw[cell_of h];rw[awR]at hj;split at hj
 .simpa using hj
 .cases hj
theorem YJ{b off:Nat}{vs:List Value}(h:BA w b off vs)(n:Nat):BA w b (off+n) (vs.drop n):=by
 intro j v hj;have:=h (n+j) v (by simpa using hj);rwa[show off+n+j=off+(n+j) by omega]
theorem Wb{b off:Nat}{vs:List Value}(h:BA w b off vs)(n:Nat):BA w b off (vs.take n):=by
 intro j v hj;rw[awR]at hj;split at hj
 .exact h j v hj
 .cases hj
theorem Wc{t:TypeId}{cs:List IV}{off n s:Nat}{v:IV}(h:partOf P t cs off=aa v)(hs:aW P t=aa s)(hn:off+s<=n):partOf P t (cs.take n) off=aa v:=by
 unfold partOf at h⊢;split at h
 .rename_i s' ha bp;rw[bp]at hs;cases hs;split at h
  .cases h;rw[if_pos (by simp;omega)]
   congr 2
   rw[aA3,azi]
   congr 1;omega
  .cases h
 .rename_i s' ha bp;rw[bp]at hs;cases hs;split at h
  .rename_i h1;rw[if_pos h1,awR,if_pos aj];exact h
  .cases h
 .cases h
theorem GM{t:TypeId}{s id off ep ext aD mn:Nat}{cs:List IV}{v:IV}{u:Value}(hi:Inv N Z G w)(hs:aW P t=aa s)(aM:G.at id=aa (.cells cs aD mn))
 (hx:s<=ext)(h1:mn<=ep)(h2:ep<=aD)(hp:partOf P t cs off=aa v)(hr:Rv Z (.ptr id off ep ext) u):
 ∃a x,u=.pointer (aa a)/\(loadVar t a).run P w=.ok x w/\Rv Z v x:=by
 obtain⟨l,c,el,hl,hn,bf,hc,_,mT⟩:=Ix (hi.obj id _ aM) h1 h2;cases hr with
 |ptr _ _ _ _ l' cz jQ=>
  rw[hl]at cz;cases cz;have vl:=Wc hp hs (show off+s<=l.n by omega);obtain⟨x,wB,sG⟩:=Lx (k:=off) vl mT (Ly hc l.n);rw[axo]at wB;exact⟨_,x,rfl,wB,sG⟩
variable{ro:Nat}{ρ:Operand->IV}{r:Operand->Value}{o:Oper}{out:gv}
def Lz(ro:Nat)(N:Nat)(Z:Io)(w:World)(G:St)(res:Result Next)(v:IV)(au:St):Prop:=
 ∃u w' aK,(res=.ok (.value u) w'\/(res=.ok .skip w'/\u=awT))/\Rv aK v u/\Inv N aK au w'/\Le ro Z w G aK w' au
def EG(Z:Io):Df->Deferred->Prop
 |.wT id,d=>∃l,Z id 0=aa l/\d={target:=.collected l.b,args:= #[]}
 |.call f args,d=>∃cap us vs:List Value,d={target:=.fn (.func f) cap.toArray,args:=us.toArray}/\aL Z args vs/\vs=us++cap
def bB(P:Program)(ro:Nat)(N:Nat)(Z:Io)(w:World)(G:St)(r:Operand->Value)(o:Oper):gv->Prop
 |.val v au=>au.n<=N->Lz ro N Z w G ((execOp r o).run P w) v au
 |.enter f args=>∃us:List Value,(execOp r o).run P w=.ok (.enter f us.toArray) w/\aL Z args us
 |.round id args=>∃l,∃us:List Value,Z id 0=aa l/\(execOp r o).run P w=(Instr.yield l.b us.toArray).run P w/\aL Z args us
 |.WG d=>∃dd,(execOp r o).run P w=.ok (.defer dd) w/\EG Z d dd/\∃c,o.op=.defer c
 |.cd v=>∃u,(execOp r o).run P w=.halt (.panic u) w/\Rv Z v u
theorem Lz.same(hi:Inv N Z G w){res:Result Next}{v:IV}{u:Value}(h:res=.ok (.value u) w)(hr:Rv Z v u):Lz ro N Z w G res v G:=
 ⟨u,w,Z,.inl h,hr,hi,Le.refl _ _ _ _⟩
theorem bB.same(hi:Inv N Z G w){v:IV}{u:Value}(h:(execOp r o).run P w=.ok (.value u) w)(hr:Rv Z v u):bB P ro N Z w G r o (.val v G):=
 λ_=>Lz.same hi h hr
theorem aY{v:IV}(h:ret v G=aa out):out=.val v G:=by cases h;rfl
theorem WN{x:Operand}(hi:Inv N Z G w)(hr:Rv Z (ρ x) (r x))(ho:o.op=.move x\/o.op=.assign x):bB P ro N Z w G r o (.val (ρ x) G):=
 bB.same hi (by rcases ho with ho|ho<;>simp[execOp,ho]) hr
theorem ah0{c a b:Operand}(hi:Inv N Z G w)(hc:Rv Z (ρ c) (r c))(ha:Rv Z (ρ a) (r a))(hb:Rv Z (ρ b) (r b))(ho:o.op=.pick c a b)(h:aA P ro ρ o G=aa out):
 bB P ro N Z w G r o out:=by
 unfold aA at h;rw[ho]at h;simp only at h;split at h
 .rename_i t ht;rw[ht]at hc;have Ay:r c=.bool t:=by generalize hu:r c=u at hc;cases hc;rfl
  obtain rfl:=aY h;cases t
  .exact bB.same hi (u:=r b) (by simp[execOp,ho,Ay,asBool]) hb
  .exact bB.same hi (u:=r a) (by simp[execOp,ho,Ay,asBool]) ha
 .cases h
theorem YK{cs:List IV}{vs rest:List Value}{el:TypeId}{w':World}{l:Loc}{id:Nat}(hr:aL Z cs vs)(hl:Z id 0=aa l)(fC:∀e,0<e->Z id e=ah)(hn:l.n=cs.length)(kc:l.DF=(vs++rest).length)
 (hh:w'.heap[l.b]?=aa (.cells (vs++rest).toArray el (0,0))):l8 Z w' id (.cells cs 0 0):=by
 refine⟨⟨awe _,fC⟩,⟨l,hl,hn⟩,λe _ he=>?_⟩;obtain rfl:e=0:=aj;refine⟨l,(vs++rest).toArray,el,hl,by omega,hh,by simpa using kc,λk x _ hx=>?_⟩;obtain⟨u,hu,kJ⟩:=hr.get hx;refine⟨u,?_,kJ⟩;have ak:=(awa.1 hu).1;rw[axY,awp ak];exact hu
theorem Inv.WO(hi:Inv N Z G w)(hN:G.n<N){cs:List IV}{vs:List Value}(hr:aL Z cs vs)(rest:List Value)(el:TypeId){w':World}(hw:w'.heap=w.heap.push (.cells (vs++rest).toArray el))
 (yb:w'.os=w.os)(GJ:w'.tape=w.tape)(GK:w'.output=w.output):
 Inv N (eJ Z G.n 0 ⟨w.heap.size,cs.length,(vs++rest).length⟩) (G.add (.cells cs 0 0)) w'/\Le ro Z w G (eJ Z G.n 0 ⟨w.heap.size,cs.length,(vs++rest).length⟩) w' (G.add (.cells cs 0 0)):=by
 have hx:∀e,Z G.n e=ah:=hi.fresh _ (awe _) hN;have hh:w'.heap[w.heap.size]?=aa (.cells (vs++rest).toArray el (0,0)):=by rw[hw];simp
 refine hi.add hN hw yb GJ GK rfl (YK (rest:=rest) (hr.mono (l9 (hx 0))) (cE _ _ _ _) (λe he=>?_) rfl rfl hh);have:e≠0:=aj;simp[eJ,this,hx e]
theorem Inv.newRow(hi:Inv N Z G w)(hN:G.n<N){cs:List IV}{vs:List Value}(hr:aL Z cs vs)(el:TypeId):
 let l:Loc:=⟨w.heap.size,cs.length,vs.length⟩
 let w':World:={w with heap:=w.heap.push (.cells vs.toArray el)}
 Inv N (eJ Z G.n 0 l) (G.add (.cells cs 0 0)) w'/\Le ro Z w G (eJ Z G.n 0 l) w' (G.add (.cells cs 0 0)):=by
 intro l w';have:=hi.WO (ro:=ro) hN hr [] el (w':=w') (by simp[w']) rfl rfl rfl;simpa[l]using this
theorem adM{t:TypeId}(hi:Inv N Z G w)(ho:o.op=.alloc t)(h:aA P ro ρ o G=aa out):bB P ro N Z w G r o out:=by
 unfold aA at h;rw[ho]at h;simp only at h;split at h
 .rename_i z hz;obtain rfl:=aY h;intro hN;obtain⟨h1,h2⟩:=hi.newRow (ro:=ro) (by simp at hN;omega) (aL.vi (Z:=Z) z.cells.toList) t;refine⟨.pointer (aa ⟨w.heap.size,0,ah⟩),_,_,.inl ?_,?_,h1,h2⟩
  .simp[execOp,ho,Instr.alloc,l_ hz,newVar,newRow]
  .exact .ptr _ _ _ _ _ (cE _ _ _ _) ay
 .cases h
theorem ajQ{t:TypeId}{x:Operand}(hi:Inv N Z G w)(hr:Rv Z (ρ x) (r x))(ho:o.op=.box t x)(h:aA P ro ρ o G=aa out):bB P ro N Z w G r o out:=by
 unfold aA at h;rw[ho]at h;simp only at h;split at h
 .rename_i a_;obtain rfl:=aY h;intro hN;obtain⟨h1,h2⟩:=hi.newRow (ro:=ro) (by simp at hN;omega) (hr.EE a_) t;refine⟨.pointer (aa ⟨w.heap.size,0,ah⟩),_,_,.inl ?_,?_,h1,h2⟩
  .simp[execOp,ho,Instr.box,newVar,newRow]
  .have:=(hr.EE a_).1;exact .ptr _ _ _ _ _ (cE _ _ _ _) (by simp only[axo];omega)
 .cases h
theorem ah1{t:TypeId}{x:Operand}(hi:Inv N Z G w)(hr:Rv Z (ρ x) (r x))(ho:o.op=.load t x)(h:aA P ro ρ o G=aa out):bB P ro N Z w G r o out:=by
 unfold aA at h;rw[ho]at h;simp only at h;split at h
 .rename_i id off ep ext hx;rw[hx]at hr;split at h
  .rename_i s cs aD mn hs aM;split at h
   .rename_i hc;split at h
    .rename_i v hp;obtain rfl:=aY h;obtain⟨a,u,ha,gN,kJ⟩:=GM hi hs aM hc.1 hc.2.1 hc.2.2 hp hr;exact bB.same hi (u:=u) (by simp[execOp,ho,aBh,ayg,ha,gN]) kJ
    .cases h
   .cases h
  .cases h
 .rename_i cs hx;rw[hx]at hr;split at h
  .rename_i v hp;obtain rfl:=aY h;generalize hq:r x=q at hr;cases hr with
   |mS _ b off us hu hh=>
    have mT:BA w b off ((axt cs.length).map us):=by
     intro j v hj;simp only[awu,awj]at hj;obtain⟨j',nW,rfl⟩:=hj
     have:j'=j/\j<cs.length:=by
      rw[awa]at nW;obtain⟨h1,h2⟩:=nW;simp at h1 h2;exact⟨h2.symm,h1⟩
     obtain⟨rfl,ak⟩:=this;have hm:=hu j' ak;unfold qq at hm;cases hb:Z.m b with
     |none=>simp[hb]at hm
     |some c=>
      obtain⟨el,f,hh'⟩:=hi.mem b c hb;rw[cell_of hh'];simpa[hb]using hm
    have hl:aL Z cs ((axt cs.length).map us):=by
     refine⟨by simp,λi c v h1 h2=>?_⟩;have ak:=(awa.1 h1).1
     have:v=us i:=by
      simp[ak]at h2;exact h2.symm
     subst this;exact hh i c h1
    obtain⟨u,h1,h2⟩:=Lx (k:=0) hp hl mT;exact bB.same hi (u:=u) (by simp at h1;simp[execOp,ho,aBh,ayg,hq,h1]) h2
  .cases h
 .cases h
theorem wV(w:World)(g:Nat)(cs:Array Value)(b:Nat)(h:b≠g):(w.setRow g cs).heap[b]?=w.heap[b]? :=by
 simp only[aBi,az_];rw[if_neg aj]
theorem setRow_size(w:World)(g:Nat)(cs:Array Value):(w.setRow g cs).heap.size=w.heap.size:=by simp[aBi]
theorem EH{cs:List IV}{vs:List Value}(hr:aL Z cs vs)(h:cs.all ao=ab):∀v∈vs,v.oneCell'=ab:=by
 intro v hv;obtain⟨i,hi⟩:=List.mem_iff_getElem?.1 hv;have ak:i<cs.length:=by have:=(awa.1 hi).1;have:=hr.1;omega
 have hc:=hr.2 i cs[i] v (av_ ak) hi;have hk:=aa_ hc (List.all_eq_true.1 h _ (List.getElem_mem ak));cases v<;>first|rfl|exact absurd rfl (hk.1 _)|exact absurd rfl (hk.2 _)
theorem Wd(A:List Value)(n off:Nat)(cO:List Value)(h1:off+cO.length<=n)(h2:n<=A.length)(k:Nat)(hk:k<n):
 (A.take off++cO++A.drop (off+cO.length))[k]?=((A.take n).take off++cO++(A.take n).drop (off+cO.length))[k]? :=by
 have e1:(A.take n).take off=A.take off:=by rw[azi,azg aj]
 have e2:A.drop (off+cO.length)=(A.take n).drop (off+cO.length)++A.drop n:=by
  have hA:A=A.take n++A.drop n:=(List.take_append_drop n A).symm;have hl:(A.take n).length=n:=by rw[axe];omega
  have:=List.drop_append_of_le_length (l₁:=A.take n) (l₂:=A.drop n) (i:=off+cO.length) aj;rw[<-hA]at this;exact this
 rw[e1,e2,<-awv];refine awp ?_;simp only[awi,axe,List.length_drop];omega
theorem Inv.write(hi:Inv N Z G w){id off aD mn:Nat}{cs new:List IV}{cO:List Value}(aM:G.at id=aa (.cells cs aD mn))(ej:ro<=id)(YL:off+new.length<=cs.length)
 (hr:aL Z new cO):∃l c el,Z id aD=aa l/\w.heap[l.b]?=aa (.cells c el (0,0))/\off+cO.length<=c.size/\
  Inv N Z (G.put id (.cells (eG cs off new) aD aD)) (w.setRow l.b (c.toList.take off++cO++c.toList.drop (off+cO.length)).toArray)/\
  Le ro Z w G Z (w.setRow l.b (c.toList.take off++cO++c.toList.drop (off+cO.length)).toArray) (G.put id (.cells (eG cs off new) aD aD)):=by
 have eK:=hi.obj id _ aM;obtain⟨uU,⟨l0,iP,ma⟩,_⟩:=eK;obtain⟨l,c,el,hl,hn,bf,hc,kc,mT⟩:=Ix (hi.obj id _ aM) uU.1 (awe _);obtain rfl:l=l0:=by rw[hl]at iP;exact ayh iP
 have zg:=hr.1;have ak:off+cO.length<=c.size:=aj;refine⟨l,c,el,hl,hc,ak,?_⟩;refine hi.put aM ej ⟨_,_,hl⟩ (Ext.refl _) (λ_ _ _=>rfl) (λb hb=>.inl hb) (by rw[setRow_size];exact awe _) (λb _ fC=>wV _ _ _ _ ?_) rfl rfl rfl ?_
 .intro e;subst e;exact fC ⟨_,_,hl,rfl⟩
 .refine⟨⟨awe _,uU.2⟩,⟨l,hl,by simp[eG,ma];omega⟩,λe he fM=>?_⟩;obtain rfl:e=aD:=aj;refine⟨l,_,el,hl,by simp[eG];omega,setRow_heap w l.b c _ el _ hc,by simp;omega,λk x hk hx=>?_⟩;rw[ma,List.take_length]at mT;have Gq:cs.length<=c.toList.length:=by simp;omega
  have YM:aL Z (eG cs off new) ((c.toList.take cs.length).take off++cO++(c.toList.take cs.length).drop (off+cO.length)):=mT.eG off hr;obtain⟨u,hu,kJ⟩:=YM.get hx;refine⟨u,?_,kJ⟩;simp only[axY];rw[<-hu];exact Wd c.toList cs.length off cO aj Gq k aj
theorem vm{l:Loc}{c:Array Value}{el:TypeId}{off:Nat}{cO:List Value}(hc:w.heap[l.b]?=aa (.cells c el (0,0)))(ak:off+cO.length<=c.size)(h1:∀v∈cO,v.oneCell'=ab):
 (storeCells ⟨l.b,off,ah⟩ cO).run P w=.ok () (w.setRow l.b (c.toList.take off++cO++c.toList.drop (off+cO.length)).toArray):=by
 have:=run_storeCells_at (P:=P) l.b off el cO 0 c w hc aj h1;simpa using this
theorem adN{t:TypeId}{a x:Operand}(hi:Inv N Z G w)(ha:Rv Z (ρ a) (r a))(hx:Rv Z (ρ x) (r x))(ho:o.op=.store t a x)(h:aA P ro ρ o G=aa out):bB P ro N Z w G r o out:=by
 unfold aA at h;rw[ho]at h;simp only at h;split at h
 .rename_i id off ep ext hp;rw[hp]at ha;split at h
  .rename_i s cs aD mn hs aM;split at h
   .rename_i hc;obtain⟨ej,hlen,iF,hep,YL,a_⟩:=hc;obtain rfl:=aY h;intro hN;subst hep;have jw:=hx.EE a_;obtain⟨l,c,el,hl,DG,ak,h1,h2⟩:=hi.write (ro:=ro) aM ej (by rw[hlen];exact YL) jw;generalize hq:r a=q at ha;cases ha with
    |ptr _ _ _ _ l' cz jQ=>
     rw[hl]at cz;cases cz;refine⟨awT,_,_,.inr ⟨?_,rfl⟩,.raw _,h1,h2⟩;have bf:(r x).cells.size=s:=by have:=jw.1;simp at this;omega
     simp[execOp,ho,Instr.storeAt,ayg,hq,storeVar,fE hs,bf,vm (P:=P) DG ak (EH jw a_)]
   .cases h
  .cases h
 .cases h
theorem We{x:Operand}(hi:Inv N Z G w)(hr:Rv Z (ρ x) (r x))(ho:o.op=.nilCheck x)(h:aA P ro ρ o G=aa out):bB P ro N Z w G r o out:=by
 unfold aA at h;rw[ho]at h;simp only at h;split at h
 all_goals try (cases h;done)
 all_goals
  rename_i hx;rw[hx]at hr;obtain rfl:=aY h;generalize hq:r x=q at hr;refine bB.same hi (u:=q) ?_ hr;cases hr<;>simp[execOp,ho,hq]
theorem eval_bin{op:BinOp}{t yT:TypeId}{x y:Operand}(ho:o.op=.binOp op t x y yT){v:Value}(h:(do eqGuard op t x y (r x) (r y);binOp op t (r x) (r y):Sem Value).run P w=.ok v w):
 (execOp r o).run P w=.ok (.value v) w:=by
 simp only[execOp,ho,awn]at h⊢;rw[h];rfl
theorem toList_eq(s:ByteArray):s.toList=s.data.toList:=Lib.toList_data s
theorem aba{t:TypeId}{a b:IV}{u v:Value}(d:Nat)(h:DB P t a b=ab)(ha:Rv Z a u)(hb:Rv Z b v):
 ((axa (d+1) t u v).run P w=.ok af w)/\((axa (d+1) t v u).run P w=.ok af w):=by
 unfold DB at h;split at h
 all_goals try (cases h;done)
 all_goals
  split at h
  .rename_i hu;cases ha;cases hb;refine⟨?_,?_⟩<;>simp only[axa,awn,bC hu,awg]<;>rfl
  .cases h
theorem Az{t:TypeId}{u v:Value}{c:Bool}(he:(axa (9999+1) t u v).run P w=.ok c w):
 (do pure (.bool (<-ayF t u v)):Sem Value).run P w=.ok (.bool c) w/\(do pure (.bool (!(<-ayF t u v))):Sem Value).run P w=.ok (.bool !c) w:=by
 have fM:(ayF t u v).run P w=.ok c w:=he;constructor<;>simp only[awn,fM,awg,awz]
theorem PE{t:TypeId}{a b:IV}{u v:Value}{x y:Operand}(h:DB P t a b=ab)(ha:Rv Z a u)(hb:Rv Z b v):
 ((∀op,(eqGuard op t x y u v).run P w=.ok () w)/\(ax5 .eql t u v).run P w=.ok (.bool af) w/\(ax5 .neq t u v).run P w=.ok (.bool ab) w)/\
 ((∀op,(eqGuard op t x y v u).run P w=.ok () w)/\(ax5 .eql t v u).run P w=.ok (.bool af) w/\(ax5 .neq t v u).run P w=.ok (.bool ab) w):=by
 have h1:=aba (w:=w) 9999 h ha hb;have h2:=Az h1.1;have h3:=Az h1.2;unfold DB at h;split at h
 all_goals try (cases h;done)
 all_goals
  cases ha;cases hb;exact⟨⟨λop=>by cases op<;>rfl,h2.1,h2.2⟩,⟨λop=>by cases op<;>rfl,h3.1,h3.2⟩⟩
theorem adO{t:TypeId}{a b:IV}{u v:Value}{x y:Operand}(h:YF P t a b=ab)(ha:Rv Z a u)(hb:Rv Z b v):
 (∀op,(eqGuard op t x y u v).run P w=.ok () w)/\(ax5 .eql t u v).run P w=.ok (.bool af) w/\(ax5 .neq t u v).run P w=.ok (.bool ab) w:=by
 unfold YF at h;rw[Bool.or_eq_true]at h;rcases h with h|h
 .exact(PE (w:=w) (x:=x) (y:=y) h ha hb).1
 .exact(PE (w:=w) (x:=x) (y:=y) h hb ha).2
theorem Sd{t:TypeId}{a b:IV}{u v:Value}{x y:Operand}{c:Bool}(h:ptrEq P t a b=aa c)(ha:Rv Z a u)(hb:Rv Z b v):
 (∀op,(eqGuard op t x y u v).run P w=.ok () w)/\(ax5 .eql t u v).run P w=.ok (.bool c) w/\(ax5 .neq t u v).run P w=.ok (.bool !c) w:=by
 unfold ptrEq at h;split at h
 .rename_i i off e x1 j Nr f y1;split at h
  .rename_i el hu;split at h
   .rename_i s hs;split at h
    .rename_i hc;obtain⟨rfl,rfl,h0⟩:=hc;cases h;cases ha with
     |ptr _ off _ _ l hl _=>
      cases hb with
      |ptr _ Nr _ _ l' cz _=>
       rw[hl]at cz;cases cz
       have he:∀d,(axa (d+1) t (.pointer (aa ⟨l.b,off,ah⟩)) (.pointer (aa ⟨l.b,Nr,ah⟩))).run P w=.ok (off==Nr) w:=by
        intro d;simp only[axa,awn,bC hu,awg,fE hs,ne_eq,h0,not_false_eq_true,if_true,sameAddr,beq_self_eq_true];by_cases hh:off=Nr
        .subst hh;simp
        .have:((⟨l.b,off,ah⟩:Addr)==⟨l.b,Nr,ah⟩)=af:=by simp[hh]
         simp[this,hh]
       have h2:=Az (he 9999);exact⟨λop=>by cases op<;>rfl,h2.1,h2.2⟩
    .cases h
   .cases h
  .cases h
 .cases h
theorem ajR{op:BinOp}{t yT:TypeId}{x y:Operand}(hi:Inv N Z G w)(hx:Rv Z (ρ x) (r x))(hy:Rv Z (ρ y) (r y))(ho:o.op=.binOp op t x y yT)(h:aA P ro ρ o G=aa out):
 bB P ro N Z w G r o out:=by
 unfold aA at h;rw[ho]at h;simp only at h;split at h
 .rename_i v hv;obtain rfl:=aY h
  suffices hs:∃u,(do eqGuard op t x y (r x) (r y);binOp op t (r x) (r y):Sem Value).run P w=.ok u w/\Rv Z v u by
   obtain⟨u,h1,h2⟩:=hs;exact bB.same hi (eval_bin ho h1) h2
  generalize PF:r x=a at hx;generalize hry:r y=b at hy;generalize eM:ρ x=ix at hx hv;generalize hiy:ρ y=iy at hy hv;unfold sZ at hv
  have strs:∀(s u:ByteArray),ix=.raw (.string s)->iy=.raw (.string u)->a=.string s/\b=.string u:=by
   intro s u h1 h2;subst h1 h2;cases hx;cases hy;exact⟨rfl,rfl⟩
  split at hv
  .rename_i s u;obtain⟨rfl,rfl⟩:=strs s u rfl rfl;cases hv;exact⟨_,by simp[eqGuard,ax5,ayL,toList_eq],.raw _⟩
  .rename_i s u;obtain⟨rfl,rfl⟩:=strs s u rfl rfl;cases hv;exact⟨_,by simp[eqGuard,ax5,ayL,toList_eq],.raw _⟩
  .rename_i s u;obtain⟨rfl,rfl⟩:=strs s u rfl rfl;cases hv;exact⟨_,by simp[eqGuard,ax5,ayL,toList_eq],.raw _⟩
  .rename_i s u;obtain⟨rfl,rfl⟩:=strs s u rfl rfl;cases hv;exact⟨_,by simp[eqGuard,ax5,ayL,toList_eq],.raw _⟩
  .rename_i s u;obtain⟨rfl,rfl⟩:=strs s u rfl rfl;cases hv;exact⟨_,by simp[eqGuard,ax5,ayL,toList_eq],.raw _⟩
  .rename_i s u;obtain⟨rfl,rfl⟩:=strs s u rfl rfl;cases hv;exact⟨_,by simp[eqGuard,ax5,ayL,toList_eq],.raw _⟩
  .rename_i s u;obtain⟨rfl,rfl⟩:=strs s u rfl rfl;split at hv
   .rename_i bf;cases hv;refine⟨_,?_,.raw _⟩
    have e:(⟨(s.data.toList++u.data.toList).toArray⟩:ByteArray)=s++u:=by
     apply aAv;simp
    rw[e]
    have hm:¬((s.size+u.size:Nat):Int)>awK.max:=by
     have:awK.max=9223372036854775807:=by decide
     rw[this];omega
    simp only[eqGuard,ax5,ayL,if_neg hm];simp
   .cases hv
  .split at hv
   .rename_i u1 u2 h1 h2;rw[ED h1 hx,ED h2 hy];simp only[awj]at hv;obtain⟨z,hz,rfl⟩:=hv;exact⟨z,gp w _ hz,Rv.lift z⟩
   .split at hv
    .rename_i yQ;obtain⟨hg,he⟩:=adO (w:=w) (x:=x) (y:=y) yQ hx hy;split at hv
     .cases hv;exact⟨.bool af,by simp only[awn,hg .eql,awg,he.1],.raw _⟩
     .cases hv;exact⟨.bool ab,by simp only[awn,hg .neq,awg,he.2],.raw _⟩
     .cases hv
    .split at hv
     .obtain⟨hg,he⟩:=Sd (w:=w) (x:=x) (y:=y) ‹ptrEq P t ix iy=aa _› hx hy;cases hv;exact⟨.bool _,by simp only[awn,hg .eql,awg,he.1],.raw _⟩
     .obtain⟨hg,he⟩:=Sd (w:=w) (x:=x) (y:=y) ‹ptrEq P t ix iy=aa _› hx hy;cases hv;exact⟨.bool _,by simp only[awn,hg .neq,awg,he.2],.raw _⟩
     .cases hv
 .cases h
theorem gh{x:IV}{v u:Value}(hx:x=.raw v)(h:Rv Z x u):u=v:=by subst hx;cases h;rfl
theorem aoa{op:UnOp}{t:TypeId}{x:Operand}(hi:Inv N Z G w)(hr:Rv Z (ρ x) (r x))(ho:o.op=.unOp op t x)(h:aA P ro ρ o G=aa out):bB P ro N Z w G r o out:=by
 unfold aA at h;rw[ho]at h;simp only at h;split at h
 .rename_i v hx;split at h
  .rename_i z hz;obtain rfl:=aY h;have e:=gh hx hr;have:=gp w _ hz;exact bB.same hi (u:=z) (by simp[execOp,ho,e,this]) (Rv.lift z)
  .cases h
 .cases h
theorem YN{s t:TypeId}{x:Operand}(hi:Inv N Z G w)(hr:Rv Z (ρ x) (r x))(ho:o.op=.convert s t x)(h:aA P ro ρ o G=aa out):bB P ro N Z w G r o out:=by
 unfold aA at h;rw[ho]at h;simp only at h;split at h
 .rename_i v hx;split at h
  .rename_i d hs hu;obtain rfl:=aY h;have e:=gh hx hr;refine bB.same hi (u:=.string v) ?_ (.raw _)
   have:(convert s t (.string v)).run P w=.ok (.string v) w:=by
    simp only[convert,awn,bC hs,bC hu,awg];rfl
   simp[execOp,ho,e,this]
  .cases h
 .rename_i v _ hx;split at h
  .rename_i z hz;obtain rfl:=aY h;have e:=gh hx hr;have:=gp w _ hz;exact bB.same hi (u:=z) (by simp[execOp,ho,e,this]) (Rv.lift z)
  .cases h
 .cases h
theorem J4{t:TypeId}{x:Operand}(hi:Inv N Z G w)(hr:Rv Z (ρ x) (r x))(ho:o.op=.makeInterface t x)(h:aA P ro ρ o G=aa out):bB P ro N Z w G r o out:=by
 unfold aA at h;rw[ho]at h;simp only at h;split at h
 .cases h
 .rename_i d hd hu;obtain rfl:=aY h;refine bB.same hi (u:=.iface t (r x)) ?_ (.dK _ _ _ hr);simp only[execOp,ho,Instr.makeInterface,awn,bC hu,awg];cases d<;>first|rfl|(exact absurd rfl (hd _))
 .cases h
theorem Wf{f:Fn}{first cap:Array Operand}(hi:Inv N Z G w)(hr:∀x∈first++cap,Rv Z (ρ x) (r x))(ho:o.op=.makeFunc f first cap)(h:aA P ro ρ o G=aa out):bB P ro N Z w G r o out:=by
 unfold aA at h;rw[ho]at h;simp only at h;obtain rfl:=aY h;have h1:aL Z (first.toList.map ρ) (first.toList.map r):=aL.of_map λa ha=>hr a (by simp at ha⊢;exact .inl ha);have h2:aL Z (cap.toList.map ρ) (cap.toList.map r):=aL.of_map λa ha=>hr a (by simp at ha⊢;exact .inr ha);refine bB.same hi (u:=.func f (first.toList.map r).toArray (cap.toList.map r).toArray) ?_ (.fn _ _ _ _ _ h1.1 h1.2 h2.1 h2.2);simp only[execOp,ho,Instr.makeFunc,awn,awz,awg]
 congr 3<;>(apply ayR;simp)
theorem YO{x:Operand}{i:Nat}(hi:Inv N Z G w)(hr:Rv Z (ρ x) (r x))(ho:o.op=.extract x i)(h:aA P ro ρ o G=aa out):bB P ro N Z w G r o out:=by
 unfold aA at h;rw[ho]at h;simp only at h;split at h
 .rename_i vs hx;split at h
  .rename_i v hv;obtain rfl:=aY h;rw[hx]at hr;generalize hq:r x=q at hr;cases hr with
   |aF _ us hl hh=>
    obtain⟨u,hu,kJ⟩:=aL.get ⟨hl,hh⟩ hv;exact bB.same hi (u:=u) (by simp[execOp,ho,aA4,hq,hu]) kJ
  .cases h
 .rename_i vs hx;split at h
  .rename_i v hv;obtain rfl:=aY h;have e:=gh hx hr;exact bB.same hi (u:=v) (by simp[execOp,ho,aA4,e,hv]) (.raw _)
  .cases h
 .cases h
theorem Inv.ajS(hi:Inv N Z G w)(hN:G.n<N):
 Inv N (eJ Z G.n 0 ⟨w.heap.size,1,1⟩) (G.add (.map [] 0)) {w with heap:=w.heap.push (.map #[] 0)}/\
 Le ro Z w G (eJ Z G.n 0 ⟨w.heap.size,1,1⟩) {w with heap:=w.heap.push (.map #[] 0)} (G.add (.map [] 0)):=by
 refine hi.add hN rfl rfl rfl rfl rfl ⟨_, #[],cE _ _ _ _,by simp,by simp,λi e r h=>by simp at h⟩
theorem YP{t:TypeId}{x:Option Operand}(hi:Inv N Z G w)(hr:∀y∈x.toArray,Rv Z (ρ y) (r y))(ho:o.op=.makeMap t x)(h:aA P ro ρ o G=aa out):bB P ro N Z w G r o out:=by
 unfold aA at h;rw[ho]at h;simp only at h
 have key:out=.val (.map G.n) (G.add (.map [] 0))->(execOp r o).run P w=.ok (.value (.map (aa w.heap.size))) {w with heap:=w.heap.push (.map #[] 0)}->bB P ro N Z w G r o out:=by
  intro h1 h2;subst h1;intro hN;obtain⟨h3,h4⟩:=hi.ajS (ro:=ro) (by simp at hN;omega);exact⟨_,_,_,.inl h2,.map _ _ (cE _ _ _ _),h3,h4⟩
 split at h
 .exact key (aY h) (by simp[execOp,ho,aA5])
 .rename_i y;split at h
  .rename_i hu hx;have e:=gh hx (hr _ ay);exact key (aY h) (by simp[execOp,ho,aA5,bC hu,e,asInt,asIntOf])
  .cases h
theorem Se{s:TypeId}{x:Operand}{f:Nat}(hi:Inv N Z G w)(hr:Rv Z (ρ x) (r x))(ho:o.op=.fieldAddr s x f)(h:aA P ro ρ o G=aa out):bB P ro N Z w G r o out:=by
 unfold aA at h;rw[ho]at h;simp only at h;split at h
 .rename_i fields hu;split at h
  .rename_i fd hf;split at h
   .rename_i sz id off ep ext hs hx;split at h
    .rename_i hc;obtain rfl:=aY h;rw[hx]at hr;generalize hq:r x=q at hr;cases hr with
     |ptr _ _ _ _ l hl hle=>
      refine bB.same hi (u:=.pointer (aa ⟨l.b,off+fd.offset,ah⟩)) ?_ (.ptr _ _ _ _ l hl aj);simp[execOp,ho,aA6,bC hu,hf,ayg,hq,fieldPlace,fE hs,hc.1,iQ]
    .cases h
   .rename_i sz cs hs hx;split at h
    .rename_i hc;obtain rfl:=aY h;rw[hx]at hr;generalize hq:r x=q at hr;cases hr with
     |mS _ b off us Gr hh=>
      refine bB.same hi (u:=.pointer (aa ⟨b,off+fd.offset,ah⟩)) ?_ (.mS _ _ _ (λk=>us (fd.offset+k)) (λk hk=>?_) (λj c hj=>?_))
      .simp[execOp,ho,aA6,bC hu,hf,ayg,hq,fieldPlace,fE hs,hc.1,iQ]
      .simp at hk;rw[show off+fd.offset+k=off+(fd.offset+k) by omega];exact Gr _ aj
      .rw[awR]at hj;split at hj
       .exact hh _ c (by simpa using hj)
       .cases hj
    .cases h
   .cases h
  .cases h
 .cases h
theorem adP{t:TypeId}{x:Operand}{f:Nat}(hi:Inv N Z G w)(hr:Rv Z (ρ x) (r x))(ho:o.op=.field t x f)(h:aA P ro ρ o G=aa out):bB P ro N Z w G r o out:=by
 unfold aA at h;rw[ho]at h;simp only at h;split at h
 .rename_i fields cs hu hx;split at h
  .rename_i fd hf;split at h
   .rename_i v hp;obtain rfl:=aY h;rw[hx]at hr;generalize hq:r x=q at hr;cases hr with
    |agg _ us hl hh=>
     obtain⟨u,h1,h2⟩:=Sc hp ⟨hl,hh⟩ w;exact bB.same hi (u:=u) (by simp[execOp,ho,Instr.field,bC hu,hf,asAgg,hq,h1]) h2
   .cases h
  .cases h
 .cases h
theorem Sg{t:TypeId}{x ix:Operand}(hi:Inv N Z G w)(hr:Rv Z (ρ x) (r x))(PF:Rv Z (ρ ix) (r ix))(ho:o.op=.indexAddr t x ix)(h:aA P ro ρ o G=aa out):bB P ro N Z w G r o out:=by
 unfold aA at h;rw[ho]at h;simp only at h;split at h
 .rename_i elem k i hu eM;have ei:=gh eM PF;split at h
  .rename_i id off len cap ep s hx;split at h
   .rename_i hc;obtain⟨hs,h0,ak⟩:=hc;obtain rfl:=aY h;rw[hx]at hr;generalize hq:r x=q at hr;have hn:i.toNat<len:=aj
    have hmul:i.toNat*s+s<=len*s:=by
     have:(i.toNat+1)*s<=len*s:=awL s hn;rw[awU]at this;omega
    cases hr with
    |sl _ _ _ _ _ _ l c a hl hle kc cj tx jG ha=>
     have avo:len*s<=c*s:=awL s tx;refine bB.same hi (u:=.pointer (aa ⟨l.b,off+i.toNat*s,ah⟩)) ?_ (.ptr _ _ _ _ l hl aj);have ea:=ha aj;subst ea;simp[execOp,ho,azY,ei,asIntOf,bC hu,hq,h0,ak,fE hs,iQ]
   .cases h
  .rename_i s es hx;split at h
   .rename_i hc;obtain⟨hs,h0⟩:=hc;split at h
    .rename_i e he;split at h
     .rename_i tz;obtain rfl:=aY h;rw[hx]at hr;generalize hq:r x=q at hr;have ak:=(awa.1 he).1;have gj:i<es.length:=aj
      have hmul:i.toNat*s+s<=es.length*s:=by
       have:(i.toNat+1)*s<=es.length*s:=awL s ak;rw[awU]at this;omega
      cases hr with
      |tree _ _ b off c us cj hc bD Gr hh=>
       refine bB.same hi (u:=.pointer (aa ⟨b,off+i.toNat*s,ah⟩)) ?_ (.mS _ _ _ (λk=>us (i.toNat*s+k)) (λk hk=>?_) (λj c hj=>hh _ _ _ _ he hj))
       .simp[execOp,ho,azY,ei,asIntOf,bC hu,hq,h0,gj,fE hs,iQ]
       .rw[show off+i.toNat*s+k=off+(i.toNat*s+k) by omega];exact Gr _ aj
      |eB=>simp at ak
     .cases h
    .cases h
   .cases h
  .cases h
 .rename_i n elem k i hu eM;have ei:=gh eM PF;split at h
  .rename_i id off ep ext s hx hs;split at h
   .rename_i hc;obtain⟨cj,h0,ak,adQ⟩:=hc;obtain rfl:=aY h;rw[hx]at hr;generalize hq:r x=q at hr;cases hr with
    |ptr _ _ _ _ l hl hle=>
     refine bB.same hi (u:=.pointer (aa ⟨l.b,off+i.toNat*s,ah⟩)) ?_ (.ptr _ _ _ _ l hl aj);simp[execOp,ho,azY,ei,asIntOf,bC hu,hq,ayg,h0,ak,fE hs,iQ]
   .cases h
  .cases h
 .cases h
theorem adR{t:TypeId}{x ix:Operand}(hi:Inv N Z G w)(hr:Rv Z (ρ x) (r x))(PF:Rv Z (ρ ix) (r ix))(ho:o.op=.index t x ix)(h:aA P ro ρ o G=aa out):bB P ro N Z w G r o out:=by
 unfold aA at h;rw[ho]at h;simp only at h;split at h
 .rename_i s k i hu hx eM;have ei:=gh eM PF;have ex:=gh hx hr;split at h
  .rename_i h0;split at h
   .rename_i b hb;obtain rfl:=aY h;refine bB.same hi (u:=.int .u8 b.toNat) ?_ (.raw _)
    have sH:s[i.toNat]?=aa b:=by
     obtain⟨ak,he⟩:=awa.1 hb;have gj:i.toNat<s.size:=by simpa using ak
     rw[getElem?_pos s i.toNat gj];simpa[aBE]using he
    simp[execOp,ho,aBq,ei,ex,asIntOf,bC hu,h0,sH]
   .cases h
  .cases h
 .rename_i n elem cs k i hu hx eM;have ei:=gh eM PF;split at h
  .rename_i s hs;split at h
   .rename_i hc;split at h
    .rename_i v hp;obtain rfl:=aY h;rw[hx]at hr;generalize hq:r x=q at hr;cases hr with
     |agg _ us hl hh=>
      obtain⟨u,h1,h2⟩:=Sc hp ⟨hl,hh⟩ w;exact bB.same hi (u:=u) (by simp[execOp,ho,aBq,ei,hq,asIntOf,bC hu,hc.1,hc.2,fE hs,h1]) h2
    .cases h
   .cases h
  .cases h
 .cases h
theorem Jm(l:List Value)(s:Nat)(hl:l.length=s):∀n,(axt (n*s)).map (λi=>l[i % s]!)=(awE n l).flatten
 |0=>by simp
 |n+1=>by
  rw[awU,Nat.one_mul,List.range_add,List.map_append,Jm l s hl n,List.replicate_succ',List.flatten_append]
  congr 1
  simp only[ax6,List.flatten_nil,List.append_nil,List.map_map];apply aAD;intro i;by_cases hi:i<s
  .have h1:(n*s+i) % s=i:=by rw[Nat.mul_comm,Nat.mul_add_mod,Nat.mod_eq_of_lt hi]
   simp[hi,h1,hl]
  .rw[ayd (by simp;omega),ayd aj]
theorem abb(l:List Value)(s n:Nat)(hl:l.length=s)(hs:s≠0):lu (l.map .raw) (n*s)=((awE n l).flatten).map .raw:=by
 unfold lu;split
 .rename_i z hz;cases l with
  |nil=>simp at hz
  |cons a l=>
   cases l with
   |nil=>
    simp only[awZ,List.map_nil,axC,and_true]at hz;subst hz;have fq:s=1:=by simpa using hl.symm
    subst fq;rw[Nat.mul_one];clear hl hs;induction n with
    |zero=>rfl
    |succ n ih=>rw[ayQ,ayQ,ax6,ih];rfl
   |cons b l=>simp at hz
 .rw[List.length_map,hl,Nat.mul_div_cancel _ aj,List.map_flatten];simp
theorem EI(z:Array Value)(s n:Nat)(hz:z.size=s)(hs:s≠0):(aAc (n*s)).map (λi=>z[i % z.size]!)=(((awE n z.toList).flatten)).toArray:=by
 apply ayR;have:=Jm z.toList s (by simpa using hz) n;simp only[azJ,Array.toList_range,hz];rw[<-this];apply List.map_congr_left;intro i _;simp[List.getElem!_eq_getElem?_getD,Array.getElem!_eq_getD]
theorem GN(z:Value)(s n:Nat)(hz:z.cells.size=s)(hs:s≠0):aL Z (lu (z.cells.toList.map .raw) (n*s)) ((awE n z.cells.toList).flatten):=by
 rw[abb _ s n (by simpa using hz) hs];exact aL.vi _
theorem PG(z:Value)(s n:Nat)(hz:z.cells.size=s):((awE n z.cells.toList).flatten).length=n*s:=by
 simp[hz]
theorem PH(off:Nat):∀(l:List Value) (k:Nat) (A:Array Value) (i:Nat),off+k+l.length<=A.size->
 ((l.zipIdx k).foldl (λcs (x:Value×Nat)=>cs.setIfInBounds (off+x.2) x.1) A)[i]?=if off+k<=i/\i<off+k+l.length then l[i- off- k]? else A[i]?
 |[],k,A,i,_=>by
  have:¬(off+k<=i/\i<off+k+0):=aj;simp;intro h1 h2;omega
 |v::l,k,A,i,h=>by
  simp only[awJ]at h;simp only[List.zipIdx_cons,List.foldl_cons];rw[PH off l (k+1) _ i (by simp;omega)];by_cases h1:off+(k+1)<=i/\i<off+(k+1)+l.length
  .rw[if_pos h1,if_pos (by simp;omega)];have:i- off- k=(i- off-(k+1))+1:=aj;rw[this,axI]
  .rw[if_neg h1];by_cases h2:i=off+k
   .subst h2;rw[if_pos ay];have:off+k<A.size:=aj;simp[this]
   .rw[if_neg (by simp;omega),Array.getElem?_setIfInBounds,if_neg aj]
theorem Iy{place:Nat->Option (Nat×Nat)}:∀{parts:List (Nat×IV)} {AA:List (Nat×Value)} {cs bG:List IV} {A:Array Value},
 rX place cs parts=aa bG->aL Z cs A.toList->parts.length=AA.length->(∀(i:Nat) (p:Nat×IV) (q:Nat×Value),parts[i]?=aa p->AA[i]?=aa q->p.1=q.1/\Rv Z p.2 q.2)->
 ∃A',aBx place A AA=aa A'/\aL Z bG A'.toList
 |[],AA,cs,bG,A,h,hr,hl,hp=>by
  cases AA with
  |nil=>simp only[rX,awf]at h;subst h;exact⟨A,rfl,hr⟩
  |cons p q=>simp at hl
 |(i,x)::rest,AA,cs,bG,A,h,hr,hl,hp=>by
  cases AA with
  |nil=>simp at hl
  |cons q avp=>
   obtain⟨j,v⟩:=q;obtain⟨h1,h2⟩:=hp 0 _ _ rfl rfl;simp only at h1 h2;subst h1;simp only[rX]at h;split at h
   .cases h
   .rename_i off size dZ;split at h
    .rename_i hc;obtain⟨hlen,hle,a_⟩:=hc;have jw:=h2.EE a_;have dP:v.cells.size=size:=by have:=jw.1;simp at this;omega
     have hAs:cs.length=A.size:=by have:=hr.1;simpa using this
     have hA:(v.cells.zipIdx.foldl (λcs (x:Value×Nat)=>cs.setIfInBounds (off+x.2) x.1) A).toList=A.toList.take off++v.cells.toList++A.toList.drop (off+v.cells.toList.length):=by
      apply aAD;intro k;have hf:=PH off v.cells.toList 0 A k (by simp;omega)
      have e:v.cells.zipIdx.foldl (λcs (x:Value×Nat)=>cs.setIfInBounds (off+x.2) x.1) A=(v.cells.toList.zipIdx 0).foldl (λcs (x:Value×Nat)=>cs.setIfInBounds (off+x.2) x.1) A:=by
       rw[<-Array.foldl_toList];simp
      rw[aya,e,hf];simp only[Nat.add_zero,Nat.sub_zero,azj];by_cases h3:k<off
      .rw[if_neg aj,awv,awp (by simp;omega),awR,if_pos h3,aya]
      .by_cases h4:k<off+v.cells.size
       .rw[if_pos aj,awp (by simp;omega),awD (by simp;omega)]
        congr 1;simp;omega
       .rw[if_neg aj,awD (by simp;omega),axR,aya]
        congr 1;simp;omega
     have qt:=hr.eG off jw;rw[<-hA]at qt;obtain⟨A',h5,h6⟩:=Iy h qt (by simpa using hl) (λi p q mL BB=>hp (i+1) p q mL BB);refine⟨A',?_,h6⟩;simp only[aBx,dZ];rw[if_neg (by simp;omega)];exact h5
    .cases h
theorem J5{parts:Array (Nat×Operand)}(hr:∀x∈(parts.toList.map (·.2)),Rv Z (ρ x) (r x)):
 ∀(i:Nat) (p:Nat×IV) (q:Nat×Value),(parts.toList.map λ(y:Nat×Operand)=>(y.1,ρ y.2))[i]?=aa p->((parts.map λ(y:Nat×Operand)=>(y.1,r y.2)).toList)[i]?=aa q->p.1=q.1/\Rv Z p.2 q.2:=by
 intro i p q h1 h2;simp only[awu,awj,azJ]at h1 h2;obtain⟨a,ha,rfl⟩:=h1;obtain⟨b,hb,rfl⟩:=h2;rw[ha]at hb;cases hb;exact⟨rfl,hr _ (List.mem_map.2 ⟨a,awq ha,rfl⟩)⟩
theorem run_places{fields:List Field}(h:∀f∈fields,(aW P f.type).isSome=ab):
 (fields.mapM λf=>(do pure (f.offset,<-sizeOf f.type):Sem (Nat×Nat))).run P w=.ok (fields.map λf=>(f.offset,(aW P f.type).getD 0)) w:=by
 induction fields with
 |nil=>rfl
 |cons f fs ih=>
  obtain⟨s,hs⟩:=aym.1 (h f ay);rw[List.mapM_cons];simp only[awn,fE hs,awg,awz,ih (λg hg=>h g (by simp[hg])),awZ,hs,aw8]
theorem adS{t:TypeId}{parts:Array (Nat×Operand)}(hi:Inv N Z G w)(hr:∀x∈(parts.toList.map (·.2)),Rv Z (ρ x) (r x))(ho:o.op=.build t parts)(h:aA P ro ρ o G=aa out):
 bB P ro N Z w G r o out:=by
 unfold aA at h;rw[ho]at h;simp only at h;split at h
 .rename_i z fields hz hu;split at h
  .rename_i cs hf;split at h
   .rename_i bS;obtain rfl:=aY h;obtain⟨A',h1,h2⟩:=Iy (Z:=Z) hf (A:=z.cells) (aL.vi _) ay (J5 hr);refine bB.same hi (u:=.agg A') ?_ ?_
    .have hp:=run_places (P:=P) (w:=w) (fields:=fields.toList) (λf hf=>azv.1 bS f (by simpa using hf))
     have dZ:(fields.mapM λf=>(do pure (f.offset,<-sizeOf f.type):Sem (Nat×Nat))).run P w=.ok (fields.map λf=>(f.offset,(aW P f.type).getD 0)) w:=by
      rw[Array.mapM_eq_mapM_toList,Sem.run_map,hp];simp only[awg]
      congr 1
      apply ayR;simp
     have ajT:(λ(i:Nat)=>(fields.map λ(f:Field)=>(f.offset,(aW P f.type).getD 0))[i]?)=(λ(i:Nat)=>(fields[i]?).bind λ(f:Field)=>(aW P f.type).map λs=>(f.offset,s)):=by
      funext i;rw[Array.getElem?_map];cases hfi:fields[i]? with
      |none=>rfl
      |some f=>
       obtain⟨s,hs⟩:=aym.1 (azv.1 bS f (Array.mem_of_getElem? hfi));simp[hs]
     rw[<-ajT]at h1;simp only[execOp,ho,aBr,awn,l_ hz,bC hu,dZ,awg,h1,awz]
    .have:=Rv.agg (Z:=Z) cs A'.toList h2.1 h2.2;simpa using this
   .cases h
  .cases h
 .rename_i z n elem hz hu;split at h
  .rename_i s hs;split at h
   .rename_i cs hf;obtain rfl:=aY h;obtain⟨A',h1,h2⟩:=Iy (Z:=Z) hf (A:=z.cells) (aL.vi _) ay (J5 hr);refine bB.same hi (u:=.agg A') ?_ ?_
    .simp only[execOp,ho,aBr,awn,l_ hz,bC hu,fE hs,awg,h1,awz]
    .have:=Rv.agg (Z:=Z) cs A'.toList h2.1 h2.2;simpa using this
   .cases h
  .cases h
 .cases h
theorem Re{t:TypeId}{len:Nat}{parts:Array (Nat×Operand)}(hi:Inv N Z G w)(hr:∀x∈(parts.toList.map (·.2)),Rv Z (ρ x) (r x))(ho:o.op=.buildSlice t len parts)
 (h:aA P ro ρ o G=aa out):bB P ro N Z w G r o out:=by
 unfold aA at h;rw[ho]at h;simp only at h;split at h
 .rename_i elem hu;split at h
  .rename_i s z hs hz;split at h
   .cases h
   .rename_i hc;have cj:s≠0:=λe=>hc (.inl e);have DH:z.cells.size=s:=aw2 λe=>hc (.inr (.inl e))
    have Ns:len*s<=2 ^20:=by
     have:¬len*s>2 ^20:=λe=>hc (.inr (.inr e));omega
    split at h
    .rename_i cs hf;split at h
     .rename_i bD;obtain⟨hlen,a_⟩:=bD;have YQ:=EI z.cells s len DH cj;obtain⟨A',h1,h2⟩:=Iy (Z:=Z) hf (A:=((awE len z.cells.toList).flatten).toArray) (by simpa using GN z s len DH cj) ay (J5 hr)
      have gN:(execOp r o).run P w=.ok (.value (.slice (aa ⟨w.heap.size,0,ah⟩) len len)) {w with heap:=w.heap.push (.cells A' elem)}:=by
       simp only[execOp,ho,Instr.buildSlice,awn,bC hu,fE hs,awg];rw[if_neg aj];by_cases h0:len*s=0
       .have iP:len=0:=by rcases azT.1 h0 with h|h;exact h;exact absurd h cj
        have e0:aAc (len*s)= #[]:=by rw[h0];rfl
        have e1:((awE len z.cells.toList).flatten).toArray= #[]:=by rw[iP];rfl
        rw[e1]at h1;simp only[if_pos h0,awz,awg,e0,aAR,h1,newRow,awn,run_newObj]
       .simp only[h0,if_false,awn,l_ hz,awg,awz,YQ,h1];simp[newRow]
      split at h
      .rename_i iP;obtain rfl:=aY h;subst iP;intro hN;obtain⟨h3,h4⟩:=hi.push (ro:=ro) (w':={w with heap:=w.heap.push (.cells A' elem)}) (o:=.cells A' elem) rfl rfl rfl rfl;exact⟨_,_,_,.inl gN,.emp _,h3,h4⟩
      .obtain rfl:=aY h;intro hN;have hA:A'=A'.toList.toArray:=by simp
       obtain⟨h3,h4⟩:=hi.newRow (ro:=ro) (by simp at hN;omega) h2 elem;have hAl:cs.length=A'.size:=by have:=h2.1;simpa using this
       refine⟨_,_,_,.inl gN,?_,by simpa using h3,by simpa using h4⟩;exact .sl _ _ _ _ _ _ _ _ _ (cE _ _ _ _) (by simp;omega) (by simp;omega) aj (awe _) (λk hk=>by cases hk;exact⟨rfl,by simp;omega⟩) (λ_=>rfl)
     .cases h
    .cases h
  .cases h
 .cases h
theorem Sh{t:TypeId}{l c:Operand}(hi:Inv N Z G w)(qu:Rv Z (ρ l) (r l))(Ay:Rv Z (ρ c) (r c))(ho:o.op=.makeSlice t l c)
 (h:aA P ro ρ o G=aa out):bB P ro N Z w G r o out:=by
 unfold aA at h;rw[ho]at h;simp only at h;split at h
 .rename_i elem k1 li k2 ci hu hl hc;have el:=gh hl qu;have ec:=gh hc Ay;split at h
  .rename_i s z bytes hs hz hb;split at h
   .cases h
   .rename_i cn;have cj:s≠0:=λe=>cn (.inl e);have DH:z.cells.size=s:=aw2 λe=>cn (.inr (.inl e));have tx:0<=li/\li<=ci/\ci<=1000000:=aw2 λe=>cn (.inr (.inr (.inl e)))
    have WQ:bytes<=1000000:=by
     have:¬bytes>1000000:=λe=>cn (.inr (.inr (.inr e)));omega
    obtain⟨i,cw,Si,hti⟩:=GL hb w;have wl:awK.wrap li=li:=azN _ aj;have wc:awK.wrap ci=ci:=azN _ aj;have YQ:=EI z.cells s ci.toNat DH cj;have c1:¬ci<0:=aj
    have c2:¬(2 ^48:Int)<(i.bytes:Int)*ci:=by
     have h1:(i.bytes:Int)*ci<=1000000*1000000:=by
      have cB:(i.bytes:Int)<=1000000:=aj;exact Int.mul_le_mul cB tx.2.2 aj aj
     omega
    have c3:¬li<0:=aj;have c4:¬ci<li:=aj
    have gN:(execOp r o).run P w=.ok (.value (.slice (aa ⟨w.heap.size,0,ah⟩) li.toNat ci.toNat)) {w with heap:=w.heap.push (.cells ((awE ci.toNat z.cells.toList).flatten).toArray elem)}:=by
     simp only[execOp,ho,Instr.makeSlice,awn,bC hu,el,ec,asInt,asIntOf,awz,awg,hti,wl,wc,gt_iff_lt,c1,c2,c3,c4,decide_false,Bool.or_self,awA,if_false,run_askRoom,fE hs];by_cases h0:ci.toNat*s=0
     .have Gq:ci.toNat=0:=by rcases azT.1 h0 with h|h;exact h;exact absurd h cj
      have e0:aAc (ci.toNat*s)= #[]:=by rw[h0];rfl
      have e1:((awE ci.toNat z.cells.toList).flatten).toArray= #[]:=by rw[Gq];rfl
      simp only[if_pos h0,awz,awg,e0,e1,aAR,newRow,awn,run_newObj]
     .simp only[if_neg h0,awn,l_ hz,awg,awz,YQ,newRow,run_newObj]
    split at h
    .rename_i Gq;obtain rfl:=aY h;intro hN;obtain⟨h3,h4⟩:=hi.push (ro:=ro) (w':={w with heap:=w.heap.push (.cells ((awE ci.toNat z.cells.toList).flatten).toArray elem)}) (o:=.cells ((awE ci.toNat z.cells.toList).flatten).toArray elem) rfl rfl rfl rfl;have iP:li=0:=aj;subst Gq iP;exact⟨_,_,Z,.inl gN,.emp _,h3,h4⟩
    .obtain rfl:=aY h;intro hN;have h2:=GN (Z:=Z) z s ci.toNat DH cj;have hlen:=PG z s ci.toNat DH;obtain⟨h3,h4⟩:=hi.newRow (ro:=ro) (by simp at hN;omega) h2 elem;refine⟨_,_,_,.inl gN,?_,h3,h4⟩;have hle:li.toNat*s<=ci.toNat*s:=awL s aj;exact .sl _ _ _ _ _ _ _ _ _ (cE _ _ _ _) (by simp only[axo];rw[h2.1,hlen];exact hle) (by simp only[axo];rw[hlen];exact awe _) aj aj (λk hk=>by cases hk;exact⟨rfl,by simp only[axo];rw[h2.1,hlen];exact awe _⟩) (λ_=>rfl)
  .cases h
 .cases h
theorem ah2{x:IV}{v:Value}{n:Nat}(h:qi x=aa n)(hr:Rv Z x v)(w:World):(ayS v).run P w=.ok n w:=by
 unfold qi at h;split at h
 .rename_i l c;split at h
  .rename_i h0;cases h;cases hr;simp[ayS,h0]
  .cases h
 .cases h;cases hr;rfl
 .cases h;cases hr;rfl
 .cases h;cases hr;rfl
 .cases h;cases hr with
  |tree=>rfl
  |eB _ a=>cases a<;>rfl
 .cases h
theorem Wg{es:List IV}{s i j:Nat}(bD:∀e∈es,(cellsOf e).length=s)(hj:j<s):(es.flatMap cellsOf)[i*s+j]?=(es[i]?).bind λe=>(cellsOf e)[j]? :=by
 induction es generalizing i with
 |nil=>simp
 |cons e es ih=>
  have he:=bD e ay;rw[axP];cases i with
  |zero=>simp only[ay8,axo];rw[awp aj];rfl
  |succ i=>
   rw[awD (by rw[awU];omega),axI,<-ih (λe he=>bD e (by simp[he]))]
   congr 1
   rw[he,awU];omega
theorem Wh{es:List IV}{s:Nat}(bD:∀e∈es,(cellsOf e).length=s):(es.flatMap cellsOf).length=es.length*s:=by
 induction es with
 |nil=>simp
 |cons e es ih=>rw[axP,awi,bD e ay,ih (λe he=>bD e (by simp[he])),awJ,awU];omega
theorem GO{size n:Nat}{x:IV}{v:Value}{cs:List IV}(hi:Inv N Z G w)(h:fJ size n G x=aa cs)(hr:Rv Z x v):
 ∃vs:List Value,(∀w':World,w'.heap=w.heap->(axx size n v).run P w'=.ok vs.toArray w')/\aL Z cs vs:=by
 have iR:∀w':World,w'.heap=w.heap->∀a:Addr,w'.cell? a=w.cell? a:=λw' zh a=>by simp only[aAl,zh]
 unfold fJ at h;split at h
 .split at h
  .cases h;cases hr;exact⟨[],λw' _=>by simp[axx],aL.nil⟩
  .cases h
 .split at h
  .rename_i h0;cases h;cases hr;subst h0;exact⟨[],λw' _=>by simp[axx,loadCells,loadCellsFrom],aL.nil⟩
  .cases h
 .rename_i s;split at h
  .rename_i h0;cases h;cases hr;refine⟨(s.data.toList.take n).map λb=>.int .u8 b.toNat,λw' _=>?_,aL.of_map λa _=>.raw _⟩;simp only[axx,awz]
   congr 1
   apply ayR;simp
  .cases h
 .rename_i id off len cap ep s;split at h
  .rename_i hc;obtain⟨rfl,hn⟩:=hc;split at h
   .rename_i sI aD mn aM;split at h
    .rename_i hc;cases h;obtain⟨l,c,el,hl,GP,bf,DG,kc,mT⟩:=Ix (hi.obj id _ aM) hc.1 hc.2.1;cases hr with
     |sl _ _ _ _ _ _ l' k a cz hle Jn hs tx jG ha=>
      rw[hl]at cz;cases cz;have hmul:n*s<=len*s:=awL s hn;have zg:(((c.toList.take l.n).drop off).take (n*s)).length=n*s:=by simp;omega
      have e1:(sI.drop off).take (n*s)=((sI.take l.n).drop off).take (n*s):=by
       rw[aA3,azi];congr 1;omega
      refine⟨((c.toList.take l.n).drop off).take (n*s),λw' zh=>?_,?_⟩
      .simp only[axx];rcases aAC n with h0|h0
       .subst h0;simp[loadCells,loadCellsFrom]
       .have ea:=ha aj;subst ea
        have YM:BA w l.b off (((c.toList.take l.n).drop off).take (n*s)):=by
         have:=Wb (YJ (Ly DG l.n) off) (n*s);simpa using this
        have:=run_loadCells_list (P:=P) w' ⟨l.b,off,ah⟩ _ (λj v hj=>by rw[iQ,iR w' zh];exact YM j v hj);rwa[zg]at this
      .rw[e1];exact(mT.drop off).take _
    .cases h
   .cases h
  .cases h
 .rename_i s es;split at h
  .rename_i hc;obtain⟨rfl,hn⟩:=hc;cases h;cases hr with
   |tree _ _ b off c us hs hc bD hu hh=>
    have hmul:n*s<=es.length*s:=awL s hn;have ajU:∀e∈es.take n,(cellsOf e).length=s:=λe he=>bD e (axv he);have hlen:((es.take n).flatMap cellsOf).length=n*s:=by rw[Wh ajU,axe,azg hn]
    refine⟨(axt (n*s)).map us,λw' zh=>?_,by simp[hlen],λi x v hx hv=>?_⟩
    .simp only[axx];rw[run_loadCells (P:=P) w' ⟨b,off,ah⟩ (n*s) us];intro j hj;rw[iQ,iR w' zh];have hm:=hu j aj;unfold qq at hm;cases hb:Z.m b with
     |none=>simp[hb]at hm
     |some c=>
      obtain⟨el,f,hh'⟩:=hi.mem b c hb;rw[cell_of hh'];simpa[hb]using hm
    .have arW:i<n*s:=by have:=(awa.1 hx).1;omega
     have Jo:v=us i:=by
      simp[arW]at hv;exact hv.symm
     subst Jo;have hq:i/s*s+i % s=i:=Nat.div_add_mod' i s;have hj:i % s<s:=Nat.mod_lt _ hs;rw[<-hq,Wg ajU hj]at hx;rw[awx]at hx;obtain⟨e,he,tz⟩:=hx;rw[awR]at he;split at he
     .have:=hh _ _ _ _ he tz;rwa[hq]at this
     .cases he
   |eB _ a c hs hz=>
    obtain rfl:n=0:=by simpa using hn
    refine⟨[],λw' zh=>?_,by simp,λi x v hx hv=>by simp at hx⟩;cases a<;>simp[axx,loadCells,loadCellsFrom]
  .cases h
 .cases h
theorem PI(aE:Nat):∀(k c:Nat),c<=aE+(aE+768)/4->aAE aE k c<=aE+(aE+768)/4
 |0,c,h=>h
 |k+1,c,h=>by
  unfold aAE;split
  .exact h
  .exact PI aE k _ aj
theorem YR{aE cG:Nat}(h:cG<aE):ayb aE cG<=4*aE+4096:=by
 unfold ayb;split
 .omega
 .split
  .omega
  .have:=PI aE 4 cG aj;omega
theorem Inv.grown(hi:Inv N Z G w)(hN:G.n<N){cs:List IV}{vs:List Value}(hr:aL Z cs vs)(rest:List Value)(el:TypeId){size m c:Nat}(hs:0<size)(hm:cs.length=m*size)
 (hc:(vs++rest).length=c*size)(WR:m<=c):
 let w':World:={w with heap:=w.heap.push (.cells (vs++rest).toArray el),drawn:=w.drawn+1}
 ∃aK,Rv aK (.sl G.n 0 m ah 0 size) (.slice (aa ⟨w.heap.size,0,ah⟩) m c)/\Inv N aK (G.add (.cells cs 0 0)) w'/\Le ro Z w G aK w' (G.add (.cells cs 0 0)):=by
 intro w';obtain⟨h1,h2⟩:=hi.WO (ro:=ro) hN hr rest el (w':=w') rfl rfl rfl rfl;exact⟨_,.sl _ _ _ _ _ _ _ _ _ (cE _ _ _ _) (by simp[hm]) (by simp only[axo];rw[hc];exact awe _) hs WR (λk hk=>by cases hk) (λ_=>rfl),h1,h2⟩
theorem Inv.ajV(hi:Inv N Z G w){id aD mn:Nat}{cs new:List IV}{cO:List Value}(aM:G.at id=aa (.cells cs aD mn))(ej:ro<=id)(hr:aL Z new cO)
 {l:Loc}{c:Array Value}{el:TypeId}(hl:Z id aD=aa l)(DG:w.heap[l.b]?=aa (.cells c el (0,0)))(ak:cs.length+cO.length<=c.size):
 let w':=w.setRow l.b (c.toList.take cs.length++cO++c.toList.drop (cs.length+cO.length)).toArray
 let aK:=eJ Z id (aD+1) ⟨l.b,cs.length+new.length,l.DF⟩
 Inv N aK (G.put id (.cells (cs++new) (aD+1) mn)) w'/\Le ro Z w G aK w' (G.put id (.cells (cs++new) (aD+1) mn)):=by
 intro w' aK;have eK:=hi.obj id _ aM;obtain⟨⟨uU,fC⟩,⟨l0,iP,ma⟩,bS⟩:=eK;obtain rfl:l=l0:=by rw[hl]at iP;exact ayh iP
 have jT:Z id (aD+1)=ah:=fC _ aj;have iF:=l9 (l:=⟨l.b,cs.length+new.length,l.DF⟩) jT
 have kc:l.DF=c.size:=by
  obtain⟨l2,c2,Sj,h1,_,h3,h4,_⟩:=bS aD uU (awe _);rw[hl]at h1;cases h1;rw[DG]at h3;cases h3;exact h4
 have zh:w'.heap[l.b]?=aa (.cells (c.toList.take cs.length++cO++c.toList.drop (cs.length+cO.length)).toArray el (0,0)):=setRow_heap w l.b c _ el _ DG;have zg:=hr.1;refine hi.put aM ej ⟨_,_,hl⟩ iF (λi bg e=>by simp[aK,eJ,bg]) ?_ (by simp only[w'];rw[setRow_size];exact awe _) (λb _ fC=>wV _ _ _ _ ?_) rfl rfl rfl ?_
 .intro b hb;rcases o7 hb with hb|⟨_,hb⟩
  .exact .inl hb
  .subst hb;exact .inl ⟨_,_,hl,rfl⟩
 .intro e;subst e;exact fC ⟨_,_,hl,rfl⟩
 .refine⟨⟨by omega,λe he=>?_⟩,⟨_,cE _ _ _ _,by simp⟩,λe he fM=>?_⟩
  .have:e≠aD+1:=aj;simp[aK,eJ,this,fC e aj]
  .by_cases PJ:e=aD+1
   .subst PJ;refine⟨_,_,el,cE _ _ _ _,by simp,zh,by simp;omega,λk x hk hx=>?_⟩;obtain⟨l2,c2,Sj,h1,_,h3,_,h5⟩:=bS aD uU (awe _);rw[hl]at h1;cases h1;rw[DG]at h3;cases h3;by_cases yd:k<cs.length
    .rw[awp yd]at hx;obtain⟨u,hu,kJ⟩:=h5 k x aj hx;refine⟨u,?_,kJ.mono iF⟩;rw[axY,awv,awp (by simp;omega),awR,if_pos yd];simpa using hu
    .rw[awD aj]at hx;obtain⟨u,hu,kJ⟩:=hr.get hx;have GQ:=(awa.1 hu).1;refine⟨u,?_,kJ.mono iF⟩;rw[axY,awp (by simp;omega),awD (by simp;omega)];simp only[axe,azj,azg (show cs.length<=c.size by omega)];exact hu
   .obtain⟨l2,c2,Sj,h1,h2,h3,h4,h5⟩:=bS e he aj;by_cases WQ:l2.b=l.b
    .rw[WQ,DG]at h3;cases h3;refine⟨l2,_,el,iF _ _ _ h1,by simp;omega,by rw[WQ];exact zh,by simp;omega,λk x hk hx=>?_⟩;rw[awp aj]at hx;obtain⟨u,hu,kJ⟩:=h5 k x hk hx;refine⟨u,?_,kJ.mono iF⟩;rw[axY,awv,awp (by simp;omega),awR,if_pos aj];simpa using hu
    .refine⟨l2,c2,Sj,iF _ _ _ h1,by simp;omega,by simp only[w'];rw[wV _ _ _ _ WQ];exact h3,h4,λk x hk hx=>?_⟩;rw[awp aj]at hx;obtain⟨u,hu,kJ⟩:=h5 k x hk hx;exact⟨u,hu,kJ.mono iF⟩
theorem Inv.ah3(hi:Inv N Z G w){id aD mn:Nat}{cs new:List IV}{C5 cO:List Value}(aM:G.at id=aa (.cells cs aD mn))(ej:ro<=id)(arX:aL Z cs C5)(hr:aL Z new cO)
 (rest:List Value)(el:TypeId):
 let w':World:={w with heap:=w.heap.push (.cells (C5++cO++rest).toArray el),drawn:=w.drawn+1}
 let aK:=eJ Z id (aD+1) ⟨w.heap.size,cs.length+new.length,(C5++cO++rest).length⟩
 Inv N aK (G.put id (.cells (cs++new) (aD+1) mn)) w'/\Le ro Z w G aK w' (G.put id (.cells (cs++new) (aD+1) mn)):=by
 intro w' aK;have eK:=hi.obj id _ aM;obtain⟨⟨uU,fC⟩,⟨l0,iP,ma⟩,bS⟩:=eK;have jT:Z id (aD+1)=ah:=fC _ aj;have iF:=l9 (l:=⟨w.heap.size,cs.length+new.length,(C5++cO++rest).length⟩) jT;have hold:∀b,b<w.heap.size->w'.heap[b]?=w.heap[b]? :=λb hb=>by simp only[w'];rw[ayK,if_neg aj]
 have zh:w'.heap[w.heap.size]?=aa (.cells (C5++cO++rest).toArray el (0,0)):=by simp[w']
 refine hi.put aM ej ⟨_,_,iP⟩ iF (λi bg e=>by simp[aK,eJ,bg]) ?_ (by simp[w']) (λb hb _=>hold b hb) rfl rfl rfl ?_
 .intro b hb;rcases o7 hb with hb|⟨_,hb⟩
  .exact .inl hb
  .subst hb;exact .inr ⟨awe _,by simp[w']⟩
 .refine⟨⟨by omega,λe he=>?_⟩,⟨_,cE _ _ _ _,by simp⟩,λe he fM=>?_⟩
  .have:e≠aD+1:=aj;simp[aK,eJ,this,fC e aj]
  .by_cases PJ:e=aD+1
   .subst PJ;refine⟨_,_,el,cE _ _ _ _,by simp,zh,by simp,λk x hk hx=>?_⟩;obtain⟨u,hu,kJ⟩:=(arX.append hr).get hx;have GQ:=(awa.1 hu).1;refine⟨u,?_,kJ.mono iF⟩;rw[axY,awp GQ];exact hu
   .obtain⟨l2,c2,Sj,h1,h2,h3,h4,h5⟩:=bS e he aj;have ak:l2.b<w.heap.size:=hi.gE id _ ⟨_,_,h1,rfl⟩;refine⟨l2,c2,Sj,iF _ _ _ h1,by simp;omega,by rw[hold _ ak];exact h3,h4,λk x hk hx=>?_⟩;rw[awp aj]at hx;obtain⟨u,hu,kJ⟩:=h5 k x hk hx;exact⟨u,hu,kJ.mono iF⟩
def DI(P:Program)(ro:Nat)(N:Nat)(Z:Io)(w:World)(G:St)(s:Sem Value)(v:IV)(au:St):Prop:=
 ∃u w' aK,s.run P w=.ok u w'/\Rv aK v u/\Inv N aK au w'/\Le ro Z w G aK w' au
theorem Nt(aE cG:Nat)(el:TypeId)(w:World):∃c,aE<=c/\(choose (.appendCap aE cG el)).run P w=.ok c {w with drawn:=w.drawn+1}:=by
 refine⟨(Question.appendCap aE cG el).cut (w.tape w.drawn (.appendCap aE cG el)),?_,?_⟩
 .simp only[Question.cut];omega
 .simp[choose,axX,ax7]
structure DJ(P:Program)(elem:TypeId)(size bytes bj n:Nat)(zero:Value):Prop where
 avq:aW P elem=aa size
 hzero:cZ P elem=aa zero
 ajW:(P.info? elem).map (·.bytes)=aa bytes
 wW:size≠0
 hz:zero.cells.size=size
 Ns:(4*(bj+n)+4096)*bytes<=2 ^47
 YS:bj+n<=2 ^40
def So:TypeDesc->Bool
 | .int _=>ab
 | _=>af
theorem GR{xd:TypeDesc}(h:∀k,xd≠.int k):So xd=af:=by cases xd<;>first|rfl|grind
structure ZQk (elem:TypeId)(base:Option Addr)(bj fm size:Nat)(x:Value) where
 big:Bool->Sem Value
 rest:Bool->Nat->Sem Value
 eq:∀{P:Program}{w:World}{argTypes:Array TypeId}{ty sT xT:TypeId},argTypes[0]?=aa sT->argTypes[1]?=aa xT->P.underlying sT=aa (.slice elem)->aW P elem=aa size->
  (ayG argTypes ty #[.slice base bj fm,x]).run P w=(do
   let u<-underlying xT
   let iU<-pure (So u)
   if iU then big iU
   else do
    let n<-ayS x
    rest iU n).run P w
def zQk(elem:TypeId)(base:Option Addr)(bj fm size:Nat)(x:Value):ZQk elem base bj fm size x:=by
 apply ZQk.mk
 intro P w argTypes ty sT xT h0 h1 hu hs
 unfold ayG
 rw[h0,h1]
 show axX P (do
  let __x<-underlying sT
  _) w=_
 rw[awn,bC hu,awg]
 show axX P (do
  let size<-sizeOf elem
  _) w=_
 rw[awn,fE hs,awg]
 rfl
def p7(elem:TypeId)(iU:Bool)(base:Option Addr)(bj fm size n:Nat)(x:Value):Sem Value:=(zQk elem base bj fm size x).rest iU n
theorem zQc{z:Value}{size n:Nat}(h:z.cells.size=size)(hs:size≠0):ayu z.cells n=((awE n z.cells.toList).flatten).toArray:=by
 unfold ayu
 rw[h]
 have:=EI z.cells size n h hs
 rwa[h]at this
def xC(P:Program)(elem:TypeId)(size n:Nat)(x:Value)(cO:List Value)(w:World):Bool->Prop
 | af=>(axx size n x).run P w=.ok cO.toArray w
 | ab=>∃z,cZ P elem=aa z/\z.cells.size=size/\size≠0/\cO=(awE n z.cells.toList).flatten
theorem Nu{elem:TypeId}{iU:Bool}{base:Option Addr}{bj fm size n:Nat}{x:Value}{cO:List Value}(hle:bj+n<=fm)(gk:xC P elem size n x cO w iU):
  (p7 elem iU base bj fm size n x).run P w=(match base with
   | aa a=>(storeCells (a.add (bj*size)) cO).run P w
   | ah=>.ok () w).andThen fun _ w'=>.ok (.slice base (bj+n) fm) w':=by
 cases iU
 .have hn:(axx size n x).run P w=_:=gk
  simp only[p7,zQk,if_pos hle,awn]
  cases base<;>simp[hn]
 have⟨z,h0,h1,h2,h3⟩:=gk
 subst h3
 simp only[p7,zQk,if_pos hle,awn]
 by_cases h4:n=0
 .subst h4
  cases base<;>simp
 .cases base<;>simp[l_ h0,zQc h1 h2,h4,h2,Nat.mul_ne_zero h4 h2]
theorem Sl{elem:TypeId}{iU:Bool}{base:Option Addr}{bj fm size n bytes:Nat}{zero x:Value}{C5 cO:List Value}(ha:DJ P elem size bytes bj n zero)(Sn:¬bj+n<=fm)
  (gk:∀d,xC P elem size n x cO {w with drawn:=d} iU) (hold:∀d,(axx size bj (.slice base bj fm)).run P {w with drawn:=d}=.ok C5.toArray {w with drawn:=d}):
  ∃c rest,bj+n<=c/\rest.length=(c-(bj+n))*size/\
   (p7 elem iU base bj fm size n x).run P w=.ok (.slice (aa ⟨w.heap.size,0,ah⟩) (bj+n) c) {w with heap:=w.heap.push (.cells (C5++cO++rest).toArray elem),drawn:=w.drawn+1}:=by
 have⟨i,hi,hb,hti⟩:=GL ha.ajW w
 have arY:∀w':World,(typeInfo elem).run P w'=.ok i w':=fun w'=>by simp[typeInfo,hi]
 have⟨c,hc,hch⟩:=Nt (P:=P) (bj+n) fm elem w
 have ho:=hold (w.drawn+1)
 have h1:¬((bj+n:Nat):Int) > awK.max:=by
  have:awK.max=9223372036854775807:=by decide
  have:=ha.YS
  omega
 have h2:¬ayb (bj+n) fm*i.bytes>2 ^ 48:=by
  have jG:=YR (aE:=bj+n) (cG:=fm) (by omega)
  have:ayb (bj+n) fm*i.bytes<=(4*(bj+n)+4096)*i.bytes:=awL _ jG
  have:=ha.Ns
  grind
 have qX:(zeroValue elem).run P {w with drawn:=w.drawn+1}=.ok zero {w with drawn:=w.drawn+1}:=l_ ha.hzero _
 have iW:ayu zero.cells (c-(bj+n))=((awE (c-(bj+n)) zero.cells.toList).flatten).toArray:=by
  unfold ayu
  rw[ha.hz]
  have:=EI zero.cells size (c-(bj+n)) ha.hz ha.wW
  simp_all[ha.hz]
 refine⟨c,(awE (c-(bj+n)) zero.cells.toList).flatten,hc,PG zero size _ ha.hz,?_⟩
 cases iU
 .have hn:(axx size n x).run P {w with drawn:=w.drawn+1}=_:=gk (w.drawn+1)
  simp only[p7,zQk,if_neg Sn,awn,arY,awg,h1,false_and,if_false,h2,hch,run_askRoom,Bool.not_false,if_true,awz,List.getElem_toArray,List.getElem_cons_zero,List.getElem_cons_succ,ho,hn,qX,iW,newRow,run_newObj]
  simp
 have⟨z,k0,k1,k2,k3⟩:=gk (w.drawn+1)
 cases ha.hzero.symm.trans k0
 subst k3
 have hN:n≠0->n*size≠0:=fun h=>Nat.mul_ne_zero h k2
 have hz':=zQc (n:=n) k1 k2
 by_cases h4:n=0
 .subst h4
  simp only[p7,zQk,if_neg Sn,awn,arY,awg,h1,false_and,if_false,h2,hch,run_askRoom,Bool.not_true,awA,Nat.zero_mul,if_true,awz,List.getElem_toArray,List.getElem_cons_zero,ho,qX,iW,newRow,run_newObj]
  simp
 .simp only[p7,zQk,if_neg Sn,awn,arY,awg,h1,false_and,if_false,h2,hch,run_askRoom,Bool.not_true,awA,if_neg (hN h4),awz,List.getElem_toArray,List.getElem_cons_zero,ho,hz',qX,iW,newRow,run_newObj]
  simp
theorem Wi{argTypes:Array TypeId}{ty sT xT elem:TypeId}{xd:TypeDesc}{base:Option Addr}{bj fm size n:Nat}{x:Value}(h0:argTypes[0]?=aa sT)(h1:argTypes[1]?=aa xT)
  (hu:P.underlying sT=aa (.slice elem)) (hx:P.underlying xT=aa xd) (hd:∀k,xd≠.int k) (hs:aW P elem=aa size) (hn:(ayS x).run P w=.ok n w):
  (ayG argTypes ty #[.slice base bj fm,x]).run P w=(p7 elem af base bj fm size n x).run P w:=by
 rw[(zQk elem base bj fm size x).eq h0 h1 hu hs,awn,bC hx,awg,GR hd]
 show axX P (do
  let n<-ayS x
  _) w=_
 rw[awn,hn,awg]
 rfl
theorem Wj{argTypes:Array TypeId}{ty sT xT elem:TypeId}{k:IntKind}{base:Option Addr}{bj fm size bytes:Nat}{l:Int}(h0:argTypes[0]?=aa sT)(h1:argTypes[1]?=aa xT)
  (hu:P.underlying sT=aa (.slice elem)) (hx:P.underlying xT=aa (.int k)) (hs:aW P elem=aa size) (hb:(P.info? elem).map (·.bytes)=aa bytes) (iP:0<=l) (mM:l<=1000000)
  (Ns:l.toNat*bytes<=2 ^ 48):
  (ayG argTypes ty #[.slice base bj fm,.int .i64 l]).run P w=(p7 elem ab base bj fm size l.toNat (.int .i64 l)).run P w:=by
 have⟨i,hi,Si,hti⟩:=GL hb w
 have wl:awK.wrap l=l:=azN _ (by omega)
 have c1:¬l < 0:=by omega
 have c2:¬l*(i.bytes:Int)>2 ^ 48:=by
  grind
 rw[(zQk elem base bj fm size _).eq h0 h1 hu hs,awn,bC hx,awg]
 show axX P (if awK.wrap l < 0 then _ else (do
  let t<-typeInfo elem
  if awK.wrap l*(t.bytes:Int)>2 ^ 48 then _ else _)) w=_
 rw[wl,if_neg c1,awn,hti,awg,if_neg c2]
 rfl
theorem Sp{size n:Nat}{zero:Value}{xd:TypeDesc}{x:IV}{vx:Value}{new:List IV}{elem:TypeId}(hi:Inv N Z G w)(hs:size≠0)(hz:zero.cells.size=size)(qX:cZ P elem=aa zero)
 (h:uT size zero xd G x=aa (n,new))(hx:Rv Z x vx):
 ∃cO,aL Z new cO/\(∀d,xC P elem size n vx cO {w with drawn:=d} (So xd))/\
  ((∃k,xd=.int k/\∃l,vx=.int .i64 l/\0<=l/\l<=1000000/\n=l.toNat)\/((∀k,xd≠.int k)/\(ayS vx).run P w=.ok n w)):=by
 unfold uT at h;split at h
 .rename_i k;split at h
  .rename_i l;split at h
   .rename_i hl;cases h;cases hx;refine⟨_,GN zero size l.toNat hz hs,λd=>?_,.inl ⟨k,rfl,l,rfl,hl.1,hl.2,rfl⟩⟩;exact ⟨_,qX,hz,hs,rfl⟩
   .cases h
  .cases h
 .rename_i hd;split at h
  .rename_i n' hn;split at h
   .rename_i cs hc;cases h;obtain⟨vs,h1,h2⟩:=GO (P:=P) hi hc hx;refine⟨vs,h2,λd=>?_,.inr ⟨hd,ah2 hn hx w⟩⟩;rw [GR hd];exact h1 _ rfl
   .cases h
  .cases h
theorem EJ{elem:TypeId}{iU:Bool}{size bytes bj n fm:Nat}{zero vx:Value}{base:Option Addr}{s v:IV}{new:List IV}{cO:List Value}{au:St}(hi:Inv N Z G w)
 (ha:DJ P elem size bytes bj n zero)(Sn:¬bj+n<=fm)(hr:aL Z new cO)(hlen:new.length=n*size)(gk:∀d,xC P elem size n vx cO {w with drawn:=d} iU)
 (hs:Rv Z s (.slice base bj fm))(h:gb size bj n new s G=aa (.val v au))(hN:au.n<=N):
 DI P ro N Z w G (p7 elem iU base bj fm size n vx) v au:=by
 unfold gb at h;split at h
 .rename_i cG ho;split at h
  .rename_i DK;cases h;obtain⟨C5,h1,h2⟩:=GO (P:=P) hi ho hs;obtain⟨c,rest,hc,qu,gN⟩:=Sl (base:=base) ha Sn gk (λd=>h1 _ rfl);have wW:=ha.wW
   obtain⟨aK,r1,r2,r3⟩:=hi.grown (ro:=ro) (by simp at hN;omega) (h2.append hr) rest elem (size:=size) (m:=bj+n) (c:=c) aj (by simp[DK,hlen,awU])
    (by
     have e1:=h2.1;have e2:=hr.1;simp only[awi,qu,<-e1,<-e2,DK,hlen];rw[<-awU,<-awU]
     congr 1;omega) hc
   exact⟨_,_,aK,gN,r1,r2,r3⟩
  .cases h
 .cases h
theorem Inv.shrink(hi:Inv N Z G w){id aD mn k:Nat}{cs:List IV}{l:Loc}(aM:G.at id=aa (.cells cs aD mn))(ej:ro<=id)(hl:Z id aD=aa l)(hk:k<=cs.length):
 Inv N (eJ Z id (aD+1) ⟨l.b,k,l.DF⟩) (G.put id (.cells (cs.take k) (aD+1) (aD+1))) w/\Le ro Z w G (eJ Z id (aD+1) ⟨l.b,k,l.DF⟩) w (G.put id (.cells (cs.take k) (aD+1) (aD+1))):=by
 obtain⟨⟨uU,fC⟩,⟨l0,iP,ma⟩,bS⟩:=hi.obj id _ aM;obtain rfl:l=l0:=by rw[hl]at iP;exact ayh iP
 have jT:Z id (aD+1)=ah:=fC _ aj;have iF:=l9 (l:=⟨l.b,k,l.DF⟩) jT;refine hi.put aM ej ⟨_,_,hl⟩ iF (λi bg e=>by simp[eJ,bg]) ?_ (awe _) (λ_ _ _=>rfl) rfl rfl rfl ?_
 .intro b hb;rcases o7 hb with hb|⟨_,hb⟩
  .exact .inl hb
  .subst hb;exact .inl ⟨_,_,hl,rfl⟩
 .refine⟨⟨awe _,λe he=>?_⟩,⟨_,cE _ _ _ _,by simp;omega⟩,λe he fM=>?_⟩
  .have:e≠aD+1:=aj;simp[eJ,this,fC e aj]
  .have PJ:e=aD+1:=aj;subst PJ;obtain⟨l2,c2,Sj,h1,_,h3,h4,h5⟩:=bS aD uU (awe _);rw[hl]at h1;cases h1;refine⟨_,c2,Sj,cE _ _ _ _,by simp;omega,h3,h4,λj x hj hx=>?_⟩;simp only at hj;rw[awR,if_pos hj]at hx;obtain⟨u,hu,kJ⟩:=h5 j x aj hx;exact⟨u,hu,kJ.mono iF⟩
theorem GS{elem:TypeId}{iU:Bool}{st bytes bj n id aD mn c:Nat}{zero vx:Value}{new cs:List IV}{cO:List Value}{l:Loc}{a:Addr}(hi:Inv N Z G w)
 (ha:DJ P elem st bytes bj n zero)(hr:aL Z new cO)(hlen:new.length=n*st)(a_:new.all ao=ab)(gk:∀d,xC P elem st n vx cO {w with drawn:=d} iU)
 (aM:G.at id=aa (.cells cs aD mn))(ej:ro<=id)(hl:Z id aD=aa l)(hn:0+bj*st<=l.n)(kc:0+c*st<=l.DF)(cj:0<st)(hle:bj<=c)(LB:0<c->a=⟨l.b,0,ah⟩)
 (tx:bj*st=cs.length)(h0:¬n=0):
 DI P ro N Z w G (p7 elem iU (aa a) bj c st n vx) (.sl id 0 (bj+n) ah (aD+1) st) (G.put id (.cells (cs++new) (aD+1) mn)):=by
 have hw:({w with drawn:=w.drawn}:World)=w:=rfl;have YT:Rv Z (.sl id 0 bj ah aD st) (.slice (aa a) bj c):=.sl _ _ _ _ _ _ l c a hl hn kc cj hle (λk hk=>by cases hk) LB;obtain⟨⟨uU,_⟩,⟨l3,h3,h4⟩,_⟩:=hi.obj id _ aM;rw[hl]at h3;cases h3;by_cases vn:bj+n<=c
 .obtain⟨l2,cc,el,gg,Nv,avW,DG,avr,_⟩:=Ix (hi.obj id _ aM) uU (awe _);rw[hl]at gg;cases gg;have hmul:(bj+n)*st<=c*st:=awL st vn;have zg:=hr.1;have ak:cs.length+cO.length<=cc.size:=by rw[awU]at hmul;omega
  obtain⟨r1,r2⟩:=hi.ajV (ro:=ro) aM ej hr hl DG ak;have Sq:=LB aj;subst Sq;refine⟨.slice (aa ⟨l.b,0,ah⟩) (bj+n) c,_,_,?_,?_,r1,r2⟩
  .rw[Nu vn (gk w.drawn),hw];simp only[iQ,axo,tx,vm (P:=P) DG ak (EH hr a_),awg]
  .exact .sl _ _ _ _ _ _ _ c _ (cE _ _ _ _) (by simp only[axo,hlen,<-tx,awU];exact awe _) kc cj vn (λk hk=>by cases hk) (λ_=>rfl)
 .have WS:fJ st bj G (.sl id 0 bj ah aD st)=aa cs:=by
   simp only[fJ,aM];simp[uU,tx]
  obtain⟨C5,h5,h6⟩:=GO (P:=P) hi WS YT;obtain⟨c',rest,pM,qu,gN⟩:=Sl (base:=aa a) ha vn gk (λd=>h5 _ rfl);obtain⟨r1,r2⟩:=hi.ah3 (ro:=ro) aM ej h6 hr rest elem;refine⟨_,_,_,gN,?_,r1,r2⟩;refine .sl _ _ _ _ _ _ _ c' _ (cE _ _ _ _) ?_ ?_ cj pM (λk hk=>by cases hk) (λ_=>rfl)
  .simp only[axo,hlen,<-tx,awU];exact awe _
  .have e1:=h6.1;have e2:=hr.1;simp only[axo,awi,qu,<-e1,<-e2,hlen,<-tx];rw[<-awU,<-awU];exact awL _ aj
theorem Wk{elem:TypeId}{iU:Bool}{size bytes bj n:Nat}{zero vs vx:Value}{s v:IV}{new:List IV}{cO:List Value}{au:St}(hi:Inv N Z G w)
 (ha:DJ P elem size bytes bj n zero)(hr:aL Z new cO)(hlen:new.length=n*size)(a_:new.all ao=ab)(gk:∀d,xC P elem size n vx cO {w with drawn:=d} iU)
 (hs:Rv Z s vs)(wC:qi s=aa bj)(h:fj ro size bj n new s G=aa (.val v au))(hN:au.n<=N):
 ∃base fm,vs=.slice base bj fm/\DI P ro N Z w G (p7 elem iU base bj fm size n vx) v au:=by
 have hw:({w with drawn:=w.drawn}:World)=w:=rfl;have wW:=ha.wW
 have stay:∀{base:Option Addr} {fm:Nat},n=0->bj<=fm->(∃a,base=aa a)\/base=ah->∀{u:IV},Rv Z u (.slice base bj fm)->
  DI P ro N Z w G (p7 elem iU base bj fm size n vx) u G:=by
  intro base fm h0 hle hb u hu;subst h0;have hv:cO=[]:=awG (by have:=hr.1;rw[ay8]at hlen;omega);subst hv;refine⟨_,w,Z,?_,hu,hi,Le.refl _ _ _ _⟩;rw[Nu (by simpa using hle) (gk w.drawn)];cases base<;>simp[storeCells]
 unfold fj at h;split at h
 .rename_i l c;split at h
  .rename_i tx;obtain⟨rfl,rfl⟩:=tx;have e0:bj=0:=by simp[qi]at wC;exact wC.symm
   subst e0;cases hs;refine⟨ah,0,rfl,?_⟩;split at h
   .rename_i h0;cases h;exact stay h0 (awe _) (.inr rfl) (.raw _)
   .rename_i h0;exact EJ hi ha aj hr hlen gk (.raw _) h hN
  .cases h
 .have e0:bj=0:=by simp[qi]at wC;exact wC.symm
  subst e0;cases hs with
  |emp a=>
   refine⟨aa a,0,rfl,?_⟩;split at h
   .rename_i h0;cases h;exact stay h0 (awe _) (.inl ⟨a,rfl⟩) (.emp a)
   .rename_i h0;exact EJ hi ha aj hr hlen gk (.emp a) h hN
 .rename_i st es;have e0:bj=es.length:=by simp[qi]at wC;exact wC.symm
  subst e0;split at h
  .rename_i h0;cases h;cases hs with
   |tree _ _ b off c us cj hc bD hu hh=>exact⟨_,c,rfl,stay h0 hc (.inl ⟨_,rfl⟩) (.tree _ _ b off c us cj hc bD hu hh)⟩
   |eB _ a c cj hn=>exact⟨a,c,rfl,stay h0 (aw5 _) (by cases a with|none=>exact .inr rfl|some a=>exact .inl ⟨a,rfl⟩) (.eB _ a c cj hn)⟩
  .cases h
 .rename_i id off len cap ep st;have e0:bj=len:=by simp[qi]at wC;exact wC.symm
  subst e0;split at h
  .cases h
  .rename_i cy;have cy:st=size:=aw2 cy;subst cy;cases hs with
   |sl _ _ _ _ _ _ l c a hl hn kc cj hle jG LB=>
    refine⟨aa a,c,rfl,?_⟩;have YT:Rv Z (.sl id off bj cap ep st) (.slice (aa a) bj c):=.sl _ _ _ _ _ _ l c a hl hn kc cj hle jG LB;split at h
    .rename_i h0;cases h;exact stay h0 hle (.inl ⟨a,rfl⟩) YT
    .rename_i h0;split at h
     .rename_i k;have hck:=(jG k rfl).1;subst hck;split at h
      .rename_i vn;split at h
       .rename_i cs aD mn aM;split at h
        .rename_i hc;obtain⟨ej,rfl,YL⟩:=hc;cases h;have aob:off+bj*st+new.length<=cs.length:=by rw[hlen];rw[awU]at YL;omega
         obtain⟨l2,cc,el,gg,DG,ak,r1,r2⟩:=hi.write (ro:=ro) aM ej aob hr;rw[hl]at gg;cases gg
         have GP:l.n=cs.length:=by
          obtain⟨_,⟨l3,h3,h4⟩,_⟩:=hi.obj id _ aM;rw[hl]at h3;cases h3;exact h4
         have Sq:=LB aj;subst Sq;refine⟨.slice (aa ⟨l.b,off,ah⟩) (bj+n) c,_,Z,?_,?_,r1,r2⟩
         .rw[Nu vn (gk w.drawn),hw];simp only[iQ,vm (P:=P) DG ak (EH hr a_),awg]
         .exact .sl _ _ _ _ _ _ l c _ hl aj kc cj vn jG (λ_=>rfl)
        .cases h
       .cases h
      .rename_i vn;exact EJ hi ha vn hr hlen gk YT h hN
     .split at h
      .rename_i cs aD mn aM;split at h
       .rename_i hc;obtain⟨ej,rfl,rfl,tx⟩:=hc;cases h;exact GS hi ha hr hlen a_ gk aM ej hl hn kc cj hle LB tx h0
       .split at h
        .rename_i hc;obtain⟨ej,rfl,rfl,tx⟩:=hc;cases h;obtain⟨i1,l1⟩:=hi.shrink (ro:=ro) aM ej hl tx;have hx:=l1.ext;have:=GS (ro:=ro) (id:=id) (aD:=ep+1) (mn:=ep+1) (cs:=cs.take (bj*st)) (l:=⟨l.b,bj*st,l.DF⟩) (a:=a) i1 ha (hr.mono hx) hlen a_ gk (by rw[St.cW,if_pos rfl]) ej (cE _ _ _ _) ay kc cj hle LB (by rw[axe];omega) h0;obtain⟨u,w',aK,k1,k2,k3,k4⟩:=this;exact⟨u,w',aK,k1,k2,k3,Le.trans (λid h1 h2=>by simp only[St.mY]at h2;omega) l1 k4⟩
        .cases h
      .cases h
 .cases h
theorem abc{argTypes:Array TypeId}{ty:TypeId}{s x v:IV}{vs vx:Value}{au:St}(hi:Inv N Z G w)(hs:Rv Z s vs)(hx:Rv Z x vx)(h:l6 P ro argTypes s x G=aa (.val v au))(hN:au.n<=N):
 DI P ro N Z w G (ayG argTypes ty #[vs,vx]) v au:=by
 unfold l6 at h;split at h
 .rename_i sT xT h0 h1;split at h
  .rename_i elem xd hu hxd;split at h
   .rename_i size zero bytes bf hz hb;split at h
    .cases h
    .rename_i hc;have cj:size≠0:=λe=>hc (.inl e);have DH:zero.cells.size=size:=aw2 λe=>hc (.inr e);split at h
     .rename_i n new bj hna hls;split at h
      .rename_i cn;obtain⟨hlen,a_,Ns,YS⟩:=cn;obtain⟨cO,hr,gk,vo⟩:=Sp hi cj DH hz hna hx;have ha:DJ P elem size bytes bj n zero:=⟨bf,hz,hb,cj,DH,Ns,YS⟩;obtain⟨base,fm,rfl,u,w',aK,gN,g⟩:=Wk hi ha hr hlen a_ gk hs hls h hN;refine⟨u,w',aK,?_,g⟩;rcases vo with⟨k,rfl,l,rfl,iP,mM,rfl⟩|⟨hd,hn⟩
       .have WQ:l.toNat*bytes<=2 ^48:=by
         have:l.toNat*bytes<=(4*(bj+l.toNat)+4096)*bytes:=awL _ aj;omega
        rw[Wj h0 h1 hu hxd bf hb iP mM WQ];exact gN
       .rw[Wi h0 h1 hu hxd hd bf hn];rw[GR hd]at gN;exact gN
      .cases h
     .cases h
   .cases h
  .cases h
 .cases h
def Bd:Option Nat->Option Value->Prop
 |none,v=>v=ah
 |some n,v=>∃k i,v=aa (.int k i)/\0<=i/\i.toNat=n
theorem Nw{x:Option Operand}{q:Option Nat}(h:ig (x.map ρ)=aa q)(hr:∀y,x=aa y->Rv Z (ρ y) (r y)):Bd q (x.map r):=by
 cases x with
 |none=>simp[ig]at h;subst h;rfl
 |some y=>
  have hy:=hr y rfl;simp only[awQ,ig]at h;split at h
  .rename_i he;cases he
  .rename_i k i he;simp only[awf]at he;split at h
   .rename_i h0;cases h;exact⟨k,i,by simp[gh he hy],h0,rfl⟩
   .cases h
  .cases h
theorem BC{v:Value}{n y:Nat}{code:BoundsCode}(h:∃k i,v=.int k i/\0<=i/\i.toNat=n)(hle:n<=y)(w:World):(azD v y code).run P w=.ok n w:=by
 obtain⟨k,i,rfl,h0,h1⟩:=h;have:i<=(y:Int):=aj;simp[azD,asIntOf,h0,this,h1]
theorem EK{isSlice:Bool}{len cap:Nat}{lo hi mx:Option Value}{ql qh qm:Option Nat}(hl:Bd ql lo)(hh:Bd qh hi)(hm:Bd qm mx)(DL:¬(qm.isSome=ab/\qh.isSome=af))
 (h1:qm.getD cap<=cap)(h2:∀h,qh=aa h->h<=qm.getD cap)(h3:ql.getD 0<=qh.getD len)(w:World):
 (aAw isSlice len cap lo hi mx).run P w=.ok (ql.getD 0,qh.getD len,qm.getD cap) w:=by
 have fin:∀(h m:Nat) (code:BoundsCode),ql.getD 0<=h->axX P (match lo with
  |some v=>do
   let l<-azD v h code
   pure (l,h,m)
  |none=>do
   let l<-pure 0
   pure (l,h,m)) w=.ok (ql.getD 0,h,m) w:=by
  intro h m code hle;cases ql with
  |none=>cases hl;rfl
  |some l=>
   obtain⟨k,i,rfl,h0,h1⟩:=hl;simp only[awn,BC (P:=P) (v:=.int k i) (n:=l) (y:=h) (code:=code) ⟨k,i,rfl,h0,h1⟩ hle w,awg,awz,aw8]
 unfold aAw;cases qm with
 |none=>
  cases hm;cases qh with
  |none=>
   cases hh;simp only[awn,awz,awg,axF];exact fin len cap _ h3
  |some h=>
   obtain⟨k,i,rfl,h0,h4⟩:=hh;have hb:=BC (P:=P) (v:=.int k i) (n:=h) (y:=cap) (code:=if isSlice then .sliceAcap else .sliceAlen) ⟨k,i,rfl,h0,h4⟩ (h2 h rfl) w;simp only[awn,awz,awg,hb,axF,aw8];exact fin h cap _ h3
 |some m=>
  obtain⟨km,im,rfl,ye,wD⟩:=hm;have AB:=BC (P:=P) (v:=.int km im) (n:=m) (y:=cap) (code:=if isSlice then .slice3Acap else .slice3Alen) ⟨km,im,rfl,ye,wD⟩ h1 w;cases qh with
  |none=>exact absurd ⟨rfl,rfl⟩ DL
  |some h=>
   obtain⟨k,i,rfl,h0,h4⟩:=hh;have hb:=BC (P:=P) (v:=.int k i) (n:=h) (y:=m) (code:=.slice3B) ⟨k,i,rfl,h0,h4⟩ (h2 h rfl) w;simp only[awn,awg,AB,hb,aw8];exact fin h m _ h3
theorem oV{t elem:TypeId}{sz len cap:Nat}{a:Option Addr}{lo hi mx:Option Value}{ql qh qm:Option Nat}(hu:P.underlying t=aa (.slice elem))(hs:aW P elem=aa sz)
 (hl:Bd ql lo)(hh:Bd qh hi)(hm:Bd qm mx)(DL:¬(qm.isSome=ab/\qh.isSome=af))(h1:qm.getD cap<=cap)(h2:∀h,qh=aa h->h<=qm.getD cap)(h3:ql.getD 0<=qh.getD len)(w:World):
 (ayq t (.slice a len cap) lo hi mx).run P w=
  .ok (.slice (if qm.getD cap=ql.getD 0 then a else a.map (·.add (ql.getD 0*sz))) (qh.getD len- ql.getD 0) (qm.getD cap- ql.getD 0)) w:=by
 have hb:=EK (P:=P) (isSlice:=ab) hl hh hm DL h1 h2 h3 w;simp only[ayq,awn,bC hu,awg,aBs,hb,fE hs,awz]
theorem extract_eq(s:ByteArray)(l h:Nat):(⟨((s.data.toList.drop l).take (h- l)).toArray⟩:ByteArray)=s.extract l h:=by
 apply aAv;apply ayR;simp[aBL,List.extract_eq_take_drop]
theorem adT{t:TypeId}{x:Operand}{lo hi mx:Option Operand}(cw:Inv N Z G w)(hr:Rv Z (ρ x) (r x))(yf:∀y,lo=aa y->Rv Z (ρ y) (r y))(hhi:∀y,hi=aa y->Rv Z (ρ y) (r y))
 (vp:∀y,mx=aa y->Rv Z (ρ y) (r y))(ho:o.op=.slice t x lo hi mx)(h:aA P ro ρ o G=aa out):bB P ro N Z w G r o out:=by
 unfold aA at h;rw[ho]at h;simp only at h;split at h
 .rename_i v hv;obtain rfl:=aY h
  suffices hs:∃u,(ayq t (r x) (lo.map r) (hi.map r) (mx.map r)).run P w=.ok u w/\Rv Z v u by
   obtain⟨u,h1,h2⟩:=hs;exact bB.same cw (u:=u) (by simp[execOp,ho,h1]) h2
  generalize hq:r x=q at hr;generalize hiq:ρ x=iq at hr hv;unfold gd at hv;split at hv
  .rename_i _ _ _ ql qh qm e1 e2 e3;have bl:=Nw e1 yf;have bh:=Nw e2 hhi;have bm:=Nw e3 vp;clear e1 e2 e3;split at hv
   .cases hv
   .rename_i DL;split at hv
    .rename_i hu;split at hv
     .rename_i s;split at hv
      .rename_i hc;obtain⟨rfl,h1,h2⟩:=hc;cases hv;cases hr;refine⟨.string (s.extract (ql.getD 0) (qh.getD s.size)),?_,by rw[extract_eq];exact .raw _⟩;have hb:=EK (P:=P) (isSlice:=af) (len:=s.size) (cap:=s.size) (mx:=ah) bl bh (qm:=ah) rfl ay (awe _) (λh hh=>by subst hh;simpa using h2) h1 w;have uU:mx.map r=ah:=bm;simp only[ayq,awn,bC hu,awg,aBs,uU,Option.isSome_none,awA,if_false,awz,hb]
      .cases hv
     .cases hv
    .rename_i elem hu;split at hv
     .cases hv
     .rename_i sz bf;split at hv
      .split at hv
       .rename_i hc;obtain⟨h1,h2,h3⟩:=hc;cases hv;cases hr;have hb:=oV (P:=P) (a:=ah) (len:=0) (cap:=0) hu bf bl bh bm DL aj (λh hh=>by subst hh;simp at h2;omega) aj w;rw[h1,h2,h3]at hb;exact⟨_,by simpa using hb,.raw _⟩
       .cases hv
      .split at hv
       .rename_i hc;obtain⟨h1,h2,h3⟩:=hc;cases hv;cases hr with
        |emp a=>
         have hb:=oV (P:=P) (a:=aa a) (len:=0) (cap:=0) hu bf bl bh bm DL aj (λh hh=>by subst hh;simp at h2;omega) aj w;rw[h1,h2,h3]at hb;exact⟨_,by simpa using hb,.emp a⟩
       .cases hv
      .rename_i id off len cap ep s;split at hv
       .cases hv
       .rename_i lQ;have lQ:sz=s:=aw2 lQ;subst lQ;cases hr with
        |sl _ _ _ _ _ _ l c a hl hn kc cj hle jG ha=>
         have known:∀m:Nat,qm.getD c=m->m<=c->(off+m*sz<=l.n)->ql.getD 0<=qh.getD len->qh.getD len<=m->
          aa v=aa (if m=ql.getD 0 then .emp else .sl id (off+ql.getD 0*sz) (qh.getD len- ql.getD 0) (aa (m- ql.getD 0)) ep sz)->
          ∃u,(ayq t (.slice (aa a) len c) (lo.map r) (hi.map r) (mx.map r)).run P w=.ok u w/\Rv Z v u:=by
          intro m e1 e2 e3 e4 e5 e6;have hb:=oV (P:=P) (a:=aa a) (len:=len) (cap:=c) hu bf bl bh bm DL aj (λh hh=>by subst hh;simp only[aw8]at e5;omega) e4 w;rw[e1]at hb;refine⟨_,hb,?_⟩;by_cases DM:m=ql.getD 0
          .rw[if_pos DM]at e6;cases e6;rw[if_pos DM,show qh.getD len- ql.getD 0=0 by omega,show m- ql.getD 0=0 by omega];exact .emp a
          .rw[if_neg DM]at e6;cases e6;rw[if_neg DM];have Sq:=ha aj;subst Sq;simp only[awQ,iQ];have wD:ql.getD 0*sz+(m- ql.getD 0)*sz=m*sz:=by rw[<-awU];congr 1;omega
           have hm2:ql.getD 0*sz+(qh.getD len- ql.getD 0)*sz=qh.getD len*sz:=by rw[<-awU];congr 1;omega
           have hm3:qh.getD len*sz<=m*sz:=awL sz e5;have hm4:m*sz<=c*sz:=awL sz e2;exact .sl _ _ _ _ _ _ l _ _ hl aj aj cj aj (λk hk=>by cases hk;exact⟨rfl,by omega⟩) (λ_=>rfl)
         split at hv
         .rename_i _ m;split at hv
          .rename_i hc;obtain⟨h1,h2,h3⟩:=hc
           have uU:m<=c/\off+m*sz<=l.n:=by
            cases cap with
            |none=>
             simp only[axF]at h3;have:m*sz<=len*sz:=awL sz h3;exact⟨by omega,by omega⟩
            |some k=>
             simp only[aw8]at h3;obtain⟨hk,lR⟩:=jG k rfl;subst hk;have:m*sz<=c*sz:=awL sz h3;exact⟨h3,by omega⟩
           refine known m rfl uU.1 uU.2 h1 h2 ?_;rw[<-hv];split<;>rfl
          .cases hv
         .rename_i m;split at hv
          .rename_i hc;obtain⟨h1,h2⟩:=hc;obtain⟨hk,lR⟩:=jG m rfl;subst hk;refine known c rfl (awe _) lR h1 h2 ?_;rw[<-hv];split<;>rfl
          .cases hv
         .split at hv
          .rename_i hc;obtain⟨h1,h2⟩:=hc;cases hv;have hb:=oV (P:=P) (a:=aa a) (len:=len) (cap:=c) hu bf bl bh bm DL (awe _) (λh hh=>by subst hh;simp only[aw8,axF]at h2⊢;omega) h1 w;simp only[axF]at hb;have wD:ql.getD 0*sz+(c- ql.getD 0)*sz=c*sz:=by rw[<-awU];congr 1;omega
           have hm2:ql.getD 0*sz+(qh.getD len- ql.getD 0)*sz=qh.getD len*sz:=by rw[<-awU];congr 1;omega
           have hm3:qh.getD len*sz<=len*sz:=awL sz h2;by_cases g_:c=ql.getD 0
           .rw[if_pos g_]at hb;exact⟨_,hb,.sl _ _ _ _ _ _ l _ _ hl aj aj cj aj (λk hk=>by cases hk) (λh0=>by omega)⟩
           .rw[if_neg g_]at hb;have Sq:=ha aj;subst Sq;simp only[awQ,iQ]at hb;exact⟨_,hb,.sl _ _ _ _ _ _ l _ _ hl aj aj cj aj (λk hk=>by cases hk) (λ_=>rfl)⟩
          .cases hv
      .rename_i s es;split at hv
       .cases hv
       .rename_i lQ;have lQ:sz=s:=aw2 lQ;subst lQ;cases hr with
        |tree _ _ b off c us cj tz bD Gr hh=>
         split at hv
         .split at hv
          .rename_i hc;obtain⟨h1,h2⟩:=hc;cases hv;have hb:=oV (P:=P) (a:=aa ⟨b,off,ah⟩) (len:=es.length) (cap:=c) hu bf bl bh bm DL (awe _) (λh hh=>by subst hh;simp only[aw8,axF]at h2⊢;omega) h1 w;simp only[axF]at hb;have hlen:((es.take (qh.getD es.length)).drop (ql.getD 0)).length=qh.getD es.length- ql.getD 0:=by simp;omega
           have ajX:∀bb oo,(c≠ql.getD 0->bb=b/\oo=off+ql.getD 0*sz)->Rv Z (.tree sz ((es.take (qh.getD es.length)).drop (ql.getD 0))) (.slice (aa ⟨bb,oo,ah⟩) (qh.getD es.length- ql.getD 0) (c- ql.getD 0)):=by
            intro bb oo hbo;rw[<-hlen];refine .tree _ _ _ _ _ (λk=>us (ql.getD 0*sz+k)) cj aj (λe he=>bD e (axv (List.mem_of_mem_drop he))) (λk hk=>?_) (λi e j x he hx=>?_)
            .rw[hlen]at hk;have wD:ql.getD 0*sz+(qh.getD es.length- ql.getD 0)*sz=qh.getD es.length*sz:=by rw[<-awU];congr 1;omega
             have hm2:qh.getD es.length*sz<=es.length*sz:=awL sz h2
             have bg:c≠ql.getD 0:=by
              intro g_;have:qh.getD es.length- ql.getD 0=0:=aj;rw[this]at hk;omega
             obtain⟨rfl,rfl⟩:=hbo bg;rw[show off+ql.getD 0*sz+k=off+(ql.getD 0*sz+k) by omega];exact Gr _ aj
            .rw[axR,awR]at he;split at he
             .have:=hh _ _ _ _ he hx;rwa[awU,Nat.add_assoc]at this
             .cases he
           by_cases g_:c=ql.getD 0
           .rw[if_pos g_]at hb;exact⟨_,hb,ajX b off (λh=>absurd g_ h)⟩
           .rw[if_neg g_]at hb;simp only[awQ,iQ]at hb;exact⟨_,hb,ajX b _ (λ_=>⟨rfl,rfl⟩)⟩
          .cases hv
         .rename_i m;split at hv
          .rename_i hc;obtain⟨rfl,h1,h2⟩:=hc;cases hv;have hb:=oV (P:=P) (a:=aa ⟨b,off,ah⟩) (len:=es.length) (cap:=c) hu bf bl bh bm DL (aw5 _) (λh hh=>by subst hh;simp only[aw8]at h2⊢;omega) aj w;rw[h1,h2]at hb;exact⟨_,by simpa using hb,.eB _ _ _ cj ay⟩
          .cases hv
        |eB _ a c cj hn=>
         split at hv
         .split at hv
          .rename_i hc;obtain⟨h1,h2⟩:=hc;cases hv;simp only[axM]at h1 h2;have iP:ql.getD 0=0:=aj;have LC:qh.getD 0=0:=aj;have hb:=oV (P:=P) (a:=a) (len:=0) (cap:=c) hu bf bl bh bm DL (awe _) (λh hh=>by subst hh;simp only[aw8,axF]at LC⊢;omega) aj w;simp only[axF,iP,LC]at hb;refine⟨_,hb,?_⟩;simp only[List.take_nil,List.drop_nil]
           exact .eB _ _ _ cj (λhx=>by
            cases a with
            |none=>have:=hn rfl;omega
            |some a=>split at hx<;>simp at hx)
          .cases hv
         .rename_i m;split at hv
          .rename_i hc;obtain⟨rfl,h1,h2⟩:=hc;cases hv;have hb:=oV (P:=P) (a:=a) (len:=0) (cap:=c) hu bf bl bh bm DL (aw5 _) (λh hh=>by subst hh;simp only[aw8]at h2⊢;omega) aj w;simp only[axM]at h2;rw[h1,h2]at hb;exact⟨_,by simpa using hb,.eB _ _ _ cj ay⟩
          .cases hv
      .cases hv
    .rename_i n elem hu;split at hv
     .rename_i id off ep ext s hs;split at hv
      .rename_i hc;obtain⟨cj,bg,rfl,h1,h2⟩:=hc;cases hr with
       |ptr _ _ _ _ l hl hx=>
        have hb:=EK (P:=P) (isSlice:=af) (len:=n) (cap:=n) bl bh bm DL (awe _) (λh hh=>by subst hh;simpa using h2) h1 w;simp only[axF]at hb
        have gN:(ayq t (.pointer (aa ⟨l.b,off,ah⟩)) (lo.map r) (hi.map r) (mx.map r)).run P w=
         .ok (.slice (aa (if n=ql.getD 0 then⟨l.b,off,ah⟩else(⟨l.b,off,ah⟩:Addr).add (ql.getD 0*s))) (qh.getD n- ql.getD 0) (n- ql.getD 0)) w:=by
         simp only[ayq,awn,bC hu,awg,ayg,awz,hb,fE hs]
        refine⟨_,gN,?_⟩;split at hv
        .rename_i Jp;cases hv;rw[if_pos Jp,show qh.getD n- ql.getD 0=0 by omega,show n- ql.getD 0=0 by omega];exact .emp _
        .rename_i Jp;cases hv;rw[if_neg Jp,iQ];have wD:ql.getD 0*s+(n- ql.getD 0)*s=n*s:=by rw[<-awU];congr 1;omega
         have hm2:ql.getD 0*s+(qh.getD n- ql.getD 0)*s=qh.getD n*s:=by rw[<-awU];congr 1;omega
         have hm3:qh.getD n*s<=n*s:=awL s h2;exact .sl _ _ _ _ _ _ l _ _ hl aj aj aj aj (λk hk=>by cases hk;exact⟨rfl,by omega⟩) (λ_=>rfl)
      .cases hv
     .cases hv
    .cases hv
  .cases hv
 .cases h
theorem Sr{c:Call}{b:Builtin}(ho:o.op=.call c)(hb:c.callee=.builtin b):
 execOp r o=builtin b c.argTypes o.type (c.args.map λ|.const _=>ab|_=>af) (c.args.map r):=by
 simp only[execOp,ho,resolve,hb];rfl
def GU(P:Program)(ro:Nat)(N:Nat)(Z:Io)(w:World)(G:St)(s:Sem Next)(out:gv):Prop:=
 ∃v au,out=.val v au/\(au.n<=N->Lz ro N Z w G (s.run P w) v au)
theorem GU.ofV{s:Sem Value}{v:IV}{au:St}(h:au.n<=N->DI P ro N Z w G s v au):GU P ro N Z w G (do pure (.value (<-s))) (.val v au):=by
 refine⟨v,au,rfl,λhN=>?_⟩;obtain⟨u,w',aK,h1,h2,h3,h4⟩:=h hN;exact⟨u,w',aK,.inl (by simp only[awn,h1,awg,awz]),h2,h3,h4⟩
theorem GU.same{s:Sem Value}{v:IV}{u:Value}(hi:Inv N Z G w)(h:s.run P w=.ok u w)(hr:Rv Z v u):GU P ro N Z w G (do pure (.value (<-s))) (.val v G):=
 GU.ofV λ_=>⟨u,w,Z,h,hr,hi,Le.refl _ _ _ _⟩
theorem Iz{x:IV}{vs:List Value}(h:aL Z [x] vs):∃v,vs=[v]/\Rv Z x v:=by
 obtain⟨v,zf,rfl,h1,h2⟩:=h.x_;exact⟨v,by rw[h2.of_nil],h1⟩
theorem ah4{x y:IV}{vs:List Value}(h:aL Z [x,y] vs):∃v u,vs=[v,u]/\Rv Z x v/\Rv Z y u:=by
 obtain⟨v,zf,rfl,h1,h2⟩:=h.x_;obtain⟨u,rfl,h3⟩:=Iz h2;exact⟨v,u,rfl,h1,h3⟩
theorem ah5{argTypes:Array TypeId}{ty:TypeId}{x v:IV}{u:Value}(hi:Inv N Z G w)(hr:Rv Z x u)(h:qj P argTypes x G=aa v):∃z,(aAZ argTypes ty #[u]).run P w=.ok z w/\Rv Z v z:=by
 unfold qj at h;cases Jq:argTypes[0]? with
 |none=>simp[Jq]at h
 |some t=>
  rw[Jq,awc]at h;have e1:(#[u]:Array Value)[0]?=aa u:=rfl;unfold aAZ;rw[Jq,e1];split at h
  .rename_i hu;cases h;cases hr;exact⟨_,by simp only[awn,bC hu,awg,awz,goInt],.raw _⟩
  .rename_i hu;cases h;cases hr;exact⟨_,by simp only[awn,bC hu,awg,awz,goInt];rfl,.raw _⟩
  .rename_i hu;cases h;cases hr<;>
   exact⟨_,by simp only[awn,bC hu,awg,awz,goInt]<;>rfl,.raw _⟩
  .rename_i hu;cases h;cases hr;exact⟨_,by simp only[awn,bC hu,awg,awz,goInt],.raw _⟩
  .rename_i hu;cases h;cases hr;exact⟨_,by simp only[awn,bC hu,awg,awz,goInt],.raw _⟩
  .rename_i hu;cases h;cases hr;exact⟨_,by simp only[awn,bC hu,awg,awz,goInt],.raw _⟩
  .rename_i id hu;split at h
   .rename_i es clock aM;cases h;cases hr with
    |map _ l hl=>
     obtain⟨l',res,cz,hh,he⟩:=hi.obj id _ aM;rw[hl]at cz;cases cz;have:(getObj l.b).run P w=.ok (.map res clock) w:=by simp[getObj,axX,hh]
     refine⟨.int .i64 res.size,?_,?_⟩
     .simp only[awn,bC hu,awg,this,awz,goInt]
     .rw[<-he.1];exact .raw _
   .cases h
  .rename_i n e hu;cases h;exact⟨.int .i64 n,by simp only[awn,bC hu,awg];rfl,.raw _⟩
  .cases h
theorem ah6{argTypes:Array TypeId}{ty:TypeId}{x v:IV}{u:Value}(hr:Rv Z x u)(h:YG P argTypes x=aa v):∃z,(aA0 argTypes ty #[u]).run P w=.ok z w/\Rv Z v z:=by
 unfold YG at h;cases Jq:argTypes[0]? with
 |none=>simp[Jq]at h
 |some t=>
  rw[Jq,awc]at h;have e1:(#[u]:Array Value)[0]?=aa u:=rfl;unfold aA0;rw[Jq,e1];split at h
  .rename_i c _ _ hu;cases h;cases hr with
   |sl _ _ _ _ _ _ l c' a hl hn kc cj hle jG ha=>
    obtain⟨rfl,_⟩:=jG _ rfl;exact⟨_,by simp only[awn,bC hu,awg,awz,goInt],.raw _⟩
  .rename_i hu;cases h;cases hr;exact⟨_,by simp only[awn,bC hu,awg,awz,goInt];rfl,.raw _⟩
  .rename_i hu;cases h;cases hr;exact⟨_,by simp only[awn,bC hu,awg,awz,goInt],.raw _⟩
  .rename_i n e hu;cases h;exact⟨.int .i64 n,by simp only[awn,bC hu,awg];rfl,.raw _⟩
  .cases h
theorem cX{b:Nat}{ob:aAk}(h:w.heap[b]?=aa ob)(hc:∀c e f,ob≠.cells c e f):(getObj b).run P w=.ok ob w:=by
 simp only[getObj,axX,h]
theorem gw{b:Nat}{ob fp:aAk}(h:w.heap[b]?=aa ob)(hc:∀c e f,ob≠.cells c e f):(setObj b fp).run P w=.ok () {w with heap:=w.heap.setIfInBounds b fp}:=by
 simp only[setObj,axX,h]
theorem Inv.wX(hi:Inv N Z G w){id:Nat}{ob fp:Ob}{l:Loc}{go:aAk}(aM:G.at id=aa ob)(ej:ro<=id)(hl:Z id 0=aa l)(eK:l8 Z {w with heap:=w.heap.setIfInBounds l.b go} id fp):
 Inv N Z (G.put id fp) {w with heap:=w.heap.setIfInBounds l.b go}/\Le ro Z w G Z {w with heap:=w.heap.setIfInBounds l.b go} (G.put id fp):=by
 refine hi.put aM ej ⟨_,_,hl⟩ (Ext.refl _) (λ_ _ _=>rfl) (λb hb=>.inl hb) ay (λb _ fC=>?_) rfl rfl rfl eK;have:l.b≠b:=λe=>fC ⟨0,l,hl,e⟩;simp[this]
theorem aP{α β:Type}(x:Sem α)(f:α->Sem β):aH P (x>>=f)=(aH P x).bind λa=>aH P (f a):=by
 show aH P (x.bind f)=_;induction x with
 |pure a=>rfl
 |program k ih=>simp only[Sem.bind,aH];exact ih P
 |mark m k ih=>simp only[Sem.bind,aH];exact ih
 |_=>rfl
theorem oi{α β:Type}{x:Sem α}{f:α->Sem β}{b:β}(h:aH P (x>>=f)=aa b):∃a,aH P x=aa a/\aH P (f a)=aa b:=by
 rw[aP]at h;exact awx.1 h
def SameKeys(es aT:List MapEntry):Prop:=es.length=aT.length/\∀(i:Nat) (e e':MapEntry),es[i]?=aa e->aT[i]?=aa e'->e.key=e'.key
theorem SameKeys.tail{e e':MapEntry}{es aT:List MapEntry}(h:SameKeys (e::es) (e'::aT)):e.key=e'.key/\SameKeys es aT:=
 ⟨h.2 0 e e' rfl rfl,by simpa using h.1,λi a b h1 h2=>h.2 (i+1) a b h1 h2⟩
theorem GV{kind:TypeDesc}{k:Value}:∀{es aT:List MapEntry} (i:Nat) {q:Option (Nat×Value)},SameKeys es aT->axE kind k es i=aa q->
 (q=ah/\axE kind k aT i=aa ah)\/(∃j v e',q=aa (j,v)/\i<=j/\aT[j- i]?=aa e'/\axE kind k aT i=aa (aa (j,e'.val)))
 |[],aT,i,q,hk,h=>by
  cases aT with
  |nil=>simp only[axE,awf]at h;subst h;exact .inl ⟨rfl,rfl⟩
  |cons a b=>have:=hk.1;simp at this
 |e::es,aT,i,q,hk,h=>by
  cases aT with
  |nil=>have:=hk.1;simp at this
  |cons e' aT=>
   obtain⟨h1,h2⟩:=hk.tail;simp only[axE]at h⊢;rw[h1]at h;split at h
   .rename_i hs;cases h;exact .inr ⟨i,_,e',rfl,awe _,by simp,rfl⟩
   .rename_i hs;rcases GV (i+1) h2 h with⟨h3,h4⟩|⟨j,v,e2,h3,h4,h5,h6⟩
    .exact .inl ⟨h3,h4⟩
    .refine .inr ⟨j,v,e2,h3,by omega,?_,h6⟩;rw[show j- i=(j-(i+1))+1 by omega,axI];exact h5
   .cases h
theorem GW{kind:TypeDesc}{k:Value}:∀{es aT:List MapEntry} (i:Nat),SameKeys es aT->axE kind k es i=ah->axE kind k aT i=ah
 |[],aT,i,hk,h=>by simp[axE]at h
 |e::es,aT,i,hk,h=>by
  cases aT with
  |nil=>have:=hk.1;simp at this
  |cons e' aT=>
   obtain⟨h1,h2⟩:=hk.tail;simp only[axE]at h⊢;rw[h1]at h;split at h
   .cases h
   .exact GW (i+1) h2 h
   .rfl
theorem BD{kt:TypeId}{k:Value}:∀{es aT:List MapEntry} (i:Nat) {q:Option (Nat×Value)},SameKeys es aT->aH P (aw1 kt k es i)=aa q->
 (q=ah/\∀w,(aw1 kt k aT i).run P w=.ok ah w)\/(∃j v e',q=aa (j,v)/\i<=j/\aT[j- i]?=aa e'/\∀w,(aw1 kt k aT i).run P w=.ok (aa (j,e'.val)) w)
 |[],aT,i,q,hk,h=>by
  cases aT with
  |nil=>simp only[aw1]at h;cases h;exact .inl ⟨rfl,λw=>rfl⟩
  |cons a b=>have:=hk.1;simp at this
 |e::es,aT,i,q,hk,h=>by
  cases aT with
  |nil=>have:=hk.1;simp at this
  |cons e' aT=>
   obtain⟨h1,h2⟩:=hk.tail;simp only[aw1]at h⊢;rw[h1]at h;obtain⟨b,hb,h⟩:=oi h;cases b with
   |true=>
    simp only[if_true]at h;cases h;refine .inr ⟨i,_,e',rfl,awe _,by simp,λw=>?_⟩;simp only[awn,gp w _ hb,awg,if_true,awz]
   |false=>
    simp only[awA,if_false]at h;rcases BD (i+1) h2 h with⟨h3,h4⟩|⟨j,v,e2,h3,h4,h5,h6⟩
    .refine .inl ⟨h3,λw=>?_⟩;simp only[awn,gp w _ hb,awg,awA,if_false,h4]
    .refine .inr ⟨j,v,e2,h3,by omega,?_,λw=>?_⟩
     .rw[show j- i=(j-(i+1))+1 by omega,axI];exact h5
     .simp only[awn,gp w _ hb,awg,awA,if_false,h6]
theorem EL{empty:Bool}{kt:TypeId}{k:Value}{es:List (Value×IV×Nat)}{res:Array MapEntry}{q:Option Nat}(he:iN Z es res)(h:fy P empty kt k es=aa q)(w:World):
 (ayC empty 10000 kt k).run P w=.ok () w/\
 ((q=ah/\(axr kt k res.toList).run P w=.ok ah w)\/(∃i e rr,q=aa i/\es[i]?=aa e/\res[i]?=aa rr/\(axr kt k res.toList).run P w=.ok (aa (i,rr.val)) w)):=by
 have hk:SameKeys (es.map λe=>{key:=e.1,val:=awT,born:=e.2.2}) res.toList:=by
  refine⟨by simp[he.1],λi a b h1 h2=>?_⟩;simp only[awu,awj]at h1;obtain⟨e,h1,rfl⟩:=h1;exact(he.2 i e b h1 (by simpa using h2)).1.symm
 have fin:∀{q':Option (Nat×Value)},aH P (axr kt k (es.map λe=>{key:=e.1,val:=awT,born:=e.2.2}))=aa q'->
  (q'=ah/\(axr kt k res.toList).run P w=.ok ah w)\/(∃i v rr,q'=aa (i,v)/\res[i]?=aa rr/\(axr kt k res.toList).run P w=.ok (aa (i,rr.val)) w):=by
  intro q' h;unfold axr at h⊢;obtain⟨d,hd,h⟩:=oi h;have GX:=gp w _ hd;simp only[awn,GX,awg];split at h
  .rename_i q2 Jr;cases h;rcases GV 0 hk Jr with⟨h3,h4⟩|⟨j,v,e2,h3,h4,h5,h6⟩
   .exact .inl ⟨h3,by rw[h4];rfl⟩
   .exact .inr ⟨j,v,e2,h3,by simpa using h5,by rw[h6];rfl⟩
  .rename_i Jr;rw[GW 0 hk Jr];rcases BD 0 hk h with⟨h3,h4⟩|⟨j,v,e2,h3,h4,h5,h6⟩
   .exact .inl ⟨h3,h4 w⟩
   .exact .inr ⟨j,v,e2,h3,by simpa using h5,h6 w⟩
 unfold fy at h;split at h
 .rename_i i v hp;cases h;obtain⟨_,h1,h2⟩:=oi hp;refine⟨gp w _ h1,.inr ?_⟩;rcases fin h2 with⟨h3,_⟩|⟨j,v',rr,h3,h4,h5⟩
  .cases h3
  .cases h3;have ak:i<es.length:=by have:=(aw4.1 h4).1;have:=he.1;omega
   exact⟨i,es[i],rr,rfl,av_ ak,h4,h5⟩
 .rename_i hp;cases h;obtain⟨_,h1,h2⟩:=oi hp;refine⟨gp w _ h1,.inl ⟨rfl,?_⟩⟩;rcases fin h2 with⟨_,h4⟩|⟨j,v',rr,h3,h4,h5⟩
  .exact h4
  .cases h3
 .cases h
theorem iN.nil:iN Z [] #[]:=⟨rfl,λi e r h=>by simp at h⟩
theorem iN.isEmpty{es:List (Value×IV×Nat)}{res:Array MapEntry}(h:iN Z es res):es.isEmpty=res.isEmpty:=by
 have:=h.1;rw[Bool.eq_iff_iff,List.isEmpty_iff,Array.isEmpty_iff];rw[<-List.length_eq_zero_iff,<-Array.size_eq_zero_iff,this]
theorem abd{t:TypeId}{x ix:Operand}{ok:Bool}(hi:Inv N Z G w)(hr:Rv Z (ρ x) (r x))(PF:Rv Z (ρ ix) (r ix))(ho:o.op=.lookup t x ix ok)(h:aA P ro ρ o G=aa out):bB P ro N Z w G r o out:=by
 unfold aA at h;rw[ho]at h;simp only at h;split at h
 .rename_i kt elem es key hu jR s6;have hk:=ED s6 PF
  have arZ:∃res,iN Z es res/\((r x=.map ah/\res= #[])\/∃b clock,r x=.map (aa b)/\w.heap[b]?=aa (.map res clock)):=by
   generalize hq:r x=q at hr;unfold entriesOf at jR;split at jR
   .rename_i hx;rw[hx]at hr;cases jR;cases hr;exact⟨#[],iN.nil,.inl ⟨rfl,rfl⟩⟩
   .rename_i id hx;rw[hx]at hr;split at jR
    .rename_i aT clock aM;cases jR;cases hr with
     |map _ l hl=>
      obtain⟨l',res,cz,hh,he⟩:=hi.obj id _ aM;rw[hl]at cz;cases cz;exact⟨res,he,.inr ⟨l.b,clock,rfl,hh⟩⟩
    .cases jR
   .cases jR
  obtain⟨res,he,hZ⟩:=arZ;split at h
  .rename_i i z Ss hz;split at h
   .rename_i e GY;obtain rfl:=aY h;obtain⟨hc,hf⟩:=EL he Ss w;rcases hf with⟨hn,_⟩|⟨j,e',rr,hj,h1,h2,h3⟩
    .cases hn
    .cases hj;rw[GY]at h1;cases h1;obtain⟨_,hv,_⟩:=he.2 i e rr GY h2;refine bB.same hi (u:=if ok then .tuple #[rr.val,.bool ab]else rr.val) ?_ ?_
     .rw[he.isEmpty]at hc;rcases hZ with⟨hx,rfl⟩|⟨b,clock,hx,hh⟩
      .simp only[execOp,ho,azw,awn,bC hu,awg,hx,hk,hc,h3,awz]
      .simp only[execOp,ho,azw,awn,bC hu,awg,hx,cX (P:=P) hh ay,hk,hc,h3,awz]
     .cases ok
      .exact hv
      .have:=aL.cons hv (aL.cons (Rv.raw (Z:=Z) (.bool ab)) aL.nil);exact .aF _ _ this.1 this.2
   .cases h
  .rename_i z Ss hz;obtain rfl:=aY h;obtain⟨hc,hf⟩:=EL he Ss w;rcases hf with⟨_,h3⟩|⟨j,e',rr,hj,h1,h2,h3⟩
   .refine bB.same hi (u:=if ok then .tuple #[z,.bool af]else z) ?_ ?_
    .rw[he.isEmpty]at hc;rcases hZ with⟨hx,rfl⟩|⟨b,clock,hx,hh⟩
     .simp only[execOp,ho,azw,awn,bC hu,awg,hx,hk,hc,h3,l_ hz,awz]
     .simp only[execOp,ho,azw,awn,bC hu,awg,hx,cX (P:=P) hh ay,hk,hc,h3,l_ hz,awz]
    .cases ok
     .exact Rv.lift z
     .have:=aL.cons (Rv.lift (Z:=Z) z) (aL.cons (Rv.raw (Z:=Z) (.bool af)) aL.nil);exact .aF _ _ this.1 this.2
   .cases hj
  .cases h
 .cases h
theorem iN.set{es:List (Value×IV×Nat)}{res:Array MapEntry}{i:Nat}{e:Value×IV×Nat}{key:Value}{v:IV}{u:Value}{f:MapEntry->MapEntry}(h:iN Z es res)(he:es[i]?=aa e)(hv:Rv Z v u)
 (hf:∀rr,res[i]?=aa rr->f rr={key:=key,val:=u,born:=rr.born}):iN Z (es.set i (key,v,e.2.2)) (res.modify i f):=by
 refine⟨by simp[h.1],λj a b h1 h2=>?_⟩;rw[List.getElem?_set]at h1;rw[az_]at h2;by_cases oW:i=j
 .subst oW;rw[if_pos rfl]at h1 h2;split at h1
  .cases h1;cases WT:res[i]? with
   |none=>simp[WT]at h2
   |some rr=>
    obtain⟨_,_,hb⟩:=h.2 i e rr he WT;simp only[WT,awQ,awf]at h2;rw[hf rr WT]at h2;subst h2;exact⟨rfl,hv,hb⟩
  .cases h1
 .rw[if_neg oW]at h1 h2;exact h.2 j a b h1 h2
theorem iN.push{es:List (Value×IV×Nat)}{res:Array MapEntry}{key:Value}{v:IV}{u:Value}{n:Nat}(h:iN Z es res)(hv:Rv Z v u):iN Z (es++[(key,v,n)]) (res.push {key:=key,val:=u,born:=n}):=by
 refine⟨by simp[h.1],λj a b h1 h2=>?_⟩;rw[ayK]at h2;by_cases hj:j<es.length
 .rw[awp hj]at h1;rw[if_neg (by have:=h.1;omega)]at h2;exact h.2 j a b h1 h2
 .rw[awD aj]at h1;by_cases BE:j=es.length
  .subst BE;rw[if_pos h.1]at h2;simp at h1 h2;subst h1 h2;exact⟨rfl,hv,rfl⟩
  .have:1<=j- es.length:=aj;rw[ayd (by simp;omega)]at h1;cases h1
theorem WU(hi:Inv N Z G w){id clock:Nat}{es:List (Value×IV×Nat)}{u:Value}(hr:Rv Z (.map id) u)(aM:G.at id=aa (.map es clock)):
 ∃l res,u=.map (aa l.b)/\Z id 0=aa l/\w.heap[l.b]?=aa (.map res clock)/\l.b<w.heap.size/\iN Z es res:=by
 cases hr with
 |map _ l hl=>
  obtain⟨l',res,cz,hh,he⟩:=hi.obj id _ aM;rw[hl]at cz;cases cz;exact⟨l,res,rfl,hl,hh,hi.gE id _ ⟨_,_,hl,rfl⟩,he⟩
theorem LD{l:Loc}{id clock:Nat}{es:List (Value×IV×Nat)}{res:Array MapEntry}(hl:Z id 0=aa l)(ak:l.b<w.heap.size)(he:iN Z es res):
 l8 Z {w with heap:=w.heap.setIfInBounds l.b (.map res clock)} id (.map es clock):=⟨l,res,hl,by simp[ak],he⟩
theorem abe{cG new:Value}(h:ayi 10000 cG new=ab)(w:World):(azk cG new).run P w=.ok new w:=by
 unfold azk;rw[if_pos h];rfl
theorem abf{t kt elem:TypeId}{m k v:IV}{um uk uv:Value}{au:St}(hi:Inv N Z G w)(hu:P.underlying t=aa (.map kt elem))(hm:Rv Z m um)(hk:Rv Z k uk)(hv:Rv Z v uv)
 (h:pK P ro kt m k v G=aa au):∃w',(azO t um uk uv).run P w=.ok () w'/\Inv N Z au w'/\Le ro Z w G Z w' au:=by
 unfold pK at h;split at h
 .rename_i id key s6;have yd:=ED s6 hk;subst yd;split at h
  .rename_i es clock aM;obtain⟨l,res,rfl,hl,hh,ak,he⟩:=WU hi hm aM;split at h
   .cases h
   .rename_i ej;have ej:ro<=id:=azV λh=>ej aj;split at h
    .rename_i i Ss;split at h
     .rename_i e GY;split at h
      .rename_i hsb;cases h;obtain⟨hc,hf⟩:=EL he Ss w;rcases hf with⟨hn,_⟩|⟨j,e',rr,hj,h1,h2,h3⟩
       .cases hn
       .cases hj;rw[GY]at h1;cases h1;have aoc:=(he.2 i e rr GY h2).1;obtain⟨r1,r2⟩:=hi.wX (ro:=ro) aM ej hl (LD (clock:=clock) hl ak (he.set GY hv (key:=uk) (f:=λe=>{e with key:=uk,val:=uv}) (λrr _=>rfl)));refine⟨_,?_,r1,r2⟩
        have cy:(azk (((res[i]?).map (·.key)).getD uk) uk).run P w=.ok uk w:=by
         rw[h2];simp only[awQ,aw8];exact abe (by rw[aoc];exact hsb) w
        simp only[azO,awn,bC hu,awg,cX (P:=P) hh ay,hc,h3,cy,gw (P:=P) hh ay]
      .cases h
     .cases h
    .rename_i Ss;cases h;obtain⟨hc,hf⟩:=EL he Ss w;rcases hf with⟨_,h3⟩|⟨j,e',rr,hj,h1,h2,h3⟩
     .obtain⟨r1,r2⟩:=hi.wX (ro:=ro) aM ej hl (LD (clock:=clock+1) hl ak (he.push hv (key:=uk) (n:=clock)));refine⟨_,?_,r1,r2⟩;simp only[azO,awn,bC hu,awg,cX (P:=P) hh ay,hc,h3,gw (P:=P) hh ay]
     .cases hj
    .cases h
  .cases h
 .cases h
theorem GZ{t:TypeId}{m k x:Operand}(hi:Inv N Z G w)(hm:Rv Z (ρ m) (r m))(hk:Rv Z (ρ k) (r k))(hx:Rv Z (ρ x) (r x))(ho:o.op=.mapUpdate t m k x\/o.op=.insert t m k x)
 (h:aA P ro ρ o G=aa out):bB P ro N Z w G r o out:=by
 have h':(match P.underlying t with
  |some (.map kt _)=>match pK P ro kt (ρ m) (ρ k) (ρ x) G with
   |some au=>ret .undef au
   |none=>ah
  |_=>ah)=aa out:=by
  unfold aA at h;rcases ho with ho|ho<;>rw[ho]at h<;>exact h
 clear h;split at h'
 .rename_i kt elem hu;split at h'
  .rename_i au hs;obtain rfl:=aY h';intro hN;obtain⟨w',h1,h2,h3⟩:=abf (N:=N) hi hu hm hk hx hs;refine⟨awT,w',Z,.inr ⟨?_,rfl⟩,.raw _,h2,h3⟩;rcases ho with ho|ho<;>simp only[execOp,ho,awn,h1,awg,awz]
  .cases h'
 .cases h'
theorem Inv.DN(hi:Inv N Z G w)(hN:G.n<N){go:aAk}{ob:Ob}(eK:l8 (eJ Z G.n 0 ⟨w.heap.size,1,1⟩) {w with heap:=w.heap.push go} G.n ob):
 Inv N (eJ Z G.n 0 ⟨w.heap.size,1,1⟩) (G.add ob) {w with heap:=w.heap.push go}/\Le ro Z w G (eJ Z G.n 0 ⟨w.heap.size,1,1⟩) {w with heap:=w.heap.push go} (G.add ob):=
 hi.add hN rfl rfl rfl rfl rfl eK
theorem adU{t:TypeId}{x:Operand}(hi:Inv N Z G w)(hr:Rv Z (ρ x) (r x))(ho:o.op=.range t x)(h:aA P ro ρ o G=aa out):bB P ro N Z w G r o out:=by
 unfold aA at h;rw[ho]at h;simp only at h;have rv:∀(aK:Io) (n b:Nat),Rv (eJ aK n 0 ⟨b,1,1⟩) (.ptr n 0 0 1) (.pointer (aa ⟨b,0,ah⟩)):=λaK n b=>.ptr _ _ _ _ _ (cE _ _ _ _) ay;split at h
 .rename_i s hu hx;have e:=gh hx hr;obtain rfl:=aY h;intro hN;obtain⟨h1,h2⟩:=hi.DN (ro:=ro) (go:=.stringIter s 0) (ob:=.rW s 0) (by simp at hN;omega) ⟨_,cE _ _ _ _,by simp⟩;exact⟨_,_,_,.inl (by simp only[execOp,ho,aAd,awn,bC hu,awg,e,awz,run_newObj]),rv _ _ _,h1,h2⟩
 .rename_i k e' hu hx;have e:=gh hx hr;obtain rfl:=aY h;intro hN;obtain⟨h1,h2⟩:=hi.DN (ro:=ro) (go:=.mapIter ah 0 #[] 0) (ob:=.kG ah 0 [] 0) (by simp at hN;omega) ⟨_,ah,cE _ _ _ _,by simp,rfl⟩;exact⟨_,_,_,.inl (by simp only[execOp,ho,aAd,awn,bC hu,awg,e,awz,run_newObj]),rv _ _ _,h1,h2⟩
 .rename_i k e' m hu hx;rw[hx]at hr;split at h
  .rename_i es clock aM;obtain⟨l,res,hum,hl,hh,ak,he⟩:=WU hi hr aM;obtain rfl:=aY h;intro hN;have bg:Z G.n 0=ah:=hi.fresh _ (awe _) (by simp at hN;omega) 0
   obtain⟨h1,h2⟩:=hi.DN (ro:=ro) (go:=.mapIter (aa l.b) clock #[] clock) (ob:=.kG (aa m) clock [] clock) (by simp at hN;omega)
    ⟨_,aa l.b,cE _ _ _ _,by simp,l,l9 bg _ _ _ hl,rfl⟩
   exact⟨_,_,_,.inl (by simp only[execOp,ho,aAd,awn,bC hu,awg,hum,cX (P:=P) hh ay,awz,run_newObj]),rv _ _ _,h1,h2⟩
  .cases h
 .cases h
theorem rY{vs:List IV}{us:List Value}(h:aL Z vs us):Rv Z (.aF vs) (.tuple us.toArray):=.aF _ _ h.1 h.2
theorem ah7{it:Operand}{str:Bool}(hi:Inv N Z G w)(hr:Rv Z (ρ it) (r it))(ho:o.op=.next it str)(h:aA P ro ρ o G=aa out):bB P ro N Z w G r o out:=by
 unfold aA at h;rw[ho]at h;simp only at h;split at h
 .rename_i id hx;rw[hx]at hr;split at h
  .cases h
  .rename_i ej;have ej:ro<=id:=azV λh=>ej aj;generalize hq:r it=q at hr;cases hr with
   |ptr _ _ _ _ l hl hle=>
    have ak:l.b<w.heap.size:=hi.gE id _ ⟨_,_,hl,rfl⟩;split at h
    .rename_i s pos aM;obtain⟨l',cz,hh⟩:=hi.obj id _ aM;rw[hl]at cz;cases cz;split at h
     .rename_i wW;obtain rfl:=aY h;intro hN;obtain⟨r1,r2⟩:=hi.wX (ro:=ro) (fp:=.rW s (pos+(axU s pos).2)) (go:=.stringIter s (pos+(axU s pos).2)) aM ej hl ⟨l,hl,by simp[ak]⟩;refine⟨.tuple #[.bool ab,.int .i64 pos,.int .i32 (axU s pos).1],_,Z,.inl ?_,?_,r1,r2⟩
      .simp only[execOp,ho,ayt,hq,awn,cX (P:=P) hh ay,awg,wW,if_true,gw (P:=P) hh ay,awz,goInt]
      .exact rY (aL.cons (.raw _) (aL.cons (.raw _) (aL.cons (.raw _) aL.nil)))
     .rename_i wW;obtain rfl:=aY h;refine bB.same hi (u:=.tuple #[.bool af]) ?_ (rY (aL.cons (.raw _) aL.nil));simp only[execOp,ho,ayt,hq,awn,cX (P:=P) hh ay,awg,wW,if_false,awz]
    .rename_i a b c aM;obtain⟨l',mr,cz,hh,hm⟩:=hi.obj id _ aM;rw[hl]at cz;cases cz;simp only at hm;subst hm;obtain rfl:=aY h;refine bB.same hi (u:=.tuple #[.bool af]) ?_ (rY (aL.cons (.raw _) aL.nil));simp only[execOp,ho,ayt,hq,awn,cX (P:=P) hh ay,awg,awz]
    .rename_i m since seen last aM;obtain⟨l',mr,cz,hh,hm⟩:=hi.obj id _ aM;rw[hl]at cz;cases cz;obtain⟨lm,Gs,rfl⟩:=hm;split at h
     .rename_i es clock Su;obtain⟨lm',res,G0,Js,he⟩:=hi.obj m _ Su;rw[Gs]at G0;cases G0
      have over:∀{adV:Array (Option MapEntry)},adV= #[ah]->(choose (.mapNext adV.size)).run P w=.ok 0 w:=by
       intro adV hc;subst hc;simp[choose,axX,ax7]
      split at h
      .have hre:res= #[]:=Array.eq_empty_of_size_eq_zero (by have:=he.1;simpa using this.symm);subst hre;obtain rfl:=aY h;refine bB.same hi (u:=.tuple #[.bool af]) ?_ (rY (aL.cons (.raw _) aL.nil));simp[execOp,ho,ayt,hq,cX (P:=P) hh ay,cX (P:=P) Js ay,choose,axX,ax7]
      .rename_i e;have bf:res.size=1:=by have:=he.1;simpa using this.symm
       obtain⟨rr,rfl⟩:∃rr,res= #[rr]:=by
        refine⟨res[0],?_⟩;apply Array.ext (by simp[bf]);intro i h1 h2;have:i=0:=aj;subst this;rfl
       obtain⟨hk,hv,hb⟩:=he.2 0 e rr rfl rfl;split at h
       .rename_i qY;split at h
        .rename_i oj;obtain rfl:=aY h;refine bB.same hi (u:=.tuple #[.bool af]) ?_ (rY (aL.cons (.raw _) aL.nil));have ajY:rr.born∈seen:=by rw[hb];exact qY
         have Sv:¬last<=rr.born:=by rw[hb];omega
         have adW:Array.filter (λe=> !seen.toArray.contains e.born) #[rr]= #[]:=by simp[ajY]
         simp[execOp,ho,ayt,hq,cX (P:=P) hh ay,cX (P:=P) Js ay,choose,axX,ax7,ajY,Sv]
        .cases h
       .rename_i qY;split at h
        .rename_i hc;obtain⟨bU,rfl⟩:=hc;obtain rfl:=aY h;intro hN;have cB:rr.born<since:=by rw[hb];exact bU
         obtain⟨r1,r2⟩:=hi.wX (ro:=ro) (fp:=.kG (aa m) since [e.2.2] clock) (go:=.mapIter (aa lm.b) since #[rr.born] clock) aM ej hl ⟨l,aa lm.b,hl,by simp[ak,hb],lm,Gs,rfl⟩;refine⟨.tuple #[.bool ab,rr.key,rr.val],_,Z,.inl ?_,?_,r1,r2⟩
         .have dv:¬since<=rr.born:=aj;simp[execOp,ho,ayt,hq,cX (P:=P) hh ay,cX (P:=P) Js ay,choose,axX,ax7,cB,dv,gw (P:=P) hh ay]
         .rw[<-hk];exact rY (aL.cons (.raw _) (aL.cons (Rv.lift _) (aL.cons hv aL.nil)))
        .cases h
      .cases h
     .cases h
    .cases h
 .cases h
theorem adX{it:Operand}(hi:Inv N Z G w)(hr:Rv Z (ρ it) (r it))(ho:o.op=.entry it)(h:aA P ro ρ o G=aa out):bB P ro N Z w G r o out:=by
 unfold aA at h;rw[ho]at h;simp only at h;split at h
 .rename_i id hx;rw[hx]at hr;generalize hq:r it=q at hr;cases hr with
  |ptr _ _ _ _ l hl hle=>
   split at h
   .rename_i m since seen Ag aM;obtain⟨l',mr,cz,hh,hm⟩:=hi.obj id _ aM;rw[hl]at cz;cases cz;obtain⟨lm,Gs,rfl⟩:=hm;split at h
    .rename_i es clock Iv Su oj;obtain⟨lm',res,G0,Js,he⟩:=hi.obj m _ Su;rw[Gs]at G0;cases G0;split at h
     .rename_i bD;split at h
      .rename_i e Sw;obtain rfl:=aY h
       have key:∀(es:List (Value×IV×Nat)) (rs:List MapEntry),es.length=rs.length->(∀(j:Nat) (e:Value×IV×Nat) (rr:MapEntry),es[j]?=aa e->rs[j]?=aa rr->rr.key=e.1/\Rv Z e.2.1 rr.val/\rr.born=e.2.2)->
        es.find? (λe=>e.2.2==Iv)=aa e->∃rr,rs.find? (λe=>e.born==Iv)=aa rr/\rr.key=e.1/\Rv Z e.2.1 rr.val:=by
        intro es;induction es with
        |nil=>intro rs _ _ hf;simp at hf
        |cons a es ih=>
         intro rs hl hb hf;cases rs with
         |nil=>simp at hl
         |cons rr rs=>
          obtain⟨h1,h2,h3⟩:=hb 0 a rr rfl rfl;rw[List.find?_cons]at hf⊢;rw[h3];split at hf
          .rename_i hc;cases hf;exact⟨rr,rfl,h1,h2⟩
          .rename_i hc;exact ih rs (by simpa using hl) (λk x y h1 h2=>hb (k+1) x y h1 h2) hf
       obtain⟨rr,hf,hk,hv⟩:=key es res.toList (by simpa using he.1) (λj e rr h1 h2=>he.2 j e rr h1 (by simpa using h2)) Sw;have hf':res.find? (λe=>e.born==Iv)=aa rr:=by rw[<-hf,<-Array.find?_toList]
       have Sv:seen.toArray.back?=aa Iv:=by rw[<-oj];simp
       refine bB.same hi (u:=.tuple #[rr.key,rr.val]) ?_ (by rw[<-hk];exact rY (aL.cons (Rv.lift _) (aL.cons hv aL.nil)));subst bD;simp[execOp,ho,Instr.entry,hq,cX (P:=P) hh ay,cX (P:=P) Js ay,Sv,hf']
      .cases h
     .cases h
    .cases h
   .cases h
 .cases h
end
end Go.Ev
