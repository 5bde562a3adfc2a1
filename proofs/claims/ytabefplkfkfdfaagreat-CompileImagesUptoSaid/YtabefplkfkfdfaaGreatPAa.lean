/- Lemmas, a part of the proof; no conditions. -/
import Derived.RangeFuncLeaves
import Derived.RecoverIn
import Derived.LoopNIn
import Derived.OrdersIn
import Derived.Laws.CopyRow
import Derived.Laws.Cells
import Derived.Lib.Strings
import Derived.IntWalk
open Nat renaming beq->ZW,blt->UO,testBit->RD,eq_zero_or_pos->aKb,mul_eq_zero->aJp,le_of_eq->aK5
open Go renaming undef->ZL,Obj->Uc,binOp->Kd,TypeId->VK,Value->ZQ,Program->V5,Operand->Xs,FuncId->V4,World->Z0,Oper->YX,execOp->UP
open List renaming replicate->Xp,range'->Ln,drop_take->aKB,range->YF,getElem?_toArray->PH,ext_getElem?->aKc,zipIdx_cons->aJc,map_congr_left->YH
open Go.Instr renaming checkKey->ZC,findKey->YA,sameBits->Xi,yield->Na,loadAt->aKQ,sureAddr->Xj,extract->aKC,makeMap->aKD,fieldAt->aKE,indexAt->QR,index->aKW,fill->aK4,build->aKX,sliceBound->Uq,sliceBounds->aJ3,sliceAt->Za,slice->aKY,findNow->Yp,findAsking->Qu,lookup->aJE,keyThatStays->aI0,mapUpdate->aJl,range->aJN,next->X2,typeAssert->Wl,getLoop->aKF,endRound->aKy,enterLoop->aKq
open Go.Op renaming bytesLess->TH,equalIn->NI,equal->We,stringOp->PG
open Go.Builtin renaming max_->aKv,lenOf->Yz,firstCells->Tt,growBy->aKd,nextslicecap->Ej,zeroCells->TT,append_->JT,len_->aKw,cap_->aKx
open Go.Utf8 renaming decode->Nf
open Go.Region renaming binds->Tn,wanted->YJ
open Option renaming none->Yl,map_some->ZO,map_eq_some_iff->Lq,getD_none->P0,bind_some->Z8
open Go.Sem renaming run_map->aLa,run->Y3
open Go.World renaming cell?->Ws
open ByteArray renaming ext->aJ2
open Go.IntKind renaming i64->QY
open Array renaming range->aJM,ext'->Yw,all_eq_true_iff_forall_mem->aI7,mapM_eq_mapM_toList->aJr,map_empty->aKp,getElem?_push->aJS,eq_empty_of_size_eq_zero->aIi,toList_map->aKe,replicate->Nq
open Go.IntWalk renaming i64_in->aJk
open Go.Question renaming forced->Wr
open Go.Deferred renaming ofValue->aI3
open Go.Fence renaming wide->Z9
open Go.Code renaming roundsIn->aKR
open Go.LoopState renaming busy->aLh
open Decidable renaming byContradiction->XL
open Go.Call renaming operands->X0
open Option renaming some->aa,none->ah
open Bool renaming true->ab,false->af
set_option linter.all false
def XS:=@Nat.le_refl
def YE:=@Nat.le_trans
def Zu:=@Nat.lt_of_lt_of_le
def Tp:=@Nat.lt_of_not_le
def XX:=@Nat.mul_le_mul_right
def W6:=@Nat.add_mul
def Yj:=@Nat.zero_add
def UG:=@Nat.min_eq_left
def UT:=@Nat.zero_le
def PE:=@Nat.le_of_not_lt
def Kp:=@List.eq_nil_of_length_eq_zero
def VJ:=@List.getElem?_append_left
def Ub:=@List.getElem?_append_right
def T_:=@List.getElem?_take
def Z5:=@List.getElem?_eq_some_iff
def UN:=@List.getElem?_eq_getElem
def Z7:=@List.getElem?_map
def Zv:=@List.foldl_cons
def Tv:=@List.mapM_cons
def TC:=@List.mem_of_mem_take
def PY:=@List.length_take
def ZZ:=@List.append_assoc
def UR:=@List.length_append
def YG:=@List.length_nil
def UF:=@List.drop_drop
def Zx:=@List.length_cons
def XA:=@List.range'_succ
def Yo:=@List.range_eq_range'
def Kv:=@Option.isSome_iff_exists
def Tb:=@Option.getD_some
def ZY:=@Option.some.injEq
def Nr:=@Option.some.inj
def Z1:=@Go.Sem.run_bind
def VV:=@Go.Sem.run_pure
def Rn:=@Go.Result.andThen_ok
def aK_:=@ByteArray.getElem_eq_getElem_data
def Ti:=@Array.getD_eq_getD_getElem?
def Kr:=@Array.getElem?_eq_getElem
def XF:=@Classical.byContradiction
def W8:=@Bool.false_eq_true
def TU:=@Go.Oper.semAt_eq
def Th:=@Go.Oper.uponIn_enter
namespace Go.Ev
abbrev aj(B:Type _):Type _:=List B
abbrev aF(B:Type _):Type _:=Option B
variable{c:Prop}
def aW{i:Decidable c}(h:c){B:Sort _}{x y:B}:ite c x y=x:=if_pos h
def aY{i:Decidable c}(h:¬c){B:Sort _}{x y:B}:ite c x y=y:=if_neg h
variable{a:Xs}{b:Nat}{p:Prop}
def bH{a b:Prop}(h:a)(k:¬a):b:=absurd h k
def eE(h:p:=by simp;omega):p:=h
def J_(h:p:=by first|omega|(simp;omega)):p:=h
def cE(h:p:=by rfl):p:=h
def ES(h:p:=by assumption):p:=h
def ak(h:p:=by omega):p:=h
def az(h:p:=by simp):p:=h
def aI(h:p:=by grind):p:=h
def jw(h:p:=by simp_all):p:=h
inductive T(B:Type) where
 |lf
 |nd (l:T B) (v:Option B) (r:T B)
namespace T
variable{B:Type}
def get:T B->Nat->aF B
 |.lf,_=>ah
 |.nd l v r,i=>if ZW i 0 then v else if ZW (i % 2) 1 then l.get (i/2)else r.get (i/2- 1)
def w_:Nat->T B->Nat->B->T B
 |0,t,_,_=>t
 |f+1,t,i,x=>
  match t with
  |.lf=>if ZW i 0 then .nd .lf (aa x) .lf else if ZW (i % 2) 1 then .nd (w_ f .lf (i/2) x) ah .lf else .nd .lf ah (w_ f .lf (i/2- 1) x)
  |.nd l v r=>if ZW i 0 then .nd l (aa x) r else if ZW (i % 2) 1 then .nd (w_ f l (i/2) x) v r else .nd l v (w_ f r (i/2- 1) x)
def set(t:T B)(i:Nat)(x:B):T B:=w_ (i+1) t i x
end T
inductive IV where
 |raw (v:ZQ)
 |agg (cs:List IV)
 |aU (vs:List IV)
 |ptr (id ay ep ext:Nat)
 |sl (id ay len:Nat) (cap:Option Nat) (ep s:Nat)
 |emp
 |map (id:Nat)
 |fn (f:Fn) (first captured:List IV)
 |vA (id:Nat)
 |eT (t:VK) (v:IV)
 |tree (s:Nat) (es:List IV)
 |pF (cs:List IV)
 deriving Inhabited
def IV.undef:IV:=.raw ZL
abbrev IV.bool(b:Bool):IV:=.raw (.bool b)
abbrev IV.int(n:Int):IV:=.raw (.int .i64 n)
inductive Ob where
 |cells (cs:List IV) (ep mn:Nat)
 |map (es:List (ZQ×IV×Nat)) (clock:Nat)
 |uW (s:ByteArray) (pos:Nat)
 |na (m:Option Nat) (since:Nat) (seen:List Nat) (Dt:Nat)
 |loop (state:LoopState) (pending:Option Code) (f:V4) (tm:T IV) (oE:Nat) (params:List Tmp) (assign body:Code) (iN:Nat)
 |JH (taken:Bool)
 deriving Inhabited
inductive Df where
 |zK (id:Nat)
 |call (f:V4) (av:List IV)
structure St where
 n:Nat
 t:T Ob
def St.add(G:St)(o:Ob):St:=⟨G.n+1,G.t.set G.n o⟩
def St.put(G:St)(id:Nat)(o:Ob):St:=⟨G.n,G.t.set id o⟩
def St.at(G:St)(id:Nat):aF Ob:=G.t.get id
structure aK where
 n:Nat
 t:T IV
def aK.at(e:aK)(i:Nat):IV:=(e.t.get i).getD .undef
def aK.put(e:aK)(dst:aF Tmp)(v:IV):aK:=
 match dst with
 |none=>e
 |some d=>if UO d e.n then⟨e.n,e.t.set d v⟩else e
def a_{B:Type}(P:V5):Sem B->aF B
 |.pure a=>aa a
 |.program k=>a_ P (k P)
 |.mark _ k=>a_ P k
 |_=>ah
def lift:ZQ->IV
 |.agg cs=>.agg (cs.toList.map .raw)
 |v=>.raw v
def nJ:aj IV->aF (aj ZQ)
 |[]=>aa []
 |c::cs=>match c with
  |.raw v=>match nJ cs with
   |some vs=>aa (v::vs)
   |none=>ah
  |_=>ah
def xV:IV->aF ZQ
 |.raw v=>aa v
 |.agg cs=>match nJ cs with
  |some vs=>aa (.agg vs.toArray)
  |none=>ah
 |_=>ah
def pd:IV->aF ZQ
 |.eT t v=>match xV v with
  |some u=>aa (.iface t u)
  |none=>ah
 |v=>xV v
def aD:IV->aj IV
 |.agg cs=>cs
 |v=>[v]
def aw:IV->Bool
 |.raw (.agg _)|.raw (.tuple _)|.agg _|.aU _=>af
 |_=>ab
section ops
variable(P:V5)
def bD(t:VK):aF Nat:=(P.info? t).map (·.size)
def dW(t:VK):aF ZQ:=(P.info? t).bind (·.zero)
def vL(t:VK):aF Bool:=(P.underlying t).map λ|.struct _|.array _ _=>ab|_=>af
def partOf(t:VK)(cs:aj IV)(ay:Nat):aF IV:=
 match vL P t,bD P t with
 |some ab,aa s=>if ay+s<=cs.length then aa (.agg ((cs.drop ay).take s))else ah
 |some af,aa s=>if s=1 then cs[ay]? else ah
 |_,_=>ah
def gd(cs:aj IV)(ay:Nat)(aH:aj IV):aj IV:=cs.take ay++aH++cs.drop (ay+aH.length)
def uX(place:Nat->aF (Nat×Nat)):aj IV->aj (Nat×IV)->aF (aj IV)
 |cells,[]=>aa cells
 |cells,(i,v)::aE=>
  match place i with
  |none=>ah
  |some (ay,size)=>
   if(aD v).length=size/\ay+size<=cells.length/\(aD v).all aw then uX place (gd cells ay (aD v)) aE else ah
def nZ(zero:aj IV)(n:Nat):aj IV:=
 match zero with
 |[z]=>Xp n z
 |_=>(Xp (n/zero.length) zero).flatten
def jx(size n:Nat)(G:St):IV->aF (aj IV)
 |.raw (.slice ah _ _)=>if n=0 then aa []else ah
 |.emp=>if n=0 then aa []else ah
 |.raw (.string s)=>if n<=s.size then aa ((s.data.toList.take n).map λb=>.raw (.int .u8 b.toNat))else ah
 |.sl id ay len _ ep s=>if s=size/\n<=len then match G.at id with
   |some (.cells cs aV mn)=>if mn<=ep/\ep<=aV/\ay+n*size<=cs.length then aa ((cs.drop ay).take (n*size))else ah
   |_=>ah
  else ah
 |.tree s es=>if s=size/\n<=es.length then aa ((es.take n).flatMap aD)else ah
 |_=>ah
def tZ:IV->aF Nat
 |.raw (.slice ah l _)=>if l=0 then aa 0 else ah
 |.raw (.string s)=>aa s.size
 |.emp=>aa 0
 |.sl _ _ len _ _ _=>aa len
 |.tree _ es=>aa es.length
 |_=>ah
inductive jK where
 |val (v:IV) (G:St)
 |enter (f:V4) (av:List IV)
 |round (id:Nat) (av:List IV)
 |dfr (d:Df)
 |dh (v:IV)
def ret(v:IV)(G:St):aF jK:=aa (.val v G)
def xE(size:Nat)(zero:ZQ)(xd:TypeDesc)(G:St)(x:IV):aF (Nat×aj IV):=
 match xd with
 |.int _=>match x with
  |.raw (.int .i64 l)=>if 0<=l/\l<=1000000 then aa (l.toNat,nZ (zero.cells.toList.map .raw) (l.toNat*size))else ah
  |_=>ah
 |_=>match tZ x with
  |some n=>match jx size n G x with
   |some cs=>aa (n,cs)
   |none=>ah
  |none=>ah
def iY(size bV n:Nat)(aH:aj IV)(s:IV)(G:St):aF jK:=
 match jx size bV G s with
 |some dI=>if dI.length=bV*size then ret (.sl G.n 0 (bV+n) ah 0 size) (G.add (.cells (dI++aH) 0 0))else ah
 |none=>ah
def gH(ro size bV n:Nat)(aH:aj IV)(s:IV)(G:St):aF jK:=
 match s with
 |.raw (.slice ah l c)=>if l=0/\c=0 then(if n=0 then ret s G else iY size bV n aH s G)else ah
 |.emp=>if n=0 then ret s G else iY size bV n aH s G
 |.tree _ _=>if n=0 then ret s G else ah
 |.sl id ay len cap ep st=>
  if st≠size then ah else
  if n=0 then ret (.sl id ay len cap ep st) G else
  match cap with
  |some c=>if len+n<=c then
    match G.at id with
    |some (.cells cs aV _)=>if ro<=id/\ep=aV/\ay+(len+n)*size<=cs.length then
      ret (.sl id ay (len+n) cap ep st) (G.put id (.cells (gd cs (ay+len*size) aH) aV aV))else ah
    |_=>ah
   else iY size bV n aH s G
  |none=>match G.at id with
   |some (.cells cs aV mn)=>if ro<=id/\ep=aV/\ay=0/\len*size=cs.length then
     ret (.sl id 0 (len+n) ah (ep+1) st) (G.put id (.cells (cs++aH) (aV+1) mn))
    else if ro<=id/\ep=aV/\ay=0/\len*size<=cs.length then
     ret (.sl id 0 (len+n) ah (ep+1+1) st) ((G.put id (.cells (cs.take (len*size)) (aV+1) (aV+1))).put id (.cells (cs.take (len*size)++aH) (aV+1+1) (aV+1)))
    else ah
   |_=>ah
 |_=>ah
def oP(ro:Nat)(argTypes:Array VK)(s x:IV)(G:St):aF jK:=
 match argTypes[0]?,argTypes[1]? with
 |some sT,aa xT=>
  match P.underlying sT,P.underlying xT with
  |some (.slice bo),aa xd=>
   match bD P bo,dW P bo,(P.info? bo).map (·.bytes)with
   |some size,aa zero,aa bytes=>
    if size=0\/zero.cells.size≠size then ah else
    match xE size zero xd G x,tZ s with
    |some (n,aH),aa bV=>
     if aH.length=n*size/\aH.all aw=ab/\(4*(bV+n)+4096)*bytes<=2 ^47/\bV+n<=2 ^40 then gH ro size bV n aH s G else ah
    |_,_=>ah
   |_,_,_=>ah
  |_,_=>ah
 |_,_=>ah
def kR:aF IV->aF (aF Nat)
 |none=>aa ah
 |some (.raw (.int _ i))=>if 0<=i then aa (aa i.toNat)else ah
 |_=>ah
def iZ(t:VK)(x:IV)(lo hi mx:aF IV):aF IV:=
 match kR lo,kR hi,kR mx with
 |some lo,aa hi,aa mx=>
  if mx.isSome=ab/\hi.isSome=af then ah else
  match P.underlying t with
  |some .string=>match x with
   |.raw (.string s)=>
    if mx=ah/\lo.getD 0<=hi.getD s.size/\hi.getD s.size<=s.size then aa (.raw (.string ⟨((s.data.toList.drop (lo.getD 0)).take (hi.getD s.size- lo.getD 0)).toArray⟩))else ah
   |_=>ah
  |some (.slice bo)=>match bD P bo with
   |none=>ah
   |some sz=>match x with
    |.raw (.slice ah 0 0)=>if lo.getD 0=0/\hi.getD 0=0/\mx.getD 0=0 then aa (.raw (.slice ah 0 0))else ah
    |.emp=>if lo.getD 0=0/\hi.getD 0=0/\mx.getD 0=0 then aa .emp else ah
    |.sl id ay len cap ep s=>
     if sz≠s then ah else
     match mx,cap with
     |some m,cap=>if lo.getD 0<=hi.getD len/\hi.getD len<=m/\m<=cap.getD len then
       (if m=lo.getD 0 then aa .emp else aa (.sl id (ay+lo.getD 0*s) (hi.getD len- lo.getD 0) (aa (m- lo.getD 0)) ep s))else ah
     |none,aa m=>if lo.getD 0<=hi.getD len/\hi.getD len<=m then
       (if m=lo.getD 0 then aa .emp else aa (.sl id (ay+lo.getD 0*s) (hi.getD len- lo.getD 0) (aa (m- lo.getD 0)) ep s))else ah
     |none,ah=>if lo.getD 0<=hi.getD len/\hi.getD len<=len then aa (.sl id (ay+lo.getD 0*s) (hi.getD len- lo.getD 0) ah ep s)else ah
    |.tree s es=>
     if sz≠s then ah else
     match mx with
     |none=>if lo.getD 0<=hi.getD es.length/\hi.getD es.length<=es.length then aa (.tree s ((es.take (hi.getD es.length)).drop (lo.getD 0)))else ah
     |some m=>if m=0/\lo.getD 0=0/\hi.getD es.length=0 then aa (.tree s [])else ah
    |_=>ah
  |some (.array n bo)=>match x,bD P bo with
   |.ptr id ay ep ext,aa s=>
    if s≠0/\n*s<=ext/\mx=ah/\lo.getD 0<=hi.getD n/\hi.getD n<=n then
     (if n=lo.getD 0 then aa .emp else aa (.sl id (ay+lo.getD 0*s) (hi.getD n- lo.getD 0) (aa (n- lo.getD 0)) ep s))else ah
   |_,_=>ah
  |_=>ah
 |_,_,_=>ah
def gX(empty:Bool)(kt:VK)(k:ZQ)(es:aj (ZQ×IV×Nat)):aF (aF Nat):=
 match a_ P (do
  ZC empty 10000 kt k
  YA kt k (es.map λe=>{key:=e.1,val:=ZL,born:=e.2.2}))with
 |some (aa (i,_))=>aa (aa i)
 |some ah=>aa ah
 |none=>ah
def entriesOf(G:St):IV->aF (aj (ZQ×IV×Nat))
 |.raw (.map ah)=>aa []
 |.map id=>match G.at id with
  |some (.map es _)=>aa es
  |_=>ah
 |_=>ah
def sB(ro:Nat)(kt:VK)(m k v:IV)(G:St):aF St:=
 match m,pd k with
 |.map id,aa key=>
  match G.at id with
  |some (.map es clock)=>
   if¬ro<=id then ah else
   match gX P af kt key es with
   |some (aa i)=>match es[i]? with
    |some e=>if Xi 10000 e.1 key then aa (G.put id (.map (es.set i (key,v,e.2.2)) clock))else ah
    |none=>ah
   |some ah=>aa (G.put id (.map (es++[(key,v,clock)]) (clock+1)))
   |none=>ah
  |_=>ah
 |_,_=>ah
def GV(t:VK):IV->IV->Bool
 |.raw (.pointer ah),.ptr .. |.raw (.pointer ah),.pF _=>match P.underlying t with|some (.pointer _)=>ab|_=>af
 |.raw (.slice ah _ _),.sl .. |.raw (.slice ah _ _),.emp|.raw (.slice ah _ _),.tree _ (_::_)=>match P.underlying t with|some (.slice _)=>ab|_=>af
 |.raw (.map ah),.map _=>match P.underlying t with|some (.map _ _)=>ab|_=>af
 |.raw .nilFunc,.fn .. |.raw .nilFunc,.vA _=>match P.underlying t with|some (.func _ _ _)=>ab|_=>af
 |.raw .nilIface,.eT .. =>match P.underlying t with|some (.interface _)=>ab|_=>af
 |_,_=>af
def TR(t:VK)(a b:IV):Bool:=GV P t a b||GV P t b a
def ptrEq(t:VK):IV->IV->aF Bool
 |.ptr i o e _,.ptr j p f _=>match P.underlying t with
  |some (.pointer el)=>match bD P el with
   |some s=>if i=j/\e=f/\s≠0 then aa (o==p)else ah
   |none=>ah
  |_=>ah
 |_,_=>ah
def vM(op:BinOp)(t:VK)(x y:Xs)(a b:IV):aF IV:=
 match op,a,b with
 |.eql,.raw (.string s),.raw (.string u)=>aa (.bool (s.data.toList==u.data.toList))
 |.neq,.raw (.string s),.raw (.string u)=>aa (.bool (!(s.data.toList==u.data.toList)))
 |.lss,.raw (.string s),.raw (.string u)=>aa (.bool (TH s.data.toList u.data.toList))
 |.gtr,.raw (.string s),.raw (.string u)=>aa (.bool (!(TH s.data.toList u.data.toList||s.data.toList==u.data.toList)))
 |.leq,.raw (.string s),.raw (.string u)=>aa (.bool (TH s.data.toList u.data.toList||s.data.toList==u.data.toList))
 |.geq,.raw (.string s),.raw (.string u)=>aa (.bool (!(TH s.data.toList u.data.toList)))
 |.add,.raw (.string s),.raw (.string u)=>if s.size+u.size<=2 ^40 then aa (.raw (.string ⟨(s.data.toList++u.data.toList).toArray⟩))else ah
 |op,a,b=>
  match pd a,pd b with
  |some u,aa v=>(a_ P (do eqGuard op t x y u v;binOp op t u v)).map lift
  |_,_=>
   if TR P t a b then
    match op with
    |.eql=>aa (.bool af)
    |.neq=>aa (.bool ab)
    |_=>ah
   else match op,ptrEq P t a b with
    |.eql,aa c=>aa (.bool c)
    |.neq,aa c=>aa (.bool !c)
    |_,_=>ah
def kA(f:IV)(av:aj IV):aF jK:=
 match f with
 |.fn (.func f) first cap=>
  match P.funcs[f]? with
  |some fn=>if fn.body.isSome&&fn.name != "runtime.NumGoroutine" then aa (.enter f (first++av++cap))else ah
  |none=>ah
 |.raw (.func (.func f) a b)=>
  if a.size=0/\b.size=0 then
   match P.funcs[f]? with
   |some fn=>if fn.body.isSome&&fn.name != "runtime.NumGoroutine" then aa (.enter f av)else ah
   |none=>ah
  else ah
 |.vA id=>aa (.round id av)
 |_=>ah
def s9(argTypes:Array VK)(x:IV)(G:St):aF IV:=
 match(argTypes[0]?).bind P.underlying,x with
 |some (.slice _),.sl _ _ len _ _ _=>aa (.int len)
 |some (.slice _),.emp=>aa (.int 0)
 |some (.slice _),.tree _ es=>aa (.int es.length)
 |some (.slice _),.raw (.slice ah l _)=>aa (.int l)
 |some .string,.raw (.string s)=>aa (.int s.size)
 |some (.map _ _),.raw (.map ah)=>aa (.int 0)
 |some (.map _ _),.map id=>match G.at id with
  |some (.map es _)=>aa (.int es.length)
  |_=>ah
 |some (.array n _),_=>aa (.int n)
 |_,_=>ah
def Zn(argTypes:Array VK)(x:IV):aF IV:=
 match(argTypes[0]?).bind P.underlying,x with
 |some (.slice _),.sl _ _ _ (aa c) _ _=>aa (.int c)
 |some (.slice _),.emp=>aa (.int 0)
 |some (.slice _),.raw (.slice ah _ c)=>aa (.int c)
 |some (.array n _),_=>aa (.int n)
 |_,_=>ah
def QW(av:aj IV):aF IV:=
 match nJ av with
 |some vs=>(a_ P (aKv #[] 0 vs.toArray)).map lift
 |none=>ah
def gI(ro:Nat)(b:Builtin)(argTypes:Array VK)(av:aj IV)(G:St):aF jK:=
 match b with
 |.append=>match av with
  |[s,x]=>oP P ro argTypes s x G
  |_=>ah
 |.len=>match av with
  |[x]=>(s9 P argTypes x G).map λv=>.val v G
  |_=>ah
 |.cap=>match av with
  |[x]=>(Zn P argTypes x).map λv=>.val v G
  |_=>ah
 |.max=>(QW P av).map λv=>.val v G
 |_=>ah
def aN(ro:Nat)(Y:Xs->IV)(o:YX)(G:St):aF jK:=
 match o.op with
 |.move x|.assign x=>ret (Y x) G
 |.pick c a b=>match Y c with
  |.raw (.bool t)=>ret (if t then Y a else Y b) G
  |_=>ah
 |.alloc bo=>match dW P bo with
  |some z=>ret (.ptr G.n 0 0 z.cells.size) (G.add (.cells (z.cells.toList.map .raw) 0 0))
  |none=>ah
 |.box _ x=>if(aD (Y x)).all aw then ret (.ptr G.n 0 0 (aD (Y x)).length) (G.add (.cells (aD (Y x)) 0 0))else ah
 |.build t parts=>match dW P t,P.underlying t with
  |some z,aa (.struct fields)=>match uX (λi=>(fields[i]?).bind λf=>(bD P f.type).map λs=>(f.offset,s)) (z.cells.toList.map .raw) (parts.toList.map λ(i,x)=>(i,Y x))with
   |some cs=>if fields.all λf=>(bD P f.type).isSome then ret (.agg cs) G else ah
   |none=>ah
  |some z,aa (.array _ bo)=>match bD P bo with
   |some s=>match uX (λi=>aa (i*s,s)) (z.cells.toList.map .raw) (parts.toList.map λ(i,x)=>(i,Y x))with
    |some cs=>ret (.agg cs) G
    |none=>ah
   |none=>ah
  |_,_=>ah
 |.buildSlice t len parts=>match P.underlying t with
  |some (.slice bo)=>match bD P bo,dW P bo with
   |some s,aa z=>
    if s=0\/z.cells.size≠s\/len*s>2 ^20 then ah else
    match uX (λi=>aa (i*s,s)) (nZ (z.cells.toList.map .raw) (len*s)) (parts.toList.map λ(i,x)=>(i,Y x))with
    |some cs=>if cs.length=len*s/\cs.all aw then(if len=0 then ret .emp G else ret (.sl G.n 0 len (aa len) 0 s) (G.add (.cells cs 0 0)))else ah
    |none=>ah
   |_,_=>ah
  |_=>ah
 |.load t a=>match Y a with
  |.ptr id ay ep ext=>match bD P t,G.at id with
   |some s,aa (.cells cs aV mn)=>if s<=ext/\mn<=ep/\ep<=aV then(match partOf P t cs ay with|some v=>ret v G|none=>ah)else ah
   |_,_=>ah
  |.pF cs=>match partOf P t cs 0 with
   |some v=>ret v G
   |none=>ah
  |_=>ah
 |.store t a x=>match Y a with
  |.ptr id ay ep ext=>match bD P t,G.at id with
   |some s,aa (.cells cs aV mn)=>
    if ro<=id/\(aD (Y x)).length=s/\s<=ext/\ep=aV/\ay+s<=cs.length/\(aD (Y x)).all aw then
     ret .undef (G.put id (.cells (gd cs ay (aD (Y x))) aV aV))else ah
   |_,_=>ah
  |_=>ah
 |.nilCheck x=>match Y x with
  |.ptr a b c d=>ret (.ptr a b c d) G
  |.pF cs=>ret (.pF cs) G
  |.fn (.func f) a b=>ret (.fn (.func f) a b) G
  |.vA l=>ret (.vA l) G
  |.eT t v=>ret (.eT t v) G
  |_=>ah
 |.binOp op t x y _=>match vM P op t x y (Y x) (Y y)with
  |some v=>ret v G
  |none=>ah
 |.unOp op _ x=>match Y x with
  |.raw v=>match a_ P (Op.unary op v)with
   |some r=>ret (lift r) G
   |none=>ah
  |_=>ah
 |.convert src dst x=>match Y x with
  |.raw (.string s)=>match P.underlying src,P.underlying dst with
   |some _,aa .string=>ret (.raw (.string s)) G
   |_,_=>ah
  |.raw v=>match a_ P (convert src dst v)with
   |some r=>ret (lift r) G
   |none=>ah
  |_=>ah
 |.makeInterface t x=>match P.underlying t with
  |some (.interface _)=>ah
  |some _=>ret (.eT t (Y x)) G
  |none=>ah
 |.makeFunc fn first cap=>ret (.fn fn (first.toList.map Y) (cap.toList.map Y)) G
 |.makeMap t r=>match r with
  |none=>ret (.map G.n) (G.add (.map [] 0))
  |some h=>match P.underlying t,Y h with
   |some (.map _ _),.raw (.int _ _)=>ret (.map G.n) (G.add (.map [] 0))
   |_,_=>ah
 |.makeSlice t l c=>match P.underlying t,Y l,Y c with
  |some (.slice bo),.raw (.int _ l),.raw (.int _ c)=>match bD P bo,dW P bo,(P.info? bo).map (·.bytes)with
   |some s,aa z,aa bytes=>
    if s=0\/z.cells.size≠s\/¬(0<=l/\l<=c/\c<=1000000)\/bytes>1000000 then ah else
    if c=0 then ret .emp G else
    ret (.sl G.n 0 l.toNat (aa c.toNat) 0 s) (G.add (.cells (nZ (z.cells.toList.map .raw) (c.toNat*s)) 0 0))
   |_,_,_=>ah
  |_,_,_=>ah
 |.slice t x lo hi mx=>match iZ P t (Y x) (lo.map Y) (hi.map Y) (mx.map Y)with
  |some v=>ret v G
  |none=>ah
 |.fieldAddr s x f=>match P.underlying s with
  |some (.struct fields)=>match fields[f]? with
   |some fd=>match bD P fd.type,Y x with
    |some sz,.ptr id ay ep ext=>if sz≠0/\fd.offset+sz<=ext then ret (.ptr id (ay+fd.offset) ep sz) G else ah
    |some sz,.pF cs=>if sz≠0/\fd.offset+sz<=cs.length then ret (.pF ((cs.drop fd.offset).take sz)) G else ah
    |_,_=>ah
   |none=>ah
  |_=>ah
 |.field t x f=>match P.underlying t,Y x with
  |some (.struct fields),.agg cs=>match fields[f]? with
   |some fd=>match partOf P fd.type cs fd.offset with
    |some v=>ret v G
    |none=>ah
   |none=>ah
  |_,_=>ah
 |.indexAddr t x ix=>match P.underlying t,Y ix with
  |some (.slice bo),.raw (.int _ i)=>match Y x with
   |.sl id ay len _ ep s=>if bD P bo=aa s/\0<=i/\i<len then ret (.ptr id (ay+i.toNat*s) ep s) G else ah
   |.tree s es=>if bD P bo=aa s/\0<=i then match es[i.toNat]? with
     |some e=>if(aD e).length=s then ret (.pF (aD e)) G else ah
     |none=>ah
    else ah
   |_=>ah
  |some (.array n bo),.raw (.int _ i)=>match Y x,bD P bo with
   |.ptr id ay ep ext,aa s=>if s≠0/\0<=i/\i<n/\i.toNat*s+s<=ext then ret (.ptr id (ay+i.toNat*s) ep s) G else ah
   |_,_=>ah
  |_,_=>ah
 |.index t x ix=>match P.underlying t,Y x,Y ix with
  |some .string,.raw (.string s),.raw (.int _ i)=>if 0<=i then match s.data.toList[i.toNat]? with
    |some b=>ret (.raw (.int .u8 b.toNat)) G
    |none=>ah
   else ah
  |some (.array n bo),.agg cs,.raw (.int _ i)=>match bD P bo with
   |some s=>if 0<=i/\i<n then(match partOf P bo cs (i.toNat*s)with|some v=>ret v G|none=>ah)else ah
   |none=>ah
  |_,_,_=>ah
 |.lookup t x ix ok=>match P.underlying t,entriesOf G (Y x),pd (Y ix)with
  |some (.map kt bo),aa es,aa key=>match gX P es.isEmpty kt key es,dW P bo with
   |some (aa i),aa _=>match es[i]? with
    |some e=>ret (if ok then .aU [e.2.1,.bool ab]else e.2.1) G
    |none=>ah
   |some ah,aa z=>ret (if ok then .aU [lift z,.bool af]else lift z) G
   |_,_=>ah
  |_,_,_=>ah
 |.mapUpdate t m k x|.insert t m k x=>match P.underlying t with
  |some (.map kt _)=>match sB P ro kt (Y m) (Y k) (Y x) G with
   |some aB=>ret .undef aB
   |none=>ah
  |_=>ah
 |.range t x=>match P.underlying t,Y x with
  |some .string,.raw (.string s)=>ret (.ptr G.n 0 0 1) (G.add (.uW s 0))
  |some (.map _ _),.raw (.map ah)=>ret (.ptr G.n 0 0 1) (G.add (.na ah 0 [] 0))
  |some (.map _ _),.map m=>match G.at m with
   |some (.map _ clock)=>ret (.ptr G.n 0 0 1) (G.add (.na (aa m) clock [] clock))
   |_=>ah
  |_,_=>ah
 |.next it str=>match Y it with
  |.ptr r 0 0 1=>if¬ro<=r then ah else match G.at r,str with
   |some (.uW s pos),ab=>
    if pos<s.size then
     ret (.aU [.bool ab,.int pos,.raw (.int .i32 (Nf s pos).1)]) (G.put r (.uW s (pos+(Nf s pos).2)))
    else ret (.aU [.bool af]) G
   |some (.na ah _ _ _),af=>ret (.aU [.bool af]) G
   |some (.na (aa m) since seen last),af=>match G.at m with
    |some (.map es clock)=>match es with
     |[]=>ret (.aU [.bool af]) G
     |[e]=>if e.2.2∈seen then(if e.2.2<last then ret (.aU [.bool af]) G else ah)else
      if e.2.2<since/\seen=[]then ret (.aU [.bool ab,lift e.1,e.2.1]) (G.put r (.na (aa m) since [e.2.2] clock))else ah
     |_=>ah
    |_=>ah
   |_,_=>ah
  |_=>ah
 |.entry it=>match Y it with
  |.ptr r 0 0 1=>match G.at r with
   |some (.na (aa m) _ seen Dt)=>match G.at m,seen.getLast? with
    |some (.map es clock),aa L5=>if clock=Dt then match es.find? (λe=>e.2.2==L5)with
      |some e=>ret (.aU [lift e.1,e.2.1]) G
      |none=>ah
     else ah
    |_,_=>ah
   |_=>ah
  |_=>ah
 |.extract t i=>match Y t with
  |.aU vs=>match vs[i]? with
   |some v=>ret v G
   |none=>ah
  |.raw (.tuple vs)=>match vs[i]? with
   |some v=>ret (.raw v) G
   |none=>ah
  |_=>ah
 |.panic x=>match Y x with
  |.eT t v=>aa (.dh (.eT t v))
  |_=>ah
 |.typeAssert x _ asserted ok=>match P.underlying asserted,dW P asserted with
  |some (.interface _),_=>ah
  |some _,aa z=>match Y x with
   |.eT t v=>if ZW t asserted then ret (if ok then .aU [v,.bool ab]else v) G else
     if ok then ret (.aU [lift z,.bool af]) G else ah
   |.raw .nilIface=>if ok then ret (.aU [lift z,.bool af]) G else ah
   |_=>ah
  |_,_=>ah
 |.call c=>match c.callee with
  |.builtin b=>gI P ro b c.argTypes (c.args.toList.map Y) G
  |.value f=>kA P (Y f) (c.args.toList.map Y)
  |_=>ah
 |.defer c=>match c.callee with
  |.value f=>match kA P (Y f) (c.args.toList.map Y)with
   |some (.enter f av)=>aa (.dfr (.call f av))
   |_=>ah
  |_=>ah
 |_=>ah
end ops
inductive Ex where
 |normal
 |exit (id:Nat)
 |goto (l:Nat)
 |ret
 |dh (v:IV)
def Ex.HU:Ex->Bool
 |.dh _=>ab
 |_=>af
def jT:Ex->aF Code
 |.normal=>ah
 |.dh _=>ah
 |.ret=>aa .ret
 |.exit id=>aa (.exit id)
 |.goto t=>aa (.goto t)
structure CR where
 ex:Ex
 e:aK
 df:aj Df
 G:St
structure Self where
 code:(ro:Nat)->(rd:aF Nat)->V4->Code->aK->aj Df->St->aF CR
 call:(ro:Nat)->V4->aj IV->St->aF (IV×St)
 dh:(ro:Nat)->V4->aj IV->St->aF (IV×St)
 Ca:(ro:Nat)->V4->aj IV->aF IV->St->aF (aF IV×St)
section steps
variable(P:V5)(S:Self)
def aT(e:aK):Xs->IV
 |.tmp t=>e.at t
 |.const v=>lift v
 |.global g=>.raw (.pointer (aa ⟨g,0,ah⟩))
 |.func f=>.raw (.func (.func f) #[] #[])
def bE(o:YX)(ao:Array YX)(e:aK):Bool:=
 match o.guard with
 |none=>ab
 |some (j,want)=>match((ao[j]?).bind (·.dst))with
  |some d=>if UO d e.n then(match e.at d with|.raw (.bool b)=>b==want|_=>af)else af
  |none=>af
def GW(ro:Nat)(l:Nat)(av:aj IV)(G:St):aF (IV×St):=
 match G.at l with
 |some (.loop state pending f tm oE params assign body iN)=>
  if av.length≠params.length\/¬ro<=l\/state≠.ready then ah else
  let e:aK:=(params.zip av).foldl (λe (p,v)=>e.put (aa p) v) ⟨oE,tm⟩
  match S.code ro (aa l) f assign e [] G with
  |some ⟨.normal,e,[],G⟩=>
   match G.at l with
   |some (.loop .ready pending f1 DI HV params1 aab ak6 vN)=>
    match S.code ro (aa l) f body e [] (G.put l (.loop .busy pending f1 DI HV params1 aab ak6 vN))with
    |some ⟨ex,_,[],G⟩=>
     if ex.HU then ah else
     match G.at l with
     |some (.loop _ _ f tm oE params assign body iN)=>
      aa (.bool (jT ex).isNone,G.put l (.loop (if(jT ex).isNone then .ready else .done) (jT ex) f tm oE params assign body iN))
     |_=>ah
    |_=>ah
   |_=>ah
  |_=>ah
 |_=>ah
def nb(ro:Nat)(e:aK)(o:YX)(G:St):aF (IV×St):=
 match aN P ro (aT e) o G with
 |some (.val v G)=>aa (v,G)
 |some (.enter f av)=>S.call ro f av G
 |some (.round l av)=>GW S ro l av G
 |_=>ah
def ET(ro:Nat)(rd:aF Nat)(ao:Array YX):aj YX->aK->aj Df->St->aF CR
 |[],e,df,G=>aa ⟨.normal,e,df,G⟩
 |o::aE,e,df,G=>
  if bE o ao e then
   match nb P S ro e o G with
   |some (v,G)=>ET ro rd ao aE (e.put o.dst v) df G
   |none=>match aN P ro (aT e) o G with
    |some (.dfr d)=>if rd.isNone then ET ro rd ao aE (e.put o.dst .undef) (d::df) G else ah
    |some (.enter f av)=>match S.dh ro f av G with
     |some (v,G)=>aa ⟨.dh v,e,df,G⟩
     |none=>ah
    |some (.dh v)=>aa ⟨.dh v,e,df,G⟩
    |_=>ah
  else ET ro rd ao aE (e.put o.dst .undef) df G
inductive Kind where
 |pure|alloc|load|call|effect
 deriving DecidableEq
def dD(o:YX):Kind:=
 match o.op with
 |.move _|.assign _|.pick .. |.build .. |.binOp .. |.unOp .. |.convert .. |.makeInterface .. |.makeFunc .. |.slice .. |.fieldAddr .. |.field ..
 |.indexAddr .. |.index .. |.extract .. |.nilCheck _=>.pure
 |.call {callee:=.builtin .cap,.. }|.call {callee:=.builtin .min,.. }|.call {callee:=.builtin .max,.. }=>.pure
 |.alloc .. |.box .. |.buildSlice .. |.makeMap .. |.makeSlice .. =>.alloc
 |.load .. |.lookup .. |.entry _|.call {callee:=.builtin .len,.. }=>.load
 |.call {callee:=.value _,.. }|.call {callee:=.builtin .append,.. }=>.call
 |_=>.effect
def L6(ax:aj Nat)(o:YX):aj Nat:=
 ax++[o.after.toList.foldl (λs e=>if Tn .any e then Nat.lor s (Nat.lor (Nat.shiftLeft 1 e.on) (ax.getD e.on 0))else s) 0]
def QX(ao:Array YX):aj Nat:=ao.toList.foldl L6 []
def zL(ao:Array YX)(o:YX):aj Nat:=
 (o.op.operands.toList.filterMap λ|.tmp t=>aa t|_=>ah)++(match o.guard with|some (j,_)=>(((ao[j]?).bind (·.dst)).toList)|none=>[])
structure fK where
 dp:aj Nat
 kinds:aj Kind
 ok:Bool
def ak7:Kind->Kind->Bool
 |.effect,.effect|.effect,.call|.call,.effect=>ab
 |_,_=>af
def writes(o:YX)(l:aj Nat):Bool:=
 match o.dst with
 |some a=>l.contains a
 |none=>af
def GX(dp:aj Nat)(ks:aj Kind)(rds:aj (aj Nat))(p:YX)(i:Nat)(o:YX)(j:Nat):Bool:=
 (match p.dst,o.dst with|some a,aa b=> !ZW a b|_,_=>ab)&&
 (!(ks.getD i .effect==.load)|| !writes o (rds.getD i []))&&
 (RD (dp.getD j 0) i||(!writes p (rds.getD j [])&& !writes o (rds.getD i [])&& !ak7 (ks.getD i .effect) (ks.getD j .effect)))
def cU(ao:Array YX):fK:=
 let l:=ao.toList.zipIdx
 let dp:=QX ao
 let ord (i j:Nat):Bool:=if UO i j then RD (dp.getD j 0) i else RD (dp.getD i 0) j
 let ks:=l.map λ(o,i)=>match dD o with
  |.call=>if l.all λ(p,j)=>ZW i j||(dD p)==.pure||ord i j then Kind.effect else Kind.call
  |k=>k
 let rds:=ao.toList.map (zL ao)
 let ok:=l.all λ(o,j)=>
  (o.after.toList.all λe=> !Tn .any e||UO e.on j)&&
  (!(ks.getD j .effect==.load)|| !writes o (rds.getD j []))&&
  (l.all λ(p,i)=> !UO i j||GX dp ks rds p i o j)
 ⟨dp,ks,ok⟩
def VD:IV->IV->Bool
 |.raw (.int j a),.raw (.int k b)=>j==k&&a==b
 |.raw (.bool a),.raw (.bool b)=>a==b
 |.raw (.string a),.raw (.string b)=>a.data.toList==b.data.toList
 |.ptr a b c d,.ptr a' b' c' d'=>ZW a a'&&ZW b b'&&ZW c c'&&ZW d d'
 |.map a,.map b=>ZW a b
 |.sl a b c d e f,.sl a' b' c' d' e' f'=>ZW a a'&&ZW b b'&&ZW c c'&&(d==d')&&ZW e e'&&ZW f f'
 |.emp,.emp=>ab
 |_,_=>af
structure Piece where
 j:Nat
 lo:Nat
 hi:Nat
 t:T Ob
def e_(b:T Ob)(p:Piece):T Ob:=
 (Ln p.lo (p.hi- p.lo)).foldl (λb id=>match p.t.get id with|some o=>b.set id o|none=>b) b
structure DS where
 e:aK
 n:Nat
 bs:aj (Nat×T Ob)
 bz:aj Piece
def seen(bz:aj Piece)(bits:Nat)(b:T Ob):T Ob:=(bz.filter λp=>RD bits p.j).foldl e_ b
def afg{u v:IV}(h:VD u v=ab):u=v:=by
 unfold VD at h;split at h
 .grind
 .grind
 .rename_i a b
  have:a=b:=by
   cases a with|mk x=>simp_all
  grind
 all_goals simp_all
class Sm where
 sm:IV->IV->Bool
 ok:∀u v,sm u v=ab->u=v
abbrev A6:Sm:=⟨VD,λ_ _ h=>afg h⟩
section draw
variable[Sm]
def loadAt(e:aK)(o:YX)(n:Nat)(v:IV)(bz:aj Piece)(bits:Nat)(b:T Ob):Bool:=
 match aN P n (aT e) o ⟨n,seen bz bits b⟩with
 |some (.val u G)=>ZW G.n n&&Sm.sm u v
 |_=>af
def qn(e:aK)(o:YX)(n:Nat)(v:IV)(bz:aj Piece)(bits:Nat):aj (Nat×T Ob)->Bool
 |[]=>ab
 |(i,b)::aE=>loadAt P e o n v bz bits b&&(RD bits i||qn e o n v bz bits aE)
def recheck(pl:fK)(ao:Array YX)(bits:Nat)(e:aK)(n:Nat)(bz:aj Piece)(b:T Ob)(l:aj (YX×Nat)):Bool:=
 l.all λ(o,i)=>match pl.kinds.getD i .effect with
  |.load=>RD bits i|| !bE o ao e||(match o.dst with|some d=>loadAt P e o n (e.at d) bz (pl.dp.getD i 0) b|none=>af)
  |_=>ab
def c8(pl:fK)(ro:Nat)(ao:Array YX)(o:YX)(j:Nat)(d:DS):aF DS:=
 let bits:=pl.dp.getD j 0
 let aac:=ao.toList.zipIdx.take j
 match d.bs with
 |[]=>ah
 |(i,b)::aE=>
  if bE o ao d.e then
   match pl.kinds.getD j .effect with
   |.pure=>match aN P 0 (aT d.e) o ⟨0,.lf⟩with
    |some (.val v G)=>if G.n=0 then aa {d with e:=d.e.put o.dst v}else ah
    |_=>ah
   |.alloc=>match aN P 0 (aT d.e) o ⟨d.n,.lf⟩with
    |some (.val v G)=>aa {d with e:=d.e.put o.dst v,n:=G.n,bz:=⟨j,d.n,G.n,G.t⟩::d.bz}
    |_=>ah
   |.load=>match aN P d.n (aT d.e) o ⟨d.n,seen d.bz bits b⟩with
    |some (.val v G)=>
     if G.n=d.n/\(RD bits i||qn P d.e o d.n v d.bz bits aE)=ab then aa {d with e:=d.e.put o.dst v}else ah
    |_=>ah
   |.call=>match nb P S d.n d.e o ⟨d.n,seen d.bz bits b⟩with
    |some (v,G)=>aa {d with e:=d.e.put o.dst v,n:=G.n,bz:=⟨j,d.n,G.n,G.t⟩::d.bz}
    |none=>ah
   |.effect=>
    match nb P S ro d.e o ⟨d.n,seen d.bz bits b⟩with
    |some (v,G)=>
     let e:=d.e.put o.dst v
     if recheck P pl ao bits d.e G.n (d.bz.filter λp=> !RD bits p.j) G.t aac then
      aa ⟨e,G.n,(j,G.t)::d.bs,d.bz.filter λp=> !RD bits p.j⟩
     else ah
    |none=>ah
  else match pl.kinds.getD j .effect with
   |.effect=>if recheck P pl ao bits d.e d.n d.bz b aac then aa ⟨d.e.put o.dst .undef,d.n,(j,b)::d.bs,d.bz⟩else ah
   |_=>aa {d with e:=d.e.put o.dst .undef}
def mq(SF:Nat->Self)(pl:fK)(ro:Nat)(ao:Array YX):aj (YX×Nat)->DS->aF DS
 |[],d=>aa d
 |(o,j)::aE,d=>match c8 P (SF j) pl ro ao o j d with
  |some d=>mq SF pl ro ao aE d
  |none=>ah
def nc(SF:Nat->Self)(ro:Nat)(ao:Array YX)(e:aK)(df:aj Df)(G:St):aF CR:=
 let pl:=cU ao
 if pl.ok then
  match mq P SF pl ro ao ao.toList.zipIdx ⟨e,G.n,[(0,G.t)],[]⟩with
  |some ⟨e,n,(_,b)::_,bz⟩=>aa ⟨.normal,e,df,⟨n,bz.foldl e_ b⟩⟩
  |_=>ah
 else ah
end draw
def VE(ro:Nat)(ao:Array YX)(e:aK)(df:aj Df)(G:St):aF CR:= @nc P A6 (λ_=>S) ro ao e df G
def DJ(ro:Nat)(rd:aF Nat)(fn:V4)(c:Code)(e:aK)(df:aj Df)(G:St):aF CR:=
 match c with
 |.skip|.label _=>aa ⟨.normal,e,df,G⟩
 |.region _ ao draw=>if draw then VE P S ro ao e df G else ET P S ro rd ao ao.toList e df G
 |.seq a b=>match S.code ro rd fn a e df G with
  |some ⟨.normal,e,df,G⟩=>S.code ro rd fn b e df G
  |r=>r
 |.cond c a b=>match aT e c with
  |.raw (.bool t)=>S.code ro rd fn (if t then a else b) e df G
  |_=>ah
 |.block id a=>match S.code ro rd fn a e df G with
  |some ⟨.exit bY,e,df,G⟩=>if bY=id then aa ⟨.normal,e,df,G⟩else aa ⟨.exit bY,e,df,G⟩
  |r=>r
 |.loop a=>match S.code ro rd fn a e df G with
  |some ⟨.normal,e,df,G⟩=>S.code ro rd fn (.loop a) e df G
  |r=>r
 |.scope a=>match S.code ro rd fn a e df G with
  |some ⟨.goto _,_,_,_⟩=>ah
  |r=>r
 |.exit id=>aa ⟨.exit id,e,df,G⟩
 |.goto l=>aa ⟨.goto l,e,df,G⟩
 |.ret=>aa ⟨.ret,e,df,G⟩
 |.rangeFunc g params assign body=>
  let en:aF (Nat×St×aj Df):=match rd with
   |none=>aa (G.n,G.add (.JH af),[.zK G.n])
   |some l=>match G.at l with
    |some (.loop _ _ _ _ _ _ _ _ iN)=>aa (iN,G,[])
    |_=>ah
  match en with
  |some (iN,G,mark)=>
   let l:=G.n
   let G:=G.add (.loop .ready ah fn e.t e.n params.toList assign body iN)
   match kA P (aT e g) [.vA l]with
   |some (.enter f av)=>match S.call ro f av G with
    |some (_,G)=>match G.at l with
     |some (.loop state pending f tm oE ps as bd d)=>
      if state=.busy\/¬ro<=l then ah else
      let G:=G.put l (.loop .exhausted pending f tm oE ps as bd d)
      match pending with
      |none=>aa ⟨.normal,e,mark++df,G⟩
      |some c=>S.code ro rd fn c e (mark++df) G
     |_=>ah
    |none=>ah
   |_=>ah
  |none=>ah
 |.refuse _=>ah
def jR(ro:Nat):aj Df->aF IV->St->aF (aF IV×St)
 |[],m,G=>aa (m,G)
 |.zK id::ds,m,G=>match G.at id with
  |some (.JH af)=>if ro<=id then jR ro ds m (G.put id (.JH ab))else ah
  |_=>ah
 |.call f av::ds,m,G=>match S.Ca ro f av m G with
  |some (m,G)=>jR ro ds m G
  |none=>ah
def fv(fn:Func)(e:aK)(G:St):aF IV:=
 let one (r:ResultVar):aF IV:=match r with
  |.tmp t=>aa (e.at t)
  |.cell a t=>match e.at a with
   |.ptr id ay ep ext=>match bD P t,G.at id with
    |some s,aa (.cells cs aV mn)=>if s<=ext/\mn<=ep/\ep<=aV then partOf P t cs ay else ah
    |_,_=>ah
   |_=>ah
 match fn.results.toList with
 |[r]=>one r
 |l=>match l.mapM one with
  |some vs=>aa (.aU vs)
  |none=>ah
def GY(ro:Nat)(f:V4)(av:aj IV)(G:St):aF (Func×aK×aF IV×St):=
 match P.funcs[f]? with
 |some fn=>match fn.body with
  |some c=>
   if av.length>fn.ntmps then ah else
   let e:aK:=(av.zipIdx).foldl (λe (v,i)=>e.put (aa i) v) ⟨fn.ntmps,.lf⟩
   match S.code ro ah f c e [] G with
   |some ⟨.normal,e,df,G⟩|some ⟨.ret,e,df,G⟩=>match jR S ro df ah G with
    |some (m,G)=>aa (fn,e,m,G)
    |none=>ah
   |some ⟨.dh v,e,df,G⟩=>match jR S ro df (aa v) G with
    |some (m,G)=>aa (fn,e,m,G)
    |none=>ah
   |_=>ah
  |none=>ah
 |none=>ah
def VF(ro:Nat)(f:V4)(av:aj IV)(G:St):aF (IV×St):=
 match GY P S ro f av G with
 |some (fn,e,ah,G)=>match fv P fn e G with
  |some v=>aa (v,G)
  |none=>ah
 |_=>ah
def acj(ro:Nat)(f:V4)(av:aj IV)(G:St):aF (IV×St):=
 match GY P S ro f av G with
 |some (_,_,aa v,G)=>aa (v,G)
 |_=>ah
def rI(o:YX):Bool:=
 match o.op with
 |.call {callee:=.builtin .recover,.. }=>ab
 |_=>af
def sC(ro:Nat)(ao:Array YX):aj YX->aK->aF IV->St->aF (aK×aF IV×St)
 |[],e,m,G=>aa (e,m,G)
 |o::aE,e,m,G=>
  if bE o ao e then
   if rI o then
    match m with
    |some v=>sC ro ao aE (e.put o.dst v) ah G
    |none=>sC ro ao aE (e.put o.dst (.raw .nilIface)) ah G
   else match aN P ro (aT e) o G with
    |some (.val v G)=>sC ro ao aE (e.put o.dst v) m G
    |_=>ah
  else sC ro ao aE (e.put o.dst .undef) m G
def GZ(ro:Nat)(fn:V4):Code->aK->aF IV->St->aF (CR×aF IV)
 |.seq a b,e,m,G=>match GZ ro fn a e m G with
  |some (⟨.normal,e,[],G⟩,m)=>GZ ro fn b e m G
  |some (⟨.normal,_,_,_⟩,_)=>ah
  |r=>r
 |.region id ao draw,e,m,G=>
  if !draw&&ao.any rI then match sC P ro ao ao.toList e m G with
   |some (e,m,G)=>aa (⟨.normal,e,[],G⟩,m)
   |none=>ah
  else match S.code ro ah fn (.region id ao draw) e [] G with
   |some r=>aa (r,m)
   |none=>ah
 |c,e,m,G=>match S.code ro ah fn c e [] G with
  |some r=>aa (r,m)
  |none=>ah
def HW(ro:Nat)(f:V4)(av:aj IV)(m:aF IV)(G:St):aF (aF IV×St):=
 match P.funcs[f]? with
 |some fn=>
  if !(fn.body.isSome&&fn.name != "runtime.NumGoroutine")then ah else
  match fn.body with
  |some c=>
   if av.length>fn.ntmps then ah else
   let e:aK:=(av.zipIdx).foldl (λe (v,i)=>e.put (aa i) v) ⟨fn.ntmps,.lf⟩
   match GZ P S ro f c e m G with
   |some (⟨.normal,e,[],G⟩,m)|some (⟨.ret,e,[],G⟩,m)=>match fv P fn e G with
    |some _=>aa (m,G)
    |none=>ah
   |_=>ah
  |none=>ah
 |none=>ah
end steps
def Self.none:Self:=⟨λ_ _ _ _ _ _ _=>Yl,λ_ _ _ _=>Yl,λ_ _ _ _=>Yl,λ_ _ _ _ _=>Yl⟩
def pN(P:V5)(S:Self):Self:=⟨DJ P S,VF P S,acj P S,HW P S⟩
def ev(P:V5)(n:Nat):Self:=Nat.rec Self.none (λ_ S=>pN P S) n
namespace T
variable{B:Type}
theorem G0(l:T B)(v:aF B)(r:T B)(i:Nat):(T.nd l v r).get i=if i=0 then v else if i % 2=1 then l.get (i/2)else r.get (i/2- 1):=by
 simp[get]
def aad(f:Nat)(l:T B)(v:aF B)(r:T B)(i:Nat)(x:B):w_ (f+1) (T.nd l v r) i x=
 if i=0 then .nd l (aa x) r else if i % 2=1 then .nd (w_ f l (i/2) x) v r else .nd l v (w_ f r (i/2- 1) x):=by
 simp[w_]
def aae(f:Nat)(i:Nat)(x:B):w_ (f+1) (.lf:T B) i x=w_ (f+1) (.nd .lf ah .lf) i x:=by
 rfl
def anv(i:Nat):(T.lf:T B).get i=(T.nd .lf ah .lf:T B).get i:=by
 grind [get]
def NH:∀(f:Nat) (t:T B) (i:Nat) (x:B) (j:Nat),i<f->(w_ f t i x).get j=if i=j then aa x else t.get j:=by
 intro f;induction f with
 |zero=>simp
 |succ f ih=>
  intro t i x j h
  have key:∀(l:T B) (v:aF B) (r:T B),(w_ (f+1) (.nd l v r) i x).get j=if i=j then aa x else(T.nd l v r).get j:=by
   intro l v r;rw[aad,G0];by_cases hi:i=0
   .subst hi;rw[aW rfl,G0]
    grind
   .rw[aY hi];by_cases ho:i % 2=1
    .rw[aW ho,G0]
     grind
    .rw[aY ho,G0]
     grind
  cases t with
  |lf=>rw[aae,key,anv]
  |nd l v r=>grind
theorem jS(t:T B)(i:Nat)(x:B)(j:Nat):(t.set i x).get j=if i=j then aa x else t.get j:=NH _ _ _ _ _ ak
@[simp] theorem aEI(j:Nat):(T.lf:T B).get j=ah:=rfl
end T
variable{P:V5}
def ji{B:Type}(w:Z0):∀(s:Sem B) {a:B},a_ P s=aa a->s.run P w=.ok a w
 |.pure _,_,h=>by simp_all[a_]
 |.program k,_,h=>by exact ji w (k P) h
 |.mark m k,_,h=>by exact ji w k h
 |.load ..,_,h|.store ..,_,h|.new ..,_,h|.shape ..,_,h|.freeze ..,_,h|.frozen ..,_,h|.getObj ..,_,h|.setObj ..,_,h|.choose ..,_,h|.sys ..,_,h|.halt ..,_,h=>by cases h
structure Loc where
 b:Nat
 n:Nat
 lim:Nat
abbrev Fz:=Nat->aF (Array ZQ)
structure Io where
 f:Nat->Nat->aF Loc
 m:Fz
instance:CoeFun Io (λ_=>Nat->Nat->aF Loc):=⟨Io.f⟩
structure Ext(Z br:Io):Prop where
 f:∀id e l,Z id e=aa l->br id e=aa l
 m:∀b c,Z.m b=aa c->br.m b=aa c
instance{Z br:Io}:CoeFun (Ext Z br) (λ_=>∀id e l,Z id e=aa l->br id e=aa l):=⟨Ext.f⟩
def Ext.refl(Z:Io):Ext Z Z:=⟨λ_ _ _ h=>h,λ_ _ h=>h⟩
variable{Z cO vB:Io}
def Ext.trans(h:Ext Z cO)(k:Ext cO vB):Ext Z vB:=⟨λ_ _ _ x=>k.f _ _ _ (h.f _ _ _ x),λ_ _ x=>k.m _ _ (h.m _ _ x)⟩
def ti(M:Fz)(b ay:Nat):aF ZQ:=(M b).bind (·[ay]?)
variable{ay:Nat}{v:ZQ}{br:Io}{x:IV}
def HX{M M':Fz}(h:∀b c,M b=aa c->M' b=aa c)(hc:ti M b ay=aa v):ti M' b ay=aa v:=by
 unfold ti at hc⊢;cases hb:M b with
 |none=>grind
 |some c=>grind
inductive Rv(Z:Io):IV->ZQ->Prop
 |raw (v:ZQ):Rv Z (.raw v) v
 |agg (cs:List IV) (vs:List ZQ) (hl:cs.length=vs.length) (h:∀(i:Nat) (c:IV) (v:ZQ),cs[i]?=aa c->vs[i]?=aa v->Rv Z c v):Rv Z (.agg cs) (.agg vs.toArray)
 |aU (cs:List IV) (vs:List ZQ) (hl:cs.length=vs.length) (h:∀(i:Nat) (c:IV) (v:ZQ),cs[i]?=aa c->vs[i]?=aa v->Rv Z c v):Rv Z (.aU cs) (.tuple vs.toArray)
 |ptr (id ay ep ext:Nat) (l:Loc) (hl:Z id ep=aa l) (hx:ay+ext<=l.n/\ay+ext<=l.lim):Rv Z (.ptr id ay ep ext) (.pointer (aa ⟨l.b,ay,ah⟩))
 |sl (id ay len:Nat) (cap:Option Nat) (ep s:Nat) (l:Loc) (c:Nat) (a:Addr) (hl:Z id ep=aa l) (hn:ay+len*s<=l.n) (mR:ay+c*s<=l.lim) (hs:0<s) (hle:len<=c)
   (mS:∀k,cap=aa k->c=k/\ay+c*s<=l.n) (ha:0<c->a=⟨l.b,ay,ah⟩):Rv Z (.sl id ay len cap ep s) (.slice (aa a) len c)
 |emp (a:Addr):Rv Z .emp (.slice (aa a) 0 0)
 |map (id:Nat) (l:Loc) (hl:Z id 0=aa l):Rv Z (.map id) (.map (aa l.b))
 |fn (f:Fn) (as bs:List IV) (cs ds:List ZQ) (hl:as.length=cs.length) (h:∀(i:Nat) (c:IV) (v:ZQ),as[i]?=aa c->cs[i]?=aa v->Rv Z c v)
   (jL:bs.length=ds.length) (h2:∀(i:Nat) (c:IV) (v:ZQ),bs[i]?=aa c->ds[i]?=aa v->Rv Z c v):Rv Z (.fn f as bs) (.func f cs.toArray ds.toArray)
 |vA (id:Nat) (l:Loc) (hl:Z id 0=aa l):Rv Z (.vA id) (.func (.yield l.b) #[] #[])
 |eT (t:VK) (x:IV) (v:ZQ) (h:Rv Z x v):Rv Z (.eT t x) (.iface t v)
 |tree (s:Nat) (es:List IV) (b ay c:Nat) (us:Nat->ZQ) (hs:0<s) (hc:es.length<=c) (cD:∀e∈es,(aD e).length=s)
   (hu:∀k,k<es.length*s->ti Z.m b (ay+k)=aa (us k)) (h:∀(i:Nat) (e:IV) (j:Nat) (c:IV),es[i]?=aa e->(aD e)[j]?=aa c->Rv Z c (us (i*s+j))):
   Rv Z (.tree s es) (.slice (aa ⟨b,ay,ah⟩) es.length c)
 |fL (s:Nat) (a:Option Addr) (c:Nat) (hs:0<s) (hn:a=ah->c=0):Rv Z (.tree s []) (.slice a 0 c)
 |pF (cs:List IV) (b ay:Nat) (us:Nat->ZQ) (hu:∀k,k<cs.length->ti Z.m b (ay+k)=aa (us k)) (h:∀(j:Nat) (c:IV),cs[j]?=aa c->Rv Z c (us j)):
   Rv Z (.pF cs) (.pointer (aa ⟨b,ay,ah⟩))
def Rv.mono(kV:Ext Z br)(h:Rv Z x v):Rv br x v:=by
 induction h with
 |raw v=>exact .raw v
 |agg cs vs hl _ ih=>exact .agg cs vs hl ih
 |aU cs vs hl _ ih=>exact .aU cs vs hl ih
 |ptr id ay ep ext l hl hx=>exact .ptr id ay ep ext l (kV _ _ _ hl) hx
 |sl id ay len cap ep s l c a hl hn mR hs hle mS ha=>exact .sl id ay len cap ep s l c a (kV _ _ _ hl) hn mR hs hle mS ha
 |emp a=>exact .emp a
 |map id l hl=>exact .map id l (kV _ _ _ hl)
 |fn f as bs cs ds hl _ jL _ ih jy=>exact .fn f as bs cs ds hl ih jL jy
 |vA id l hl=>exact .vA id l (kV _ _ _ hl)
 |eT t x v _ ih=>exact .eT t x v ih
 |tree s es b ay c us hs hc cD hu _ ih=>exact .tree s es b ay c us hs hc cD (λk hk=>HX kV.m (hu k hk)) ih
 |fL s a c hs hn=>exact .fL s a c hs hn
 |pF cs b ay us hu _ ih=>exact .pF cs b ay us (λk hk=>HX kV.m (hu k hk)) ih
def bu(Z:Io)(cs:aj IV)(vs:aj ZQ):Prop:=cs.length=vs.length/\∀(i:Nat) (c:IV) (v:ZQ),cs[i]?=aa c->vs[i]?=aa v->Rv Z c v
variable{c:Array ZQ}{i:Nat}{u:ZQ}
section lists
variable{cs ds:aj IV}{vs us:aj ZQ}{c:IV}
theorem bu.mono(kV:Ext Z br)(h:bu Z cs vs):bu br cs vs:=
 ⟨h.1,λi c v h1 h2=>(h.2 i c v h1 h2).mono kV⟩
theorem bu.nil:bu Z [] []:=⟨rfl,λi c v h _=>aI⟩
theorem bu.cons(h:Rv Z c v)(hs:bu Z cs vs):bu Z (c::cs) (v::vs):=by
 refine⟨by simp[hs.1],λi=>?_⟩;cases i with
 |zero=>grind
 |succ i=>intro c' v' h1 h2;simp at h1 h2;exact hs.2 i c' v' h1 h2
theorem bu.A7(h:bu Z (c::cs) vs):∃v EU,vs=v::EU/\Rv Z c v/\bu Z cs EU:=by
 cases vs with
 |nil=>grind [bu]
 |cons v EU=>exact⟨v,EU,rfl,h.2 0 c v rfl rfl,by simp_all[bu],λi c' v' h1 h2=>h.2 (i+1) c' v' h1 h2⟩
theorem bu.of_nil(h:bu Z [] vs):vs=[]:=Kp h.1.symm
theorem bu.append(h:bu Z cs vs)(k:bu Z ds us):bu Z (cs++ds) (vs++us):=by
 refine⟨by simp[h.1,k.1],λi c v h1 h2=>?_⟩;by_cases hi:i<cs.length
 .rw[VJ hi]at h1;rw[VJ (h.1▸hi)]at h2;exact h.2 i c v h1 h2
 .rw[Ub ak]at h1;rw[Ub (by have:=h.1;omega),<-h.1]at h2;exact k.2 _ c v h1 h2
theorem bu.drop(n:Nat)(h:bu Z cs vs):bu Z (cs.drop n) (vs.drop n):=
 ⟨by simp[h.1],λi c v h1 h2=>h.2 (n+i) c v aI aI⟩
theorem bu.take(n:Nat)(h:bu Z cs vs):bu Z (cs.take n) (vs.take n):=by
 refine⟨by simp[h.1],λi c v h1 h2=>?_⟩;rw[T_]at h1 h2;split at h1
 .rename_i hi;rw[aW hi]at h2;exact h.2 i c v h1 h2
 grind
theorem bu.gd(ay:Nat)(h:bu Z cs vs)(k:bu Z ds us):bu Z (gd cs ay ds) (vs.take ay++us++vs.drop (ay+us.length)):=by
 unfold Ev.gd;rw[k.1];exact((h.take ay).append k).append (h.drop _)
theorem bu.get(h:bu Z cs vs)(hc:cs[i]?=aa c):∃v,vs[i]?=aa v/\Rv Z c v:=by
 have hi:i<vs.length:=by have:=(Z5.1 hc).1;have:=h.1;omega
 exact⟨vs[i],UN hi,h.2 i c _ hc (UN hi)⟩
theorem bu.xW(vs:aj ZQ):bu Z (vs.map .raw) vs:=by
 refine⟨az,λi c v h1 h2=>?_⟩;simp only[Z7,h2,ZO,ZY]at h1;subst h1;exact .raw v
theorem bu.of_map{B:Type}{f:B->IV}{g:B->ZQ}{l:aj B}(h:∀a∈l,Rv Z (f a) (g a)):bu Z (l.map f) (l.map g):=by
 refine⟨az,λi c v h1 h2=>?_⟩
 grind
end lists
section shapes
theorem Rv.lift(v:ZQ):Rv Z (Ev.lift v) v:=by
 unfold Ev.lift;split
 .rename_i cs;have:=Rv.agg (Z:=Z) (cs.toList.map .raw) cs.toList az (bu.xW cs.toList).2;omega
 .exact .raw _
theorem Gr:∀{cs:aj IV} {us:aj ZQ},nJ cs=aa us->∀{vs:aj ZQ},bu Z cs vs->vs=us
 |[],us,h,vs,hr=>by simp only[nJ,ZY]at h;subst h;exact hr.of_nil
 |c::cs,us,h,vs,hr=>by
  obtain⟨v,EU,rfl,h1,h2⟩:=hr.A7;simp only[nJ]at h;split at h
  .split at h
   .rename_i u xF hu;simp only[ZY]at h;subst h;cases h1;rw[Gr hu h2]
   grind
  grind
theorem aek(h:xV x=aa u)(hr:Rv Z x v):v=u:=by
 unfold xV at h;split at h
 .cases hr;grind
 .split at h
  .rename_i us hu;cases hr with
   |agg cs vs hl hh=>
    simp only[ZY]at h;subst h;rw[Gr hu ⟨hl,hh⟩]
  grind
 grind
theorem HY(h:pd x=aa u)(hr:Rv Z x v):v=u:=by
 unfold pd at h;split at h<;>try exact aek h hr
 split at h
 .rename_i hu;cases hr with
  |eT t x v hh=>
   simp only[ZY]at h;subst h;rw[aek hu hh]
 grind
theorem Rv.cells(h:Rv Z x v)(hx:∀u,x=.raw u->∀c,u≠.agg c):bu Z (aD x) v.cells.toList:=by
 cases h with
 |agg cs vs hl hh=>exact⟨hl,hh⟩
 |raw v=>
  have:v.cells= #[v]:=by
   cases v<;>first|rfl|grind
  simp only[this];exact bu.cons (.raw v) bu.nil
 |aU cs vs hl hh=>exact bu.cons (.aU cs vs hl hh) bu.nil
 |ptr id ay ep ext l hl oF=>exact bu.cons (.ptr id ay ep ext l hl oF) bu.nil
 |sl id ay len cap ep s l c a hl hn mR hs hle mS ha=>exact bu.cons (.sl id ay len cap ep s l c a hl hn mR hs hle mS ha) bu.nil
 |emp a=>exact bu.cons (.emp a) bu.nil
 |map id l hl=>exact bu.cons (.map id l hl) bu.nil
 |fn f as bs cs ds hl h1 jL h2=>exact bu.cons (.fn f as bs cs ds hl h1 jL h2) bu.nil
 |vA id l hl=>exact bu.cons (.vA id l hl) bu.nil
 |eT t x v h=>exact bu.cons (.eT t x v h) bu.nil
 |tree s es b ay c us hs hc cD hu h=>exact bu.cons (.tree s es b ay c us hs hc cD hu h) bu.nil
 |fL s a c hs hn=>exact bu.cons (.fL s a c hs hn) bu.nil
 |pF cs b ay us hu h=>exact bu.cons (.pF cs b ay us hu h) bu.nil
theorem Rv.HZ(h:Rv Z x v)(hx:(aD x).all aw=ab):bu Z (aD x) v.cells.toList:=by
 refine h.cells λu hu c hc=>?_
 simp_all[aD,aw]
theorem afh(h:Rv Z x v)(hx:aw x=ab):(∀c,v≠.agg c)/\(∀c,v≠.tuple c):=by
 cases h<;>first|(simp[aw]at hx;done)|(constructor<;>(intro c hc;first|(cases hc;done)|(subst hc;simp[aw]at hx;done)))
end shapes
def Own(Z:Io)(id b:Nat):Prop:=∃e l,Z id e=aa l/\l.b=b
def kZ(Z:Io)(es:aj (ZQ×IV×Nat))(res:Array MapEntry):Prop:=
 es.length=res.size/\∀(i:Nat) (e:ZQ×IV×Nat) (r:MapEntry),es[i]?=aa e->res[i]?=aa r->r.key=e.1/\Rv Z e.2.1 r.val/\r.born=e.2.2
def oQ(Z:Io)(w:Z0)(id:Nat):Ob->Prop
 |.cells cs ep mn=>(mn<=ep/\∀e,ep<e->Z id e=ah)/\(∃l,Z id ep=aa l/\l.n=cs.length)/\∀e,mn<=e->e<=ep->∃l c el,Z id e=aa l/\l.n<=cs.length/\w.heap[l.b]?=aa (.cells c el (0,0))/\
   l.lim=c.size/\∀k x,k<l.n->cs[k]?=aa x->∃u,c[k]?=aa u/\Rv Z x u
 |.map es clock=>∃l res,Z id 0=aa l/\w.heap[l.b]?=aa (.map res clock)/\kZ Z es res
 |.uW s pos=>∃l,Z id 0=aa l/\w.heap[l.b]?=aa (.stringIter s pos)
 |.na m since seen Dt=>∃l mr,Z id 0=aa l/\w.heap[l.b]?=aa (.mapIter mr since seen.toArray Dt)/\
   (match m with|none=>mr=ah|some m=>∃lm,Z m 0=aa lm/\mr=aa lm.b)
 |.loop st Gs _ tm oE ps jz bd iN=>∃l ld ts f,Z id 0=aa l/\Z iN 0=aa ld/\
   w.heap[l.b]?=aa (.loop {state:=st,pending:=Gs,fn:=f,tmps:=ts,params:=ps.toArray,assign:=jz,body:=bd,defers:=ld.b})/\
   ts.size=oE/\∀t,Rv Z ((tm.get t).getD .undef) (ts.getD t ZL)
 |.JH taken=>∃l,Z id 0=aa l/\w.heap[l.b]?=aa (.deferred (if taken then ah else aa []))
structure Inv(N:Nat)(Z:Io)(G:St)(w:Z0):Prop where
 mem:∀b c,Z.m b=aa c->∃e f,w.heap[b]?=aa (.cells c e f)
 sep:∀b c id,Z.m b=aa c->¬Own Z id b
 iO:∀id b,Own Z id b->b<w.heap.size
 fresh:∀id,G.n<=id->id<N->∀e,Z id e=ah
 inj:∀i j b,Own Z i b->Own Z j b->i=j
 obj:∀id o,G.at id=aa o->oQ Z w id o
 wf:∀id,G.n<=id->G.at id=ah
structure Le(ro:Nat)(Z:Io)(w:Z0)(G:St)(br:Io)(w':Z0)(aB:St):Prop where
 ext:Ext Z br
 own:∀id b,Own br id b->Own Z id b\/w.heap.size<=b
 EV:∀id,G.at id=ah->(id<G.n\/aB.n<=id)->∀e,br id e=Z id e
 dead:∀id,G.at id=ah->(id<G.n\/aB.n<=id)->aB.at id=ah
 BN:∀id,id<ro->id<G.n->aB.at id=G.at id
 BO:G.n<=aB.n
 os:w'.os=w.os
 tape:w'.tape=w.tape
 output:w'.output=w.output
 size:w.heap.size<=w'.heap.size
 frame:∀b,b<w.heap.size->(∀id,Own Z id b->id<ro\/G.at id=ah)->w'.heap[b]?=w.heap[b]?
 zM:∀b c,br.m b=aa c->Z.m b=aa c\/w.heap.size<=b
def Le.refl(ro:Nat)(Z:Io)(w:Z0)(G:St):Le ro Z w G Z w G:=
 ⟨Ext.refl _,λ_ _ h=>.inl h,λ_ _ _ _=>rfl,λ_ h _=>h,λ_ _ _=>rfl,XS _,rfl,rfl,rfl,XS _,λ_ _ _=>rfl,λ_ _ h=>.inl h⟩
variable{G aG dJ:St}{ro:Nat}{w w1 w2:Z0}
def Le.trans(hf:∀id,G.n<=id->id<aG.n->∀e,Z id e=ah)
 (h:Le ro Z w G cO w1 aG)(k:Le ro cO w1 aG vB w2 dJ):Le ro Z w G vB w2 dJ where
 ext:=h.ext.trans k.ext
 own:=λid b hb=>(k.own id b hb).elim (λhb=>h.own id b hb) λhb=>.inr (YE h.size hb)
 EV:=λid hn hr e=>(k.EV id (h.dead id hn (by have:=k.BO;omega)) (by have:=h.BO;omega) e).trans (h.EV id hn (by have:=k.BO;omega) e)
 dead:=λid hn hr=>k.dead id (h.dead id hn (by have:=k.BO;omega)) (by have:=h.BO;omega)
 BN:=λid hr hn=>(k.BN id hr (by have:=h.BO;omega)).trans (h.BN id hr hn)
 BO:=YE h.BO k.BO
 os:=k.os.trans h.os
 tape:=k.tape.trans h.tape
 output:=k.output.trans h.output
 size:=YE h.size k.size
 frame:=λb hb hc=>by
  rw[k.frame b (Zu hb h.size) ?_,h.frame b hb hc];intro id hid;rcases h.own id b hid with ho|ho
  .rcases hc id ho with aq|hd
   .omega
   .right;refine h.dead id hd ?_;by_cases hn:id<G.n
    .omega
    .by_cases fY:id<aG.n
     .have⟨e,l,hl,_⟩:=ho
      grind
     omega
  .omega
 zM:=λb c hb=>(k.zM b c hb).elim (λhb=>h.zM b c hb) λhb=>.inr (YE h.size hb)
variable{es:aj (ZQ×IV×Nat)}{res:Array MapEntry}{id N:Nat}{w':Z0}{aB:St}
def kZ.mono(kV:Ext Z br)(h:kZ Z es res):kZ br es res:=
 ⟨h.1,λi e r h1 h2=>let⟨a,b,c⟩:=h.2 i e r h1 h2;⟨a,b.mono kV,c⟩⟩
def oQ.keep(kV:Ext Z br)(hid:∀e,br id e=Z id e)(hb:∀b,Own Z id b->w'.heap[b]?=w.heap[b]?):
 ∀{o:Ob},oQ Z w id o->oQ br w' id o
 |.cells cs ep mn,h=>by
  have⟨h1,⟨l,hl,hn⟩,h3⟩:=h;refine⟨⟨h1.1,λe he=>(hid e).trans (h1.2 e he)⟩,⟨l,kV _ _ _ hl,hn⟩,λe he q7=>?_⟩;have⟨l,c,el,hl,hn,hc,mR,hk⟩:=h3 e he q7;refine⟨l,c,el,kV _ _ _ hl,hn,by rw[hb _ ⟨e,l,hl,rfl⟩];omega,mR,λk x sD hx=>?_⟩;have⟨u,hu,hr⟩:=hk k x sD hx;exact⟨u,hu,hr.mono kV⟩
 |.map es clock,h=>by
  have⟨l,res,hl,hh,he⟩:=h;exact⟨l,res,kV _ _ _ hl,by rw[hb _ ⟨0,l,hl,rfl⟩];omega,he.mono kV⟩
 |.uW s pos,h=>by
  have⟨l,hl,hh⟩:=h;exact⟨l,kV _ _ _ hl,by rw[hb _ ⟨0,l,hl,rfl⟩];omega⟩
 |.na m since seen Dt,h=>by
  have⟨l,mr,hl,hh,hm⟩:=h;refine⟨l,mr,kV _ _ _ hl,by rw[hb _ ⟨0,l,hl,rfl⟩];omega,?_⟩;cases m with
  |none=>omega
  |some m=>have⟨lm,h1,h2⟩:=hm;exact⟨lm,kV _ _ _ h1,h2⟩
 |.loop st Gs f tm oE ps jz bd iN,h=>by
  have⟨l,ld,ts,f,hl,hd,hh,hs,ht⟩:=h;exact⟨l,ld,ts,f,kV _ _ _ hl,kV _ _ _ hd,by rw[hb _ ⟨0,l,hl,rfl⟩];omega,hs,λt=>(ht t).mono kV⟩
 |.JH taken,h=>by
  have⟨l,hl,hh⟩:=h;exact⟨l,kV _ _ _ hl,by rw[hb _ ⟨0,l,hl,rfl⟩];omega⟩
@[simp] theorem St.eF(G:St)(id:Nat)(o:Ob)(j:Nat):(G.put id o).at j=if id=j then aa o else G.at j:=by simp[St.at,St.put,T.jS]
@[simp] theorem St.kB(G:St)(o:Ob)(j:Nat):(G.add o).at j=if G.n=j then aa o else G.at j:=by simp[St.at,St.add,T.jS]
@[simp] theorem St.xX(G:St)(id:Nat)(o:Ob):(G.put id o).n=G.n:=rfl
@[simp] theorem St.uY(G:St)(o:Ob):(G.add o).n=G.n+1:=rfl
variable{gO:Ob}{ep:Nat}
def Inv.change{vY:Nat}(h:Inv N Z G w)
 (kV:Ext Z br)(xc:∀i,i≠vY->∀e,br i e=Z i e)(mu:∀id b,Own br id b->Own Z id b\/(id=vY/\w.heap.size<=b))
 (aAP:∀b,Own br vY b->b<w'.heap.size)(cd:w.heap.size<=w'.heap.size)
 (VG:∀b,b<w.heap.size->¬Own Z vY b->w'.heap[b]?=w.heap[b]?)(gp:oQ br w' vY gO)
 (bx:∀j,aB.at j=if vY=j then aa gO else G.at j)(hn:G.n<=aB.n/\vY<aB.n)(sE:∀id,aB.n<=id->id<N->∀e,br id e=ah)(hm:br.m=Z.m:=by rfl):Inv N br aB w' where
 mem:=λb c hb=>by
  rw[hm]at hb;have⟨e,f,hh⟩:=h.mem b c hb
  have aq:b<w.heap.size:=by
   grind
  exact⟨e,f,by rw[VG b aq (h.sep b c vY hb)];omega⟩
 sep:=λb c id hb ho=>by
  rw[hm]at hb;rcases mu id b ho with ho|⟨_,ho⟩
  .exact h.sep b c id hb ho
  .have⟨e,f,hh⟩:=h.mem b c hb
   grind
 iO:=λid b ho=>by
  rcases mu id b ho with ho'|⟨rfl,_⟩
  .exact Zu (h.iO id b ho') cd
  grind
 fresh:=sE
 inj:=λi j b hi hj=>by
  rcases mu i b hi with cX|⟨rfl,cX⟩<;>rcases mu j b hj with tj|⟨rfl,tj⟩
  .exact h.inj i j b cX tj
  .exact bH (h.iO i b cX) ak
  .exact bH (h.iO j b tj) ak
  .rfl
 obj:=λid o ho=>by
  rw[bx]at ho;split at ho
  .grind
  .rename_i cg;refine(h.obj id o ho).keep kV (xc id (Ne.symm cg)) λb hb=>?_;refine VG b (h.iO id b hb) λhb0=>cg (h.inj vY id b hb0 hb)
 wf:=λid hid=>by
  rw[bx,aY ak];exact h.wf id ak
def Inv.same(h:Inv N Z G w)(hh:w'.heap=w.heap):Inv N Z G w' where
 mem:=λb c hb=>by rw[hh];exact h.mem b c hb
 sep:=h.sep
 iO:=λid b ho=>by rw[hh];exact h.iO id b ho
 fresh:=h.fresh
 inj:=h.inj
 obj:=λid o ho=>(h.obj id o ho).keep (Ext.refl _) (λ_=>rfl) λb _=>by rw[hh]
 wf:=h.wf
def Le.same(hh:w'.heap=w.heap)(ho:w'.os=w.os)(ht:w'.tape=w.tape)(hp:w'.output=w.output):Le ro Z w G Z w' G:=
 ⟨Ext.refl _,λ_ _ h=>.inl h,λ_ _ _ _=>rfl,λ_ h _=>h,λ_ _ _=>rfl,XS _,ho,ht,hp,aI,λ_ _ _=>by rw[hh],λ_ _ h=>.inl h⟩
def fc(Z:Io)(id ep:Nat)(l:Loc):Io:=⟨λi e=>if i=id/\e=ep then aa l else Z i e,Z.m⟩
def dv(Z:Io)(id ep:Nat)(l:Loc):fc Z id ep l id ep=aa l:=by simp[fc]
variable{l:Loc}
def qo(h:Z id ep=ah):Ext Z (fc Z id ep l):=by
 refine⟨?_,λ_ _ h=>h⟩;intro i e l' hl;show(if i=id/\e=ep then aa l else Z i e)=aa l'
 grind
def xf(h:Own (fc Z id ep l) i b):Own Z i b\/(i=id/\b=l.b):=by
 have⟨e,l',hl,hb⟩:=h;change(if i=id/\e=ep then aa l else Z i e)=aa l' at hl;split at hl
 .grind
 .exact .inl ⟨e,l',hl,hb⟩
variable{o:Uc}{ob:Ob}{s:Nat}
theorem Inv.add(h:Inv N Z G w)(hN:G.n<N)(hw:w'.heap=w.heap.push o)
 (t_:w'.os=w.os)(Ka:w'.tape=w.tape)(Kb:w'.output=w.output)(hl:l.b=w.heap.size)(gp:oQ (fc Z G.n 0 l) w' G.n ob):
 Inv N (fc Z G.n 0 l) (G.add ob) w'/\Le ro Z w G (fc Z G.n 0 l) w' (G.add ob):=by
 have n9:=h.fresh G.n (XS _) hN;have cd:w'.heap.size=w.heap.size+1:=aI;have hold:∀b,b<w.heap.size->w'.heap[b]?=w.heap[b]? :=λb hb=>by grind
 refine⟨h.change (vY:=G.n) (qo (n9 0)) (λi hi e=>by simp[fc,hi]) ?_ ?_ ak (λb hb _=>hold b hb) gp (λj=>az) ⟨az,az⟩ ?_,?_⟩
 .intro id b hb;rcases xf hb with hb|⟨h1,h2⟩
  all_goals grind
 .intro b hb;rcases xf hb with hb|⟨h1,h2⟩
  .have:=h.iO _ _ hb;omega
  .omega
 .intro id hid aq e;simp only[St.uY]at hid;have:id≠G.n:=ak;simp[fc,this,h.fresh id ak aq e]
 .refine⟨qo (n9 0),?_,?_,?_,?_,az,t_,Ka,Kb,ak,λb hb _=>hold b hb,λ_ _ h=>.inl h⟩
  .intro id b hb;rcases xf hb with hb|⟨h1,h2⟩
   all_goals grind
  .intro id hn hr e;simp only[St.uY]at hr;have:id≠G.n:=ak;simp[fc,this]
  .intro id hn hr;simp only[St.uY]at hr;have:G.n≠id:=ak
   simp_all
  .intro id hr hn;have:G.n≠id:=ak
   simp_all
def Inv.push(h:Inv N Z G w)(hw:w'.heap=w.heap.push o)
 (t_:w'.os=w.os)(Ka:w'.tape=w.tape)(Kb:w'.output=w.output):Inv N Z G w'/\Le ro Z w G Z w' G:=by
 have cd:w'.heap.size=w.heap.size+1:=aI;have hold:∀b,b<w.heap.size->w'.heap[b]?=w.heap[b]? :=λb hb=>by grind
 refine⟨⟨λb c hb=>?_,h.sep,λid b ho=>by have:=h.iO id b ho;omega,h.fresh,h.inj,λid o ho=>(h.obj id o ho).keep (Ext.refl _) (λ_=>rfl) λb hb=>hold b (h.iO _ _ hb),h.wf⟩,?_⟩
 .have⟨e,f,hh⟩:=h.mem b c hb
  grind
 .exact⟨Ext.refl _,λ_ _ h=>.inl h,λ_ _ _ _=>rfl,λ_ h _=>h,λ_ _ _=>rfl,XS _,t_,Ka,Kb,ak,λb hb _=>hold b hb,λ_ _ h=>.inl h⟩
theorem Inv.put(h:Inv N Z G w)(bx:G.at id=aa ob)(fP:ro<=id)(hid:∃e l,Z id e=aa l)
 (kV:Ext Z br)(Zf:∀i,i≠id->∀e,br i e=Z i e)(mu:∀b,Own br id b->Own Z id b\/(w.heap.size<=b/\b<w'.heap.size))
 (cd:w.heap.size<=w'.heap.size)(VG:∀b,b<w.heap.size->¬Own Z id b->w'.heap[b]?=w.heap[b]?)
 (t_:w'.os=w.os)(Ka:w'.tape=w.tape)(Kb:w'.output=w.output)(gp:oQ br w' id gO)(hm:br.m=Z.m:=by rfl):
 Inv N br (G.put id gO) w'/\Le ro Z w G br w' (G.put id gO):=by
 have⟨e0,l0,px⟩:=hid;have cg:∀i,(∀e,Z i e=ah)->i≠id:=λi hn hi=>by rw[hi]at hn;rw[hn e0]at px;cases px
 have hd:=λi hn e=>(Zf i (cg i hn) e).trans (hn e)
 have O1:∀i b,Own br i b->Own Z i b\/(i=id/\w.heap.size<=b/\b<w'.heap.size):=by
  intro i b hb;by_cases hi:i=id
  .subst hi;rcases mu b hb with hb|hb
   .exact .inl hb
   .exact .inr ⟨rfl,hb⟩
  .have⟨e,l,hl,hlb⟩:=hb;rw[Zf i hi e]at hl;exact .inl ⟨e,l,hl,hlb⟩
 refine⟨h.change (vY:=id) kV Zf (λi b hb=>(O1 i b hb).imp (λx=>x) λx=>⟨x.1,x.2.1⟩) ?_ cd VG gp (λj=>az) ⟨az,by rw[St.xX];exact Tp λhle=>by rw[h.wf id hle]at bx;cases bx⟩ ?_ hm,?_⟩
 .intro b hb;rcases mu b hb with hb|hb
  .exact Zu (h.iO _ _ hb) cd
  .exact hb.2
 .intro i hi aq e;exact hd i (h.fresh i hi aq) e
 .refine⟨kV,λi b hb=>(O1 i b hb).imp (λx=>x) λx=>x.2.1,?_,?_,?_,az,t_,Ka,Kb,cd,?_,λb c hb=>.inl (by rw[<-hm];exact hb)⟩
  .intro i hn _ e;exact Zf i (λhi=>by subst hi;rw[bx]at hn;cases hn) e
  .intro i hn _;have:id≠i:=λhi=>by subst hi;rw[bx]at hn;cases hn
   simp[this,hn]
  .intro i hr _;have:id≠i:=ak;simp[this]
  .intro b hb hc;refine VG b hb λho=>?_;rcases hc id ho with h1|h1
   .omega
   .rw[bx]at h1;cases h1
variable{t el:VK}{n:Nat}
def ij(h:bD P t=aa s)(w:Z0):(sizeOf t).run P w=.ok s w:=by
 unfold bD at h;cases hi:P.info? t with
 |none=>grind
 |some i=>simp_all[sizeOf,typeInfo]
def oR{z:ZQ}(h:dW P t=aa z)(w:Z0):(zeroValue t).run P w=.ok z w:=by
 unfold dW at h;cases hi:P.info? t with
 |none=>grind
 |some i=>simp_all[zeroValue,typeInfo]
def cA{d:TypeDesc}(h:P.underlying t=aa d)(w:Z0):(underlying t).run P w=.ok d w:=by simp[underlying,h]
def H0{b:Bool}(h:vL P t=aa b)(w:Z0):(isAgg t).run P w=.ok b w:=by
 unfold vL at h;cases hu:P.underlying t with
 |none=>grind
 |some d=>
  simp[hu]at h;simp only[isAgg,Z1,cA hu];cases d<;>simp at h<;>subst h<;>rfl
def Kc(h:(P.info? t).map (·.bytes)=aa n)(w:Z0):∃i,P.info? t=aa i/\i.bytes=n/\(typeInfo t).run P w=.ok i w:=by
 cases hi:P.info? t with
 |none=>simp[hi]at h
 |some i=>simp[hi]at h;exact⟨i,rfl,h,by simp[typeInfo,hi]⟩
theorem k_(b ay n:Nat):(⟨b,ay,ah⟩:Addr).add n=⟨b,ay+n,ah⟩:=by
 simp_all[Addr.add]
variable{f:Nat×Nat}{cs:aj IV}{v:IV}{vs:aj ZQ}{k aV mn:Nat}
def cell_of(h:w.heap[b]?=aa (.cells c el f)):w.cell? ⟨b,ay,ah⟩=c[ay]? :=by
 simp[Ws,h]
def aGX(h:partOf P t cs ay=aa v)(hr:bu Z cs vs)(w:Z0):
 ∃u,(part t vs.toArray ay).run P w=.ok u w/\Rv Z v u:=by
 unfold partOf at h;split at h
 .rename_i s ha hs;split at h
  .cases h;refine⟨.agg (vs.toArray.extract ay (ay+s)),by simp[part,H0 ha,ij hs],?_⟩
   have e:vs.toArray.extract ay (ay+s)=((vs.drop ay).take s).toArray:=by
    simp
   rw[e];have:=(hr.drop ay).take s;exact .agg _ _ this.1 this.2
  grind
 .rename_i s ha hs;split at h
  .have⟨u,hu,nU⟩:=hr.get h;exact⟨u,by simp[part,H0 ha,hu],nU⟩
  grind
 grind
def EW(w:Z0)(b ay:Nat)(vs:aj ZQ):Prop:=∀j v,vs[j]?=aa v->w.cell? ⟨b,ay+j,ah⟩=aa v
def aJD(h:partOf P t cs k=aa v)(hr:bu Z cs vs)(pG:EW w b ay vs):
 ∃u,(loadVar t ⟨b,ay+k,ah⟩).run P w=.ok u w/\Rv Z v u:=by
 unfold partOf at h;split at h
 .rename_i s ha hs;split at h
  .cases h;have hl:((vs.drop k).take s).length=s:=by simp;have:=hr.1;omega
   have hc:(loadCells ⟨b,ay+k,ah⟩ s).run P w=.ok ((vs.drop k).take s).toArray w:=by
    have:=run_loadCells_list (P:=P) w ⟨b,ay+k,ah⟩ ((vs.drop k).take s) ?_
    .grind
    .intro j v hj;rw[k_]
     have tj:vs[k+j]?=aa v:=by
      grind
     have:=pG _ _ tj
     grind
   refine⟨.agg ((vs.drop k).take s).toArray,by simp[loadVar,H0 ha,ij hs,hc],?_⟩;have:=(hr.drop k).take s;exact .agg _ _ this.1 this.2
  grind
 .rename_i s ha hs;split at h
  .have⟨u,hu,nU⟩:=hr.get h;exact⟨u,by simp[loadVar,H0 ha,pG _ _ hu],nU⟩
  grind
 grind
theorem L7(h:oQ Z w id (.cells cs aV mn))(h1:mn<=ep)(h2:ep<=aV):
 ∃l c el,Z id ep=aa l/\l.n<=cs.length/\l.n<=c.size/\w.heap[l.b]?=aa (.cells c el (0,0))/\l.lim=c.size/\bu Z (cs.take l.n) (c.toList.take l.n):=by
 have⟨_,_,h3⟩:=h;have⟨l,c,el,hl,hn,hc,mR,hk⟩:=h3 ep h1 h2
 have cd:l.n<=c.size:=by
  rcases aKb l.n with h0|h0
  .omega
  .have⟨u,hu,_⟩:=hk (l.n- 1) cs[l.n- 1] ak (UN ak)
   grind
 refine⟨l,c,el,hl,hn,cd,hc,mR,aI,λi x v hx hv=>?_⟩
 grind
def aHG(h:w.heap[b]?=aa (.cells c el f))(n:Nat):EW w b 0 (c.toList.take n):=by
 intro j v hj;rw[cell_of h]
 grind
def acm(h:EW w b ay vs)(n:Nat):EW w b (ay+n) (vs.drop n):=by
 intro j v hj;have:=h (n+j) v aI
 grind
def aGZ(h:EW w b ay vs)(n:Nat):EW w b ay (vs.take n):=by
 intro j v hj;rw[T_]at hj;split at hj
 .exact h j v hj
 grind
theorem aGv(h:partOf P t cs ay=aa v)(hs:bD P t=aa s)(hn:ay+s<=n):partOf P t (cs.take n) ay=aa v:=by
 unfold partOf at h⊢;split at h
 .rename_i s' ha cB;rw[cB]at hs;cases hs;split at h
  .cases h;rw[aW eE]
   congr 2
   rw[aKB,List.take_take]
   congr 1;omega
  .cases h
 all_goals grind
def aHI{ext:Nat}(hi:Inv N Z G w)(hs:bD P t=aa s)(bx:G.at id=aa (.cells cs aV mn))
 (hx:s<=ext)(h1:mn<=ep)(h2:ep<=aV)(hp:partOf P t cs ay=aa v)(hr:Rv Z (.ptr id ay ep ext) u):
 ∃a x,u=.pointer (aa a)/\(loadVar t a).run P w=.ok x w/\Rv Z v x:=by
 have⟨l,c,el,hl,hn,cd,hc,_,pG⟩:=L7 (hi.obj id _ bx) h1 h2;cases hr with
 |ptr _ _ _ _ l' dq oF=>
  rw[hl]at dq;cases dq;have xY:=aGv hp hs (show ay+s<=l.n by omega);have⟨x,EX,xG⟩:=aJD (k:=ay) xY pG (aHG hc l.n)
  grind
def O4(ro:Nat)(N:Nat)(Z:Io)(w:Z0)(G:St)(res:Result Next)(v:IV)(aB:St):Prop:=
 ∃u w' br,(res=.ok (.value u) w'\/(res=.ok .skip w'/\u=ZL))/\Rv br v u/\Inv N br aB w'/\Le ro Z w G br w' aB
def H2(Z:Io):Df->Deferred->Prop
 |.zK id,d=>∃l,Z id 0=aa l/\d={target:=.collected l.b,args:= #[]}
 |.call f av,d=>∃cap us vs:aj ZQ,d={target:=.fn (.func f) cap.toArray,args:=us.toArray}/\bu Z av vs/\vs=us++cap
def ct(P:V5)(ro:Nat)(N:Nat)(Z:Io)(w:Z0)(G:St)(r:Xs->ZQ)(o:YX):jK->Prop
 |.val v aB=>aB.n<=N->O4 ro N Z w G ((UP r o).run P w) v aB
 |.enter f av=>∃us:aj ZQ,(UP r o).run P w=.ok (.enter f us.toArray) w/\bu Z av us
 |.round id av=>∃l,∃us:aj ZQ,Z id 0=aa l/\(UP r o).run P w=(Na l.b us.toArray).run P w/\bu Z av us
 |.dfr d=>∃dd,(UP r o).run P w=.ok (.defer dd) w/\H2 Z d dd/\∃c,o.op=.defer c
 |.dh v=>∃u,(UP r o).run P w=.halt (.panic u) w/\Rv Z v u
def O4.same(hi:Inv N Z G w){res:Result Next}(h:res=.ok (.value u) w)(hr:Rv Z v u):O4 ro N Z w G res v G:=
 ⟨u,w,Z,.inl h,hr,hi,Le.refl _ _ _ _⟩
variable{o:YX}{r:Xs->ZQ}
def ct.same(hi:Inv N Z G w)(h:(UP r o).run P w=.ok (.value u) w)(hr:Rv Z v u):ct P ro N Z w G r o (.val v G):=
 λ_=>O4.same hi h hr
variable{out:jK}
def bK(h:ret v G=aa out):out=.val v G:=by cases h;rfl
variable{Y:Xs->IV}{x:Xs}{b:IV}{aH:aj IV}{ef:aj ZQ}
def aaf(hi:Inv N Z G w)(hr:Rv Z (Y x) (r x))(ho:o.op=.move x\/o.op=.assign x):ct P ro N Z w G r o (.val (Y x) G):=
 ct.same hi (by rcases ho with ho|ho<;>simp[UP,ho]) hr
def anw{c b:Xs}(hi:Inv N Z G w)(hc:Rv Z (Y c) (r c))(ha:Rv Z (Y a) (r a))(hb:Rv Z (Y b) (r b))(ho:o.op=.pick c a b)(h:aN P ro Y o G=aa out):
 ct P ro N Z w G r o out:=by
 simp only[aN,ho]at h;split at h
 .rename_i t ht;rw[ht]at hc;have G1:r c=.bool t:=by generalize hu:r c=u at hc;cases hc;rfl
  obtain rfl:=bK h;cases t
  .exact ct.same hi (u:=r b) (by simp[UP,ho,G1,asBool]) hb
  .exact ct.same hi (u:=r a) (by simp[UP,ho,G1,asBool]) ha
 grind
def acn{aE:aj ZQ}(hr:bu Z cs vs)(hl:Z id 0=aa l)(dw:∀e,0<e->Z id e=ah)(hn:l.n=cs.length)(mR:l.lim=(vs++aE).length)
 (hh:w'.heap[l.b]?=aa (.cells (vs++aE).toArray el (0,0))):oQ Z w' id (.cells cs 0 0):=by
 refine⟨⟨XS _,dw⟩,⟨l,hl,hn⟩,λe _ he=>?_⟩;obtain rfl:e=0:=ak;refine⟨l,(vs++aE).toArray,el,hl,ak,hh,ak,λk x _ hx=>?_⟩;have⟨u,hu,nU⟩:=hr.get hx
 grind
def Inv.aag(hi:Inv N Z G w)(hN:G.n<N)(hr:bu Z cs vs)(aE:aj ZQ)(el:VK)(hw:w'.heap=w.heap.push (.cells (vs++aE).toArray el))
 (t_:w'.os=w.os)(Ka:w'.tape=w.tape)(Kb:w'.output=w.output):
 Inv N (fc Z G.n 0 ⟨w.heap.size,cs.length,(vs++aE).length⟩) (G.add (.cells cs 0 0)) w'/\Le ro Z w G (fc Z G.n 0 ⟨w.heap.size,cs.length,(vs++aE).length⟩) w' (G.add (.cells cs 0 0)):=by
 have hx:=hi.fresh _ (XS _) hN;have hh:w'.heap[w.heap.size]?=aa (.cells (vs++aE).toArray el (0,0)):=aI;refine hi.add hN hw t_ Ka Kb rfl (acn (aE:=aE) (hr.mono (qo (hx 0))) (dv _ _ _ _) (λe he=>?_) rfl rfl hh);have:e≠0:=ak
 simp_all[fc]
def Inv.newRow(hi:Inv N Z G w)(hN:G.n<N)(hr:bu Z cs vs)(el:VK):
 let l:Loc:=⟨w.heap.size,cs.length,vs.length⟩
 let w':Z0:={w with heap:=w.heap.push (.cells vs.toArray el)}
 Inv N (fc Z G.n 0 l) (G.add (.cells cs 0 0)) w'/\Le ro Z w G (fc Z G.n 0 l) w' (G.add (.cells cs 0 0)):=by
 intro l w';have:=hi.aag (ro:=ro) hN hr [] el (w':=w') aI rfl rfl rfl
 grind
def aic(hi:Inv N Z G w)(ho:o.op=.alloc t)(h:aN P ro Y o G=aa out):ct P ro N Z w G r o out:=by
 simp only[aN,ho]at h;split at h
 .rename_i z hz;obtain rfl:=bK h;intro hN;have⟨h1,h2⟩:=hi.newRow (ro:=ro) ES (bu.xW (Z:=Z) z.cells.toList) t;refine⟨.pointer (aa ⟨w.heap.size,0,ah⟩),_,_,.inl ?_,?_,h1,h2⟩
  .simp[UP,ho,Instr.alloc,oR hz,newVar,newRow]
  .exact .ptr _ _ _ _ _ (dv _ _ _ _) az
 grind
def ap0(hi:Inv N Z G w)(hr:Rv Z (Y x) (r x))(ho:o.op=.box t x)(h:aN P ro Y o G=aa out):ct P ro N Z w G r o out:=by
 simp only[aN,ho]at h;split at h
 .rename_i bM;obtain rfl:=bK h;intro hN;have⟨h1,h2⟩:=hi.newRow (ro:=ro) ES (hr.HZ bM) t;refine⟨.pointer (aa ⟨w.heap.size,0,ah⟩),_,_,.inl ?_,?_,h1,h2⟩
  .simp[UP,ho,Instr.box,newVar,newRow]
  .have:=(hr.HZ bM).1;exact .ptr _ _ _ _ _ (dv _ _ _ _) aI
 grind
def anx(hi:Inv N Z G w)(hr:Rv Z (Y x) (r x))(ho:o.op=.load t x)(h:aN P ro Y o G=aa out):ct P ro N Z w G r o out:=by
 simp only[aN,ho]at h;split at h
 .rename_i id ay ep ext hx;rw[hx]at hr;split at h
  .rename_i s cs aV mn hs bx;split at h
   .rename_i hc;split at h
    .rename_i v hp;obtain rfl:=bK h;have⟨a,u,ha,jU,nU⟩:=aHI hi hs bx hc.1 hc.2.1 hc.2.2 hp hr;exact ct.same hi (u:=u) (by simp[UP,ho,aKQ,Xj,ha,jU]) nU
    grind
   grind
  grind
 .rename_i cs hx;rw[hx]at hr;split at h
  .rename_i v hp;obtain rfl:=bK h;generalize hq:r x=q at hr;cases hr with
   |pF _ b ay us hu hh=>
    have pG:EW w b ay ((YF cs.length).map us):=by
     intro j v hj;simp only[Z7,Lq]at hj;obtain⟨j',tj,rfl⟩:=hj
     have:j'=j/\j<cs.length:=by
      grind
     obtain⟨rfl,aq⟩:=this;have hm:=hu j' aq;unfold ti at hm;cases hb:Z.m b with
     |none=>grind
     |some c=>
      have⟨el,f,hh'⟩:=hi.mem b c hb;rw[cell_of hh']
      grind
    have hl:bu Z cs ((YF cs.length).map us):=by
     refine⟨az,λi c v h1 h2=>?_⟩
     grind
    have⟨u,h1,h2⟩:=aJD (k:=0) hp hl pG;exact ct.same hi (u:=u) (by simp_all[UP,aKQ,Xj]) h2
  grind
 grind
def zN(w:Z0)(g:Nat)(cs:Array ZQ)(b:Nat)(h:b≠g):(w.setRow g cs).heap[b]?=w.heap[b]? :=by
 grind [World.setRow]
def setRow_size(w:Z0)(g:Nat)(cs:Array ZQ):(w.setRow g cs).heap.size=w.heap.size:=az
def H3(hr:bu Z cs vs)(h:cs.all aw=ab):∀v∈vs,v.oneCell'=ab:=by
 intro v hv;have⟨i,hi⟩:=List.mem_iff_getElem?.1 hv;have aq:i<cs.length:=by have:=(Z5.1 hi).1;have:=hr.1;omega
 have hc:=hr.2 i cs[i] v (UN aq) hi;have hk:=afh hc (List.all_eq_true.1 h _ (List.getElem_mem aq));cases v<;>first|rfl|grind|grind
theorem aGI(A:aj ZQ)(n ay:Nat)(ef:aj ZQ)(h1:ay+ef.length<=n)(h2:n<=A.length)(k:Nat)(hk:k<n):
 (A.take ay++ef++A.drop (ay+ef.length))[k]?=((A.take n).take ay++ef++(A.take n).drop (ay+ef.length))[k]? :=by
 have e1:(A.take n).take ay=A.take ay:=aI
 grind
theorem Inv.write(hi:Inv N Z G w)(bx:G.at id=aa (.cells cs aV mn))(fP:ro<=id)(ap1:ay+aH.length<=cs.length)
 (hr:bu Z aH ef):∃l c el,Z id aV=aa l/\w.heap[l.b]?=aa (.cells c el (0,0))/\ay+ef.length<=c.size/\
  Inv N Z (G.put id (.cells (gd cs ay aH) aV aV)) (w.setRow l.b (c.toList.take ay++ef++c.toList.drop (ay+ef.length)).toArray)/\
  Le ro Z w G Z (w.setRow l.b (c.toList.take ay++ef++c.toList.drop (ay+ef.length)).toArray) (G.put id (.cells (gd cs ay aH) aV aV)):=by
 have gp:=hi.obj id _ bx;have⟨vZ,⟨l0,px,pO⟩,_⟩:=gp;have⟨l,c,el,hl,hn,cd,hc,mR,pG⟩:=L7 (hi.obj id _ bx) vZ.1 (XS _);obtain rfl:l=l0:=aI;have Cb:=hr.1;have aq:ay+ef.length<=c.size:=ak;refine⟨l,c,el,hl,hc,aq,?_⟩;refine hi.put bx fP ⟨_,_,hl⟩ (Ext.refl _) (λ_ _ _=>rfl) (λb hb=>.inl hb) az (λb _ dw=>zN _ _ _ _ ?_) rfl rfl rfl ?_
 .intro e;subst e;exact dw ⟨_,_,hl,rfl⟩
 .refine⟨⟨XS _,vZ.2⟩,⟨l,hl,by simp[gd];omega⟩,λe he q7=>?_⟩;obtain rfl:e=aV:=ak;refine⟨l,_,el,hl,by grind [gd],setRow_heap w l.b c _ el _ hc,aI,λk x hk hx=>?_⟩;rw[pO,List.take_length]at pG;have M1:cs.length<=c.toList.length:=aI;have aco:=pG.gd ay hr;have⟨u,hu,nU⟩:=aco.get hx;refine⟨u,?_,nU⟩;simp only[PH];rw[<-hu];exact aGI c.toList cs.length ay ef ak M1 k ak
def xZ(hc:w.heap[l.b]?=aa (.cells c el (0,0)))(aq:ay+ef.length<=c.size)(h1:∀v∈ef,v.oneCell'=ab):
 (storeCells ⟨l.b,ay,ah⟩ ef).run P w=.ok () (w.setRow l.b (c.toList.take ay++ef++c.toList.drop (ay+ef.length)).toArray):=by
 have:=run_storeCells_at (P:=P) l.b ay el ef 0 c w hc ak h1;omega
def aid(hi:Inv N Z G w)(ha:Rv Z (Y a) (r a))(hx:Rv Z (Y x) (r x))(ho:o.op=.store t a x)(h:aN P ro Y o G=aa out):ct P ro N Z w G r o out:=by
 simp only[aN,ho]at h;split at h
 .rename_i id ay ep ext hp;rw[hp]at ha;split at h
  .rename_i s cs aV mn hs bx;split at h
   .rename_i hc;have⟨fP,bf,jE,hep,ap1,bM⟩:=hc;obtain rfl:=bK h;intro hN;subst hep;have mb:=hx.HZ bM;obtain⟨l,c,el,hl,G2,aq,h1,h2⟩:=hi.write (ro:=ro) bx fP (by rw[bf];omega) mb;generalize hq:r a=q at ha;cases ha with
    |ptr _ _ _ _ l' dq oF=>
     rw[hl]at dq;cases dq;refine⟨ZL,_,_,.inr ⟨?_,rfl⟩,.raw _,h1,h2⟩;have cd:(r x).cells.size=s:=by have:=mb.1;grind
     simp[UP,ho,Instr.storeAt,Xj,hq,storeVar,ij hs,cd,xZ (P:=P) G2 aq (H3 mb bM)]
   grind
  grind
 grind
def aF0(hi:Inv N Z G w)(hr:Rv Z (Y x) (r x))(ho:o.op=.nilCheck x)(h:aN P ro Y o G=aa out):ct P ro N Z w G r o out:=by
 simp only[aN,ho]at h;split at h
 all_goals try grind
 all_goals
  rename_i hx;rw[hx]at hr;obtain rfl:=bK h;generalize hq:r x=q at hr;refine ct.same hi (u:=q) ?_ hr;cases hr<;>simp[UP,ho,hq]
variable{op:BinOp}{v:ZQ}{y ix:Xs}{yT:VK}{a:IV}{cap f:Nat}
def eval_bin(ho:o.op=.binOp op t x y yT)(h:(do eqGuard op t x y (r x) (r y);binOp op t (r x) (r y):Sem ZQ).run P w=.ok v w):
 (UP r o).run P w=.ok (.value v) w:=by
 simp only[UP,ho,Z1]at h⊢
 simp_all
def toList_eq(s:ByteArray):s.toList=s.data.toList:=Lib.toList_data s
def afi(d:Nat)(h:GV P t a b=ab)(ha:Rv Z a u)(hb:Rv Z b v):
 ((NI (d+1) t u v).run P w=.ok af w)/\((NI (d+1) t v u).run P w=.ok af w):=by
 unfold GV at h;split at h
 all_goals try grind
 all_goals
  split at h
  .rename_i hu;cases ha;cases hb;refine⟨?_,?_⟩<;>simp only[NI,Z1,cA hu]<;>rfl
  grind
def DK{c:Bool}(he:(NI (9999+1) t u v).run P w=.ok c w):
 (do pure (.bool (<-We t u v)):Sem ZQ).run P w=.ok (.bool c) w/\(do pure (.bool (!(<-We t u v))):Sem ZQ).run P w=.ok (.bool !c) w:=by
 have q7:(We t u v).run P w=.ok c w:=he
 simp_all
def aex(h:GV P t a b=ab)(ha:Rv Z a u)(hb:Rv Z b v):
 ((∀op,(eqGuard op t x y u v).run P w=.ok () w)/\(Kd .eql t u v).run P w=.ok (.bool af) w/\(Kd .neq t u v).run P w=.ok (.bool ab) w)/\
 ((∀op,(eqGuard op t x y v u).run P w=.ok () w)/\(Kd .eql t v u).run P w=.ok (.bool af) w/\(Kd .neq t v u).run P w=.ok (.bool ab) w):=by
 have h1:=afi (w:=w) 9999 h ha hb;have h2:=DK h1.1;have h3:=DK h1.2;unfold GV at h;split at h
 all_goals try grind
 all_goals
  cases ha;cases hb;exact⟨⟨λop=>by cases op<;>rfl,h2.1,h2.2⟩,⟨λop=>by cases op<;>rfl,h3.1,h3.2⟩⟩
def aie(h:TR P t a b=ab)(ha:Rv Z a u)(hb:Rv Z b v):
 (∀op,(eqGuard op t x y u v).run P w=.ok () w)/\(Kd .eql t u v).run P w=.ok (.bool af) w/\(Kd .neq t u v).run P w=.ok (.bool ab) w:=by
 simp only[TR,Bool.or_eq_true]at h;rcases h with h|h
 .exact(aex (w:=w) (x:=x) (y:=y) h ha hb).1
 .exact(aex (w:=w) (x:=x) (y:=y) h hb ha).2
def aI_{c:Bool}(h:ptrEq P t a b=aa c)(ha:Rv Z a u)(hb:Rv Z b v):
 (∀op,(eqGuard op t x y u v).run P w=.ok () w)/\(Kd .eql t u v).run P w=.ok (.bool c) w/\(Kd .neq t u v).run P w=.ok (.bool !c) w:=by
 unfold ptrEq at h;split at h
 .rename_i i ay e x1 j H4 f y1;split at h
  .rename_i el hu;split at h
   .rename_i s hs;split at h
    .rename_i hc;obtain⟨rfl,rfl,h0⟩:=hc;cases h;cases ha with
     |ptr _ ay _ _ l hl _=>
      cases hb with
      |ptr _ H4 _ _ l' dq _=>
       rw[hl]at dq;cases dq
       have he:∀d,(NI (d+1) t (.pointer (aa ⟨l.b,ay,ah⟩)) (.pointer (aa ⟨l.b,H4,ah⟩))).run P w=.ok (ay==H4) w:=by
        intro d;simp only[NI,Z1,cA hu,Rn,ij hs,ne_eq,h0,sameAddr];by_cases hh:ay=H4
        .simp_all
        .have:((⟨l.b,ay,ah⟩:Addr)==⟨l.b,H4,ah⟩)=af:=aI;simp[this,hh]
       have h2:=DK (he 9999);exact⟨λop=>by cases op<;>rfl,h2.1,h2.2⟩
    grind
   grind
  grind
 grind
def ap2(hi:Inv N Z G w)(hx:Rv Z (Y x) (r x))(hy:Rv Z (Y y) (r y))(ho:o.op=.binOp op t x y yT)(h:aN P ro Y o G=aa out):
 ct P ro N Z w G r o out:=by
 simp only[aN,ho]at h;split at h
 .rename_i v hv;obtain rfl:=bK h
  suffices hs:∃u,(do eqGuard op t x y (r x) (r y);binOp op t (r x) (r y):Sem ZQ).run P w=.ok u w/\Rv Z v u by
   have⟨u,h1,h2⟩:=hs;exact ct.same hi (eval_bin ho h1) h2
  generalize S1:r x=a at hx;generalize hry:r y=b at hy;generalize eW:Y x=ix at hx hv;generalize hiy:Y y=iy at hy hv;unfold vM at hv
  have strs:∀(s u:ByteArray),ix=.raw (.string s)->iy=.raw (.string u)->a=.string s/\b=.string u:=by
   intro s u h1 h2;subst h1 h2;cases hx;cases hy;exact⟨rfl,rfl⟩
  split at hv
  .rename_i s u;obtain⟨rfl,rfl⟩:=strs s u rfl rfl;cases hv;exact⟨_,by simp[eqGuard,Kd,PG,toList_eq],.raw _⟩
  .rename_i s u;obtain⟨rfl,rfl⟩:=strs s u rfl rfl;cases hv;exact⟨_,by simp[eqGuard,Kd,PG,toList_eq],.raw _⟩
  .rename_i s u;obtain⟨rfl,rfl⟩:=strs s u rfl rfl;cases hv;exact⟨_,by simp[eqGuard,Kd,PG,toList_eq],.raw _⟩
  .rename_i s u;obtain⟨rfl,rfl⟩:=strs s u rfl rfl;cases hv;exact⟨_,by simp[eqGuard,Kd,PG,toList_eq],.raw _⟩
  .rename_i s u;obtain⟨rfl,rfl⟩:=strs s u rfl rfl;cases hv;exact⟨_,by simp[eqGuard,Kd,PG,toList_eq],.raw _⟩
  .rename_i s u;obtain⟨rfl,rfl⟩:=strs s u rfl rfl;cases hv;exact⟨_,by simp[eqGuard,Kd,PG,toList_eq],.raw _⟩
  .rename_i s u;obtain⟨rfl,rfl⟩:=strs s u rfl rfl;split at hv
   .cases hv;refine⟨_,?_,.raw _⟩
    have e:(⟨(s.data.toList++u.data.toList).toArray⟩:ByteArray)=s++u:=by
     apply aJ2;simp
    rw[e]
    have hm:¬((s.size+u.size:Nat):Int)>QY.max:=by
     have:QY.max=9223372036854775807:=by decide
     rw[this];omega
    simp only[eqGuard,Kd,PG,aY hm];simp
   .cases hv
  .split at hv
   .rename_i u1 u2 h1 h2;rw[HY h1 hx,HY h2 hy];simp only[Lq]at hv;obtain⟨z,hz,rfl⟩:=hv;exact⟨z,ji w _ hz,Rv.lift z⟩
   .split at hv
    .rename_i DL;have⟨hg,he⟩:=aie (w:=w) (x:=x) (y:=y) DL hx hy;split at hv
     .cases hv;exact⟨.bool af,by simp only[Z1,hg .eql,Rn,he.1],.raw _⟩
     .cases hv;exact⟨.bool ab,by simp only[Z1,hg .neq,Rn,he.2],.raw _⟩
     .cases hv
    .split at hv
     .obtain⟨hg,he⟩:=aI_ (w:=w) (x:=x) (y:=y) ‹ptrEq P t ix iy=aa _› hx hy;cases hv;exact⟨.bool _,by simp only[Z1,hg .eql,Rn,he.1],.raw _⟩
     .obtain⟨hg,he⟩:=aI_ (w:=w) (x:=x) (y:=y) ‹ptrEq P t ix iy=aa _› hx hy;cases hv;exact⟨.bool _,by simp only[Z1,hg .neq,Rn,he.2],.raw _⟩
     .cases hv
 .cases h
def i_{x:IV}(hx:x=.raw v)(h:Rv Z x u):u=v:=by subst hx;cases h;rfl
def avJ{op:UnOp}(hi:Inv N Z G w)(hr:Rv Z (Y x) (r x))(ho:o.op=.unOp op t x)(h:aN P ro Y o G=aa out):ct P ro N Z w G r o out:=by
 simp only[aN,ho]at h;split at h
 .rename_i v hx;split at h
  .rename_i z hz;obtain rfl:=bK h;have e:=i_ hx hr;have:=ji w _ hz;exact ct.same hi (u:=z) (by simp[UP,ho,e,this]) (Rv.lift z)
  grind
 grind
def acp{s:VK}(hi:Inv N Z G w)(hr:Rv Z (Y x) (r x))(ho:o.op=.convert s t x)(h:aN P ro Y o G=aa out):ct P ro N Z w G r o out:=by
 simp only[aN,ho]at h;split at h
 .rename_i v hx;split at h
  .rename_i d hs hu;obtain rfl:=bK h;have e:=i_ hx hr;refine ct.same hi (u:=.string v) ?_ (.raw _)
   have:(convert s t (.string v)).run P w=.ok (.string v) w:=by
    simp only[convert,Z1,cA hs,cA hu];rfl
   simp[UP,ho,e,this]
  grind
 .rename_i v _ hx;split at h
  .rename_i z hz;obtain rfl:=bK h;have e:=i_ hx hr;have:=ji w _ hz;exact ct.same hi (u:=z) (by simp[UP,ho,e,this]) (Rv.lift z)
  grind
 grind
def aGQ(hi:Inv N Z G w)(hr:Rv Z (Y x) (r x))(ho:o.op=.makeInterface t x)(h:aN P ro Y o G=aa out):ct P ro N Z w G r o out:=by
 simp only[aN,ho]at h;split at h
 .cases h
 .rename_i d hd hu;obtain rfl:=bK h;refine ct.same hi (u:=.iface t (r x)) ?_ (.eT _ _ _ hr);simp only[UP,ho,Instr.makeInterface,Z1,cA hu,Rn];rfl
 grind
theorem aGx{f:Fn}{first cap:Array Xs}(hi:Inv N Z G w)(hr:∀x∈first++cap,Rv Z (Y x) (r x))(ho:o.op=.makeFunc f first cap)(h:aN P ro Y o G=aa out):ct P ro N Z w G r o out:=by
 simp only[aN,ho]at h;obtain rfl:=bK h;have h1:bu Z (first.toList.map Y) (first.toList.map r):=bu.of_map λa ha=>hr a aI;have h2:bu Z (cap.toList.map Y) (cap.toList.map r):=bu.of_map λa ha=>hr a aI;refine ct.same hi (u:=.func f (first.toList.map r).toArray (cap.toList.map r).toArray) ?_ (.fn _ _ _ _ _ h1.1 h1.2 h2.1 h2.2);simp only[UP,ho,Instr.makeFunc,Z1,VV,Rn]
 congr 3<;>(grind)
def acq(hi:Inv N Z G w)(hr:Rv Z (Y x) (r x))(ho:o.op=.extract x i)(h:aN P ro Y o G=aa out):ct P ro N Z w G r o out:=by
 simp only[aN,ho]at h;split at h
 .rename_i vs hx;split at h
  .rename_i v hv;obtain rfl:=bK h;rw[hx]at hr;generalize hq:r x=q at hr;cases hr with
   |aU _ us hl hh=>
    have⟨u,hu,nU⟩:=bu.get ⟨hl,hh⟩ hv;exact ct.same hi (u:=u) (by simp[UP,ho,aKC,hq,hu]) nU
  grind
 .rename_i vs hx;split at h
  .rename_i v hv;obtain rfl:=bK h;have e:=i_ hx hr;exact ct.same hi (u:=v) (by simp[UP,ho,aKC,e,hv]) (.raw _)
  grind
 grind
def Inv.ap3(hi:Inv N Z G w)(hN:G.n<N):
 Inv N (fc Z G.n 0 ⟨w.heap.size,1,1⟩) (G.add (.map [] 0)) {w with heap:=w.heap.push (.map #[] 0)}/\
 Le ro Z w G (fc Z G.n 0 ⟨w.heap.size,1,1⟩) {w with heap:=w.heap.push (.map #[] 0)} (G.add (.map [] 0)):=by
 refine hi.add hN rfl rfl rfl rfl rfl ⟨_, #[],dv _ _ _ _,az,az,λi e r h=>az⟩
def acr{x:aF Xs}(hi:Inv N Z G w)(hr:∀y∈x.toArray,Rv Z (Y y) (r y))(ho:o.op=.makeMap t x)(h:aN P ro Y o G=aa out):ct P ro N Z w G r o out:=by
 simp only[aN,ho]at h
 have key:out=.val (.map G.n) (G.add (.map [] 0))->(UP r o).run P w=.ok (.value (.map (aa w.heap.size))) {w with heap:=w.heap.push (.map #[] 0)}->ct P ro N Z w G r o out:=by
  intro h1 h2;subst h1;intro hN;have⟨h3,h4⟩:=hi.ap3 (ro:=ro) ES;exact⟨_,_,_,.inl h2,.map _ _ (dv _ _ _ _),h3,h4⟩
 split at h<;>try exact key (bK h) (by simp[UP,ho,aKD])
 split at h
 .rename_i hu hx;have e:=i_ hx (hr _ az);exact key (bK h) (by simp[UP,ho,aKD,cA hu,e,asInt,asIntOf])
 grind
theorem aGh{s:VK}(hi:Inv N Z G w)(hr:Rv Z (Y x) (r x))(ho:o.op=.fieldAddr s x f)(h:aN P ro Y o G=aa out):ct P ro N Z w G r o out:=by
 simp only[aN,ho]at h;split at h
 .rename_i fields hu;split at h
  .rename_i fd hf;split at h
   .rename_i sz id ay ep ext hs hx;split at h
    .rename_i hc;obtain rfl:=bK h;rw[hx]at hr;generalize hq:r x=q at hr;cases hr with
     |ptr _ _ _ _ l hl hle=>
      refine ct.same hi (u:=.pointer (aa ⟨l.b,ay+fd.offset,ah⟩)) ?_ (.ptr _ _ _ _ l hl ak);simp[UP,ho,aKE,cA hu,hf,Xj,hq,fieldPlace,ij hs,hc.1,k_]
    grind
   .rename_i sz cs hs hx;split at h
    .rename_i hc;obtain rfl:=bK h;rw[hx]at hr;generalize hq:r x=q at hr;cases hr with
     |pF _ b ay us S2 hh=>
      refine ct.same hi (u:=.pointer (aa ⟨b,ay+fd.offset,ah⟩)) ?_ (.pF _ _ _ (λk=>us (fd.offset+k)) (λk hk=>?_) (λj c hj=>?_))
      .simp[UP,ho,aKE,cA hu,hf,Xj,hq,fieldPlace,ij hs,hc.1,k_]
      all_goals grind
    grind
   grind
  grind
 grind
def aif(hi:Inv N Z G w)(hr:Rv Z (Y x) (r x))(ho:o.op=.field t x f)(h:aN P ro Y o G=aa out):ct P ro N Z w G r o out:=by
 simp only[aN,ho]at h;split at h
 .rename_i fields cs hu hx;split at h
  .rename_i fd hf;split at h
   .rename_i v hp;obtain rfl:=bK h;rw[hx]at hr;generalize hq:r x=q at hr;cases hr with
    |agg _ us hl hh=>
     have⟨u,h1,h2⟩:=aGX hp ⟨hl,hh⟩ w;exact ct.same hi (u:=u) (by simp[UP,ho,Instr.field,cA hu,hf,asAgg,hq,h1]) h2
   grind
  grind
 grind
def acs(hi:Inv N Z G w)(hr:Rv Z (Y x) (r x))(S1:Rv Z (Y ix) (r ix))(ho:o.op=.indexAddr t x ix)(h:aN P ro Y o G=aa out):ct P ro N Z w G r o out:=by
 simp only[aN,ho]at h;split at h
 .rename_i bo k i hu eW;have ei:=i_ eW S1;split at h
  .rename_i id ay len cap ep s hx;split at h
   .rename_i hc;have⟨hs,h0,aq⟩:=hc;obtain rfl:=bK h;rw[hx]at hr;generalize hq:r x=q at hr;have hn:i.toNat<len:=ak
    have hmul:i.toNat*s+s<=len*s:=by
     have:=XX s hn
     grind
    cases hr with
    |sl _ _ _ _ _ _ l c a hl hle mR dc DM mS ha=>
     have aEN:=XX s DM;refine ct.same hi (u:=.pointer (aa ⟨l.b,ay+i.toNat*s,ah⟩)) ?_ (.ptr _ _ _ _ l hl ak);have ea:=ha ak;subst ea;simp[UP,ho,QR,ei,asIntOf,cA hu,hq,h0,aq,ij hs,k_]
   grind
  .rename_i s es hx;split at h
   .rename_i hc;have⟨hs,h0⟩:=hc;split at h
    .rename_i e he;split at h
     .obtain rfl:=bK h;rw[hx]at hr;generalize hq:r x=q at hr;have aq:=(Z5.1 he).1;have jV:i<es.length:=ak
      have hmul:i.toNat*s+s<=es.length*s:=by
       have:=XX s aq
       grind
      cases hr with
      |tree _ _ b ay c us dc hc cD S2 hh=>
       refine ct.same hi (u:=.pointer (aa ⟨b,ay+i.toNat*s,ah⟩)) ?_ (.pF _ _ _ (λk=>us (i.toNat*s+k)) (λk hk=>?_) λj c hj=>hh _ _ _ _ he hj)
       .simp[UP,ho,QR,ei,asIntOf,cA hu,hq,h0,jV,ij hs,k_]
       grind
      |fL=>grind
     grind
    grind
   grind
  grind
 .rename_i n bo k i hu eW;have ei:=i_ eW S1;split at h
  .rename_i id ay ep ext s hx hs;split at h
   .rename_i hc;have⟨dc,h0,aq,NJ⟩:=hc;obtain rfl:=bK h;rw[hx]at hr;generalize hq:r x=q at hr;cases hr with
    |ptr _ _ _ _ l hl hle=>
     refine ct.same hi (u:=.pointer (aa ⟨l.b,ay+i.toNat*s,ah⟩)) ?_ (.ptr _ _ _ _ l hl ak);simp[UP,ho,QR,ei,asIntOf,cA hu,hq,Xj,h0,aq,ij hs,k_]
   grind
  grind
 grind
def aih(hi:Inv N Z G w)(hr:Rv Z (Y x) (r x))(S1:Rv Z (Y ix) (r ix))(ho:o.op=.index t x ix)(h:aN P ro Y o G=aa out):ct P ro N Z w G r o out:=by
 simp only[aN,ho]at h;split at h
 .rename_i s k i hu hx eW;have ei:=i_ eW S1;have ex:=i_ hx hr;split at h
  .rename_i h0;split at h
   .rename_i b hb;obtain rfl:=bK h;refine ct.same hi (u:=.int .u8 b.toNat) ?_ (.raw _)
    have ua:s[i.toNat]?=aa b:=by
     have⟨aq,he⟩:=Z5.1 hb;have jV:i.toNat<s.size:=by assumption
     simp_all[aK_]
    simp[UP,ho,aKW,ei,ex,asIntOf,cA hu,h0,ua]
   grind
  grind
 .rename_i n bo cs k i hu hx eW;have ei:=i_ eW S1;split at h
  .rename_i s hs;split at h
   .rename_i hc;split at h
    .rename_i v hp;obtain rfl:=bK h;rw[hx]at hr;generalize hq:r x=q at hr;cases hr with
     |agg _ us hl hh=>
      have⟨u,h1,h2⟩:=aGX hp ⟨hl,hh⟩ w;exact ct.same hi (u:=u) (by simp[UP,ho,aKW,ei,hq,asIntOf,cA hu,hc.1,hc.2,ij hs,h1]) h2
    grind
   grind
  grind
 grind
def aIH(l:aj ZQ)(s:Nat)(hl:l.length=s):∀n,(YF (n*s)).map (λi=>l[i % s]!)=(Xp n l).flatten
 |0=>by simp
 |n+1=>by
  rw[W6,Nat.one_mul,List.range_add,List.map_append,aIH l s hl n,List.replicate_succ',List.flatten_append]
  congr 1
  apply aKc;intro i;by_cases hi:i<s
  .have h1:(n*s+i) % s=i:=by rw[Nat.mul_comm,Nat.mul_add_mod,Nat.mod_eq_of_lt hi]
   grind
  grind
def afj(l:aj ZQ)(s n:Nat)(hl:l.length=s)(hs:s≠0):nZ (l.map .raw) (n*s)=((Xp n l).flatten).map .raw:=by
 unfold nZ;split
 .cases l with
  |nil=>grind
  |cons a l=>
   cases l with
   |nil=>
    have iP:s=1:=aI
    simp_all
   |cons b l=>grind
 .rw[List.length_map,hl,Nat.mul_div_cancel _ ak,List.map_flatten];simp
def H5(z:Array ZQ)(s n:Nat)(hz:z.size=s)(hs:s≠0):(aJM (n*s)).map (λi=>z[i % z.size]!)=(((Xp n z.toList).flatten)).toArray:=by
 apply Yw;have:=aIH z.toList s ak n
 simp_all[Array.getElem!_eq_getD]
def Ke(z:ZQ)(s n:Nat)(hz:z.cells.size=s)(hs:s≠0):bu Z (nZ (z.cells.toList.map .raw) (n*s)) ((Xp n z.cells.toList).flatten):=by
 rw[afj _ s n ak hs];exact bu.xW _
def aJH(z:ZQ)(s n:Nat)(hz:z.cells.size=s):((Xp n z.cells.toList).flatten).length=n*s:=by
 simp[hz]
theorem aHN(ay:Nat):∀(l:aj ZQ) (k:Nat) (A:Array ZQ) (i:Nat),ay+k+l.length<=A.size->
 ((l.zipIdx k).foldl (λcs (x:ZQ×Nat)=>cs.setIfInBounds (ay+x.2) x.1) A)[i]?=if ay+k<=i/\i<ay+k+l.length then l[i- ay- k]? else A[i]?
 |[],k,A,i,_=>by
  have:¬(ay+k<=i/\i<ay+k+0):=ak;simp;omega
 |v::l,k,A,i,h=>by
  simp only[aJc,Zv];rw[aHN ay l (k+1) _ i aI]
  grind
variable{place:Nat->aF (Nat×Nat)}{x:IV}{j size m bV:Nat}{Gt:aj ZQ}
theorem L8:∀{parts:aj (Nat×IV)} {DN:aj (Nat×ZQ)} {cs cL:aj IV} {A:Array ZQ},
 uX place cs parts=aa cL->bu Z cs A.toList->parts.length=DN.length->(∀(i:Nat) (p:Nat×IV) (q:Nat×ZQ),parts[i]?=aa p->DN[i]?=aa q->p.1=q.1/\Rv Z p.2 q.2)->
 ∃A',aK4 place A DN=aa A'/\bu Z cL A'.toList
 |[],DN,cs,cL,A,h,hr,hl,hp=>by
  cases DN with
  |nil=>simp only[uX,ZY]at h;subst h;exact⟨A,rfl,hr⟩
  |cons p q=>grind
 |(i,x)::aE,DN,cs,cL,A,h,hr,hl,hp=>by
  cases DN with
  |nil=>grind
  |cons q aEO=>
   have⟨j,v⟩:=q;obtain⟨h1,h2⟩:=hp 0 _ _ rfl rfl;simp only[uX]at h;split at h<;>try cases h
   rename_i ay size iv;split at h
   .rename_i hc;have⟨bf,hle,bM⟩:=hc;have mb:=h2.HZ bM;have fk:v.cells.size=size:=by have:=mb.1;grind
    have hAs:cs.length=A.size:=by have:=hr.1;omega
    have hA:(v.cells.zipIdx.foldl (λcs (x:ZQ×Nat)=>cs.setIfInBounds (ay+x.2) x.1) A).toList=A.toList.take ay++v.cells.toList++A.toList.drop (ay+v.cells.toList.length):=by
     apply aKc;intro k;have hf:=aHN ay v.cells.toList 0 A k aI
     have e:v.cells.zipIdx.foldl (λcs (x:ZQ×Nat)=>cs.setIfInBounds (ay+x.2) x.1) A=(v.cells.toList.zipIdx 0).foldl (λcs (x:ZQ×Nat)=>cs.setIfInBounds (ay+x.2) x.1) A:=by
      rw[<-Array.foldl_toList];simp
     rw[Array.getElem?_toList,e,hf];by_cases h3:k<ay
     .grind
     grind
    have tn:=hr.gd ay mb;rw[<-hA]at tn;have⟨A',h5,h6⟩:=L8 h tn aI (λi p q pP JI=>hp (i+1) p q pP JI);refine⟨A',?_,h6⟩;simp only[aK4]
    grind
   grind
def NK{parts:Array (Nat×Xs)}(hr:∀x∈(parts.toList.map (·.2)),Rv Z (Y x) (r x)):
 ∀(i:Nat) (p:Nat×IV) (q:Nat×ZQ),(parts.toList.map λ(y:Nat×Xs)=>(y.1,Y y.2))[i]?=aa p->((parts.map λ(y:Nat×Xs)=>(y.1,r y.2)).toList)[i]?=aa q->p.1=q.1/\Rv Z p.2 q.2:=aI
def run_places{fields:aj Field}(h:∀f∈fields,(bD P f.type).isSome=ab):
 (fields.mapM λf=>(do pure (f.offset,<-sizeOf f.type):Sem (Nat×Nat))).run P w=.ok (fields.map λf=>(f.offset,(bD P f.type).getD 0)) w:=by
 induction fields with
 |nil=>rfl
 |cons f fs ih=>
  have⟨s,hs⟩:=Kv.1 (h f az);rw[Tv];simp only[Z1,ij hs,Rn,VV,ih λg hg=>h g aI,List.map_cons,hs,Tb]
theorem aii{parts:Array (Nat×Xs)}(hi:Inv N Z G w)(hr:∀x∈(parts.toList.map (·.2)),Rv Z (Y x) (r x))(ho:o.op=.build t parts)(h:aN P ro Y o G=aa out):
 ct P ro N Z w G r o out:=by
 simp only[aN,ho]at h;split at h
 .rename_i z fields hz hu;split at h
  .rename_i cs hf;split at h
   .rename_i cQ;obtain rfl:=bK h;have⟨A',h1,h2⟩:=L8 (Z:=Z) hf (A:=z.cells) (bu.xW _) az (NK hr);refine ct.same hi (u:=.agg A') ?_ ?_
    .have hp:=run_places (P:=P) (w:=w) (fields:=fields.toList) (λf hf=>aI7.1 cQ f aI)
     have iv:(fields.mapM λf=>(do pure (f.offset,<-sizeOf f.type):Sem (Nat×Nat))).run P w=.ok (fields.map λf=>(f.offset,(bD P f.type).getD 0)) w:=by
      rw[aJr,aLa,hp];simp only[Rn]
      congr 1
      grind
     have ap4:(λ(i:Nat)=>(fields.map λ(f:Field)=>(f.offset,(bD P f.type).getD 0))[i]?)=(λ(i:Nat)=>(fields[i]?).bind λ(f:Field)=>(bD P f.type).map λs=>(f.offset,s)):=by
      funext i;rw[Array.getElem?_map];cases hfi:fields[i]? with
      |none=>rfl
      |some f=>
       have⟨s,hs⟩:=Kv.1 (aI7.1 cQ f (Array.mem_of_getElem? hfi))
       grind
     rw[<-ap4]at h1;simp only[UP,ho,aKX,Z1,oR hz,cA hu,iv,Rn,h1,VV]
    .have:=Rv.agg (Z:=Z) cs A'.toList h2.1 h2.2;omega
   grind
  grind
 .rename_i z n bo hz hu;split at h
  .rename_i s hs;split at h
   .rename_i cs hf;obtain rfl:=bK h;have⟨A',h1,h2⟩:=L8 (Z:=Z) hf (A:=z.cells) (bu.xW _) az (NK hr);refine ct.same hi (u:=.agg A') ?_ ?_
    .simp only[UP,ho,aKX,Z1,oR hz,cA hu,ij hs,Rn,h1,VV]
    .have:=Rv.agg (Z:=Z) cs A'.toList h2.1 h2.2;omega
   grind
  grind
 grind
def aFV{len:Nat}{parts:Array (Nat×Xs)}(hi:Inv N Z G w)(hr:∀x∈(parts.toList.map (·.2)),Rv Z (Y x) (r x))(ho:o.op=.buildSlice t len parts)
 (h:aN P ro Y o G=aa out):ct P ro N Z w G r o out:=by
 simp only[aN,ho]at h;split at h<;>try cases h
 rename_i bo hu;split at h<;>try cases h
 rename_i s z hs hz;split at h<;>try cases h
 rename_i hc;have dc:=λe=>hc (.inl e);have M4:=XF λe=>hc (.inr (.inl e))
 have VL:len*s<=2 ^20:=by
  have:=λe=>hc (.inr (.inr e));omega
 split at h<;>try cases h
 rename_i cs hf;split at h<;>try cases h
 rename_i cD;have⟨bf,bM⟩:=cD;have acu:=H5 z.cells s len M4 dc;have⟨A',h1,h2⟩:=L8 (Z:=Z) hf (A:=((Xp len z.cells.toList).flatten).toArray) (by simpa using Ke z s len M4 dc) az (NK hr)
 have jU:(UP r o).run P w=.ok (.value (.slice (aa ⟨w.heap.size,0,ah⟩) len len)) {w with heap:=w.heap.push (.cells A' bo)}:=by
  simp only[UP,ho,Instr.buildSlice,Z1,cA hu,ij hs,Rn];rw[aY ak];by_cases h0:len*s=0
  .have px:len=0:=by rcases aJp.1 h0 with h|h;exact h;exact bH h dc
   have e0:aJM (len*s)= #[]:=by rw[h0];rfl
   have e1:((Xp len z.cells.toList).flatten).toArray= #[]:=by rw[px];rfl
   rw[e1]at h1;simp only[aW h0,VV,Rn,e0,aKp,h1,newRow,Z1,run_newObj]
  .simp only[h0,if_false,Z1,oR hz,Rn,VV,acu,h1];simp[newRow]
 split at h
 .rename_i px;obtain rfl:=bK h;subst px;intro hN;obtain⟨h3,h4⟩:=hi.push (ro:=ro) (w':={w with heap:=w.heap.push (.cells A' bo)}) (o:=.cells A' bo) rfl rfl rfl rfl;exact⟨_,_,_,.inl jU,.emp _,h3,h4⟩
 .obtain rfl:=bK h;intro hN;have hA:A'=A'.toList.toArray:=az;have⟨h3,h4⟩:=hi.newRow (ro:=ro) (by simp at hN;omega) h2 bo;have hAl:cs.length=A'.size:=by have:=h2.1;simpa using this
  refine⟨_,_,_,.inl jU,?_,by simpa using h3,by simpa using h4⟩;exact .sl _ _ _ _ _ _ _ _ _ (dv _ _ _ _) eE eE ak (XS _) (λk hk=>by cases hk;exact⟨rfl,eE⟩) λ_=>rfl
def aFZ{l c:Xs}(hi:Inv N Z G w)(py:Rv Z (Y l) (r l))(G1:Rv Z (Y c) (r c))(ho:o.op=.makeSlice t l c)
 (h:aN P ro Y o G=aa out):ct P ro N Z w G r o out:=by
 simp only[aN,ho]at h;split at h<;>try cases h
 rename_i bo k1 li k2 ci hu hl hc;have el:=i_ hl py;have ec:=i_ hc G1;split at h<;>try cases h
 rename_i s z bytes hs hz hb;split at h<;>try cases h
 rename_i dj;have dc:=λe=>dj (.inl e);have M4:=XF λe=>dj (.inr (.inl e));have DM:=XF λe=>dj (.inr (.inr (.inl e)))
 have O5:bytes<=1000000:=by
  have:=λe=>dj (.inr (.inr (.inr e)));omega
 have⟨i,cX,hbi,hti⟩:=Kc hb w;have wl:QY.wrap li=li:=aJk _ ak;have wc:QY.wrap ci=ci:=aJk _ ak;have acu:=H5 z.cells s ci.toNat M4 dc;have c1:¬ci<0:=ak
 have c2:¬(2 ^48:Int)<(i.bytes:Int)*ci:=by
  have h1:(i.bytes:Int)*ci<=1000000*1000000:=by
   have dL:(i.bytes:Int)<=1000000:=ak;exact Int.mul_le_mul dL DM.2.2 ak ak
  omega
 have c3:¬li<0:=ak;have c4:¬ci<li:=ak
 have jU:(UP r o).run P w=.ok (.value (.slice (aa ⟨w.heap.size,0,ah⟩) li.toNat ci.toNat)) {w with heap:=w.heap.push (.cells ((Xp ci.toNat z.cells.toList).flatten).toArray bo)}:=by
  simp only[UP,ho,Instr.makeSlice,Z1,cA hu,el,ec,asInt,asIntOf,VV,Rn,hti,wl,wc,c1,c2,c3,c4,decide_false,Bool.or_self,W8,if_false,run_askRoom,ij hs];by_cases h0:ci.toNat*s=0
  .have M1:ci.toNat=0:=by rcases aJp.1 h0 with h|h;exact h;exact bH h dc
   have e0:aJM (ci.toNat*s)= #[]:=by rw[h0];rfl
   have e1:((Xp ci.toNat z.cells.toList).flatten).toArray= #[]:=by rw[M1];rfl
   simp only[aW h0,VV,Rn,e0,e1,aKp,newRow,Z1,run_newObj]
  .simp only[aY h0,Z1,oR hz,Rn,VV,acu,newRow,run_newObj]
 split at h
 .rename_i M1;obtain rfl:=bK h;intro hN;obtain⟨h3,h4⟩:=hi.push (ro:=ro) (w':={w with heap:=w.heap.push (.cells ((Xp ci.toNat z.cells.toList).flatten).toArray bo)}) (o:=.cells ((Xp ci.toNat z.cells.toList).flatten).toArray bo) rfl rfl rfl rfl;have px:li=0:=ak;subst M1 px;exact⟨_,_,Z,.inl jU,.emp _,h3,h4⟩
 .obtain rfl:=bK h;intro hN;have h2:=Ke (Z:=Z) z s ci.toNat M4 dc;have bf:=aJH z s ci.toNat M4;have⟨h3,h4⟩:=hi.newRow (ro:=ro) (by simp at hN;omega) h2 bo;refine⟨_,_,_,.inl jU,?_,h3,h4⟩;have hle:li.toNat*s<=ci.toNat*s:=XX s ak;exact .sl _ _ _ _ _ _ _ _ _ (dv _ _ _ _) (by simp only[Yj];rw[h2.1,bf];exact hle) (by simp only[Yj];rw[bf];exact XS _) ak ak (λk hk=>by cases hk;exact⟨rfl,by simp only[Yj];rw[h2.1,bf];exact XS _⟩) λ_=>rfl
def anz(h:tZ x=aa n)(hr:Rv Z x v)(w:Z0):(Yz v).run P w=.ok n w:=by
 unfold tZ at h;split at h
 .split at h
  .rename_i h0;cases h;cases hr;simp[Yz,h0]
  grind
 .cases h;cases hr;rfl
 .cases h;cases hr;rfl
 .cases h;cases hr;rfl
 .cases h;cases hr with
  |tree=>rfl
  |fL _ a=>rfl
 grind
theorem aGa{es:aj IV}(cD:∀e∈es,(aD e).length=s)(hj:j<s):(es.flatMap aD)[i*s+j]?=(es[i]?).bind λe=>(aD e)[j]? :=by
 induction es generalizing i with
 |nil=>simp
 |cons e es ih=>
  have he:=cD e az;rw[List.flatMap_cons];cases i with
  |zero=>grind
  |succ i=>
   grind
theorem acK{es:aj IV}(cD:∀e∈es,(aD e).length=s):(es.flatMap aD).length=es.length*s:=by
 induction es with
 |nil=>simp
 |cons e es ih=>grind
theorem Kf(hi:Inv N Z G w)(h:jx size n G x=aa cs)(hr:Rv Z x v):
 ∃vs:aj ZQ,(∀w':Z0,w'.heap=w.heap->(Tt size n v).run P w'=.ok vs.toArray w')/\bu Z cs vs:=by
 have lX:∀w':Z0,w'.heap=w.heap->∀a:Addr,w'.cell? a=w.cell? a:=λw' DO a=>by simp only[Ws,DO]
 unfold jx at h;split at h
 .split at h
  .cases h;cases hr;exact⟨[],λw' _=>by simp[Tt],bu.nil⟩
  grind
 .split at h
  .rename_i h0;cases h;cases hr;subst h0;exact⟨[],λw' _=>by simp[Tt,loadCells,loadCellsFrom],bu.nil⟩
  grind
 .rename_i s;split at h
  .cases h;cases hr;refine⟨(s.data.toList.take n).map λb=>.int .u8 b.toNat,λw' _=>?_,bu.of_map λa _=>.raw _⟩;simp only[Tt,VV]
   congr 1
   apply Yw;simp
  grind
 .rename_i id ay len cap ep s;split at h
  .rename_i hc;obtain⟨rfl,hn⟩:=hc;split at h
   .rename_i v7 aV mn bx;split at h
    .rename_i hc;cases h;have⟨l,c,el,hl,Cc,cd,G2,mR,pG⟩:=L7 (hi.obj id _ bx) hc.1 hc.2.1;cases hr with
     |sl _ _ _ _ _ _ l' k a dq hle JJ hs DM mS ha=>
      rw[hl]at dq;cases dq;have hmul:=XX s hn;have Cb:(((c.toList.take l.n).drop ay).take (n*s)).length=n*s:=aI
      have e1:(v7.drop ay).take (n*s)=((v7.take l.n).drop ay).take (n*s):=by
       grind [aKB]
      refine⟨((c.toList.take l.n).drop ay).take (n*s),λw' DO=>?_,?_⟩
      .simp only[Tt];rcases aKb n with h0|h0
       .simp_all[loadCells,loadCellsFrom]
       .have ea:=ha ak
        have aco:EW w l.b ay (((c.toList.take l.n).drop ay).take (n*s)):=by
         have:=aGZ (acm (aHG G2 l.n) ay) (n*s)
         grind
        have:=run_loadCells_list (P:=P) w' ⟨l.b,ay,ah⟩ _ (λj v hj=>by rw[k_,lX w' DO];exact aco j v hj)
        grind
      .rw[e1];exact(pG.drop ay).take _
    grind
   grind
  grind
 .rename_i s es;split at h
  .rename_i hc;obtain⟨rfl,hn⟩:=hc;cases h;cases hr with
   |tree _ _ b ay c us hs hc cD hu hh=>
    have hmul:=XX s hn;have ap5:∀e∈es.take n,(aD e).length=s:=λe he=>cD e (TC he);have bf:((es.take n).flatMap aD).length=n*s:=by rw[acK ap5,PY,UG hn]
    refine⟨(YF (n*s)).map us,λw' DO=>?_,aI,λi x v hx hv=>?_⟩
    .simp only[Tt];rw[run_loadCells (P:=P) w' ⟨b,ay,ah⟩ (n*s) us];intro j hj;rw[k_,lX w' DO];have hm:=hu j ak;unfold ti at hm;cases hb:Z.m b with
     |none=>grind
     |some c=>
      have⟨el,f,hh'⟩:=hi.mem b c hb;rw[cell_of hh']
      grind
    .have aFs:i<n*s:=aI
     have O6:v=us i:=by
      grind
     have hq:=Nat.div_add_mod' i s;have hj:i % s<s:=Nat.mod_lt _ hs;rw[<-hq,aGa ap5 hj]at hx
     grind
   |fL _ a c hs hz=>
    obtain rfl:n=0:=aI;refine⟨[],λw' DO=>?_,az,λi x v hx hv=>aI⟩;cases a<;>simp[Tt,loadCells,loadCellsFrom]
  grind
 grind
def aiG(aQ:Nat):∀(k c:Nat),c<=aQ+(aQ+768)/4->aKd aQ k c<=aQ+(aQ+768)/4
 |0,c,h=>h
 |k+1,c,h=>by
  unfold aKd;split
  .exact h
  .exact aiG aQ k _ ak
def acv{aQ dI:Nat}(h:dI<aQ):Ej aQ dI<=4*aQ+4096:=by
 unfold Ej;split
 .omega
 .split
  .omega
  .have:=aiG aQ 4 dI ak;omega
def Inv.grown(hi:Inv N Z G w)(hN:G.n<N)(hr:bu Z cs vs)(aE:aj ZQ)(el:VK){c:Nat}(hs:0<size)(hm:cs.length=m*size)
 (hc:(vs++aE).length=c*size)(hmc:m<=c):
 let w':Z0:={w with heap:=w.heap.push (.cells (vs++aE).toArray el),drawn:=w.drawn+1}
 ∃br,Rv br (.sl G.n 0 m ah 0 size) (.slice (aa ⟨w.heap.size,0,ah⟩) m c)/\Inv N br (G.add (.cells cs 0 0)) w'/\Le ro Z w G br w' (G.add (.cells cs 0 0)):=by
 intro w';obtain⟨h1,h2⟩:=hi.aag (ro:=ro) hN hr aE el (w':=w') rfl rfl rfl rfl;exact⟨_,.sl _ _ _ _ _ _ _ _ _ (dv _ _ _ _) aI aI hs hmc (λk hk=>by cases hk) λ_=>rfl,h1,h2⟩
def Inv.ap6(hi:Inv N Z G w)(bx:G.at id=aa (.cells cs aV mn))(fP:ro<=id)(hr:bu Z aH ef)
 (hl:Z id aV=aa l)(G2:w.heap[l.b]?=aa (.cells c el (0,0)))(aq:cs.length+ef.length<=c.size):
 let w':=w.setRow l.b (c.toList.take cs.length++ef++c.toList.drop (cs.length+ef.length)).toArray
 let br:=fc Z id (aV+1) ⟨l.b,cs.length+aH.length,l.lim⟩
 Inv N br (G.put id (.cells (cs++aH) (aV+1) mn)) w'/\Le ro Z w G br w' (G.put id (.cells (cs++aH) (aV+1) mn)):=by
 intro w' br;have gp:=hi.obj id _ bx;have⟨⟨vZ,dw⟩,⟨l0,px,pO⟩,cQ⟩:=gp;obtain rfl:l=l0:=by rw[hl]at px;exact Nr px
 have n9:Z id (aV+1)=ah:=dw _ ak;have jE:=qo (l:=⟨l.b,cs.length+aH.length,l.lim⟩) n9
 have mR:l.lim=c.size:=by
  have⟨l2,c2,VN,h1,_,h3,h4,_⟩:=cQ aV vZ (XS _);rw[hl]at h1;cases h1;rw[G2]at h3;cases h3;exact h4
 have DO:w'.heap[l.b]?=aa (.cells (c.toList.take cs.length++ef++c.toList.drop (cs.length+ef.length)).toArray el (0,0)):=setRow_heap w l.b c _ el _ G2;have Cb:=hr.1;refine hi.put bx fP ⟨_,_,hl⟩ jE (λi cg e=>by simp[br,fc,cg]) ?_ (by rw[setRow_size];exact XS _) (λb _ dw=>zN _ _ _ _ ?_) rfl rfl rfl ?_
 .intro b hb;rcases xf hb with hb|⟨_,hb⟩
  .exact .inl hb
  .subst hb;exact .inl ⟨_,_,hl,rfl⟩
 .intro e;subst e;exact dw ⟨_,_,hl,rfl⟩
 .refine⟨⟨ak,λe he=>?_⟩,⟨_,dv _ _ _ _,az⟩,λe he q7=>?_⟩
  .have:e≠aV+1:=ak;simp[br,fc,this,dw e ak]
  .by_cases S6:e=aV+1
   .subst S6;refine⟨_,_,el,dv _ _ _ _,az,DO,eE,λk x hk hx=>?_⟩;have⟨l2,c2,VN,h1,_,h3,_,h5⟩:=cQ aV vZ (XS _);rw[hl]at h1;cases h1;rw[G2]at h3;cases h3;by_cases ub:k<cs.length
    .rw[VJ ub]at hx;have⟨u,hu,nU⟩:=h5 k x ak hx;refine⟨u,?_,nU.mono jE⟩;rw[PH,ZZ,VJ eE,T_,aW ub];simpa using hu
    .rw[Ub ak]at hx;have⟨u,hu,nU⟩:=hr.get hx;have Kg:=(Z5.1 hu).1;refine⟨u,?_,nU.mono jE⟩;rw[PH,VJ eE,Ub eE];simp only[PY,Array.length_toList,UG (show cs.length<=c.size by omega)];exact hu
   .have⟨l2,c2,VN,h1,h2,h3,h4,h5⟩:=cQ e he ak;by_cases O5:l2.b=l.b
    .rw[O5,G2]at h3;cases h3;refine⟨l2,_,el,jE _ _ _ h1,eE,by rw[O5];exact DO,eE,λk x hk hx=>?_⟩;rw[VJ ak]at hx;have⟨u,hu,nU⟩:=h5 k x hk hx;refine⟨u,?_,nU.mono jE⟩;rw[PH,ZZ,VJ eE,T_,aW ak];simpa using hu
    .refine⟨l2,c2,VN,jE _ _ _ h1,eE,by rw[zN _ _ _ _ O5];exact h3,h4,λk x hk hx=>?_⟩;rw[VJ ak]at hx;have⟨u,hu,nU⟩:=h5 k x hk hx;exact⟨u,hu,nU.mono jE⟩
def Inv.anA(hi:Inv N Z G w)(bx:G.at id=aa (.cells cs aV mn))(fP:ro<=id)(aAQ:bu Z cs Gt)(hr:bu Z aH ef)
 (aE:aj ZQ)(el:VK):
 let w':Z0:={w with heap:=w.heap.push (.cells (Gt++ef++aE).toArray el),drawn:=w.drawn+1}
 let br:=fc Z id (aV+1) ⟨w.heap.size,cs.length+aH.length,(Gt++ef++aE).length⟩
 Inv N br (G.put id (.cells (cs++aH) (aV+1) mn)) w'/\Le ro Z w G br w' (G.put id (.cells (cs++aH) (aV+1) mn)):=by
 intro w' br;have gp:=hi.obj id _ bx;have⟨⟨vZ,dw⟩,⟨l0,px,pO⟩,cQ⟩:=gp;have n9:Z id (aV+1)=ah:=dw _ ak;have jE:=qo (l:=⟨w.heap.size,cs.length+aH.length,(Gt++ef++aE).length⟩) n9;have hold:∀b,b<w.heap.size->w'.heap[b]?=w.heap[b]? :=λb hb=>by rw[aJS,aY ak]
 have DO:w'.heap[w.heap.size]?=aa (.cells (Gt++ef++aE).toArray el (0,0)):=by simp[w']
 refine hi.put bx fP ⟨_,_,px⟩ jE (λi cg e=>by simp[br,fc,cg]) ?_ (by simp[w']) (λb hb _=>hold b hb) rfl rfl rfl ?_
 .intro b hb;rcases xf hb with hb|⟨_,hb⟩
  .exact .inl hb
  .subst hb;exact .inr ⟨XS _,by simp[w']⟩
 .refine⟨⟨ak,λe he=>?_⟩,⟨_,dv _ _ _ _,az⟩,λe he q7=>?_⟩
  .have:e≠aV+1:=ak;simp[br,fc,this,dw e ak]
  .by_cases S6:e=aV+1
   .subst S6;refine⟨_,_,el,dv _ _ _ _,az,DO,az,λk x hk hx=>?_⟩;have⟨u,hu,nU⟩:=(aAQ.append hr).get hx;have Kg:=(Z5.1 hu).1;refine⟨u,?_,nU.mono jE⟩;rw[PH,VJ Kg];exact hu
   .have⟨l2,c2,VN,h1,h2,h3,h4,h5⟩:=cQ e he ak;have aq:=hi.iO id _ ⟨_,_,h1,rfl⟩;refine⟨l2,c2,VN,jE _ _ _ h1,eE,by rw[hold _ aq];exact h3,h4,λk x hk hx=>?_⟩;rw[VJ ak]at hx;have⟨u,hu,nU⟩:=h5 k x hk hx;exact⟨u,hu,nU.mono jE⟩
def G3(P:V5)(ro:Nat)(N:Nat)(Z:Io)(w:Z0)(G:St)(s:Sem ZQ)(v:IV)(aB:St):Prop:=
 ∃u w' br,s.run P w=.ok u w'/\Rv br v u/\Inv N br aB w'/\Le ro Z w G br w' aB
def aGr(aQ dI:Nat)(el:VK)(w:Z0):∃c,aQ<=c/\(choose (.appendCap aQ dI el)).run P w=.ok c {w with drawn:=w.drawn+1}:=by
 simp_all[Question.cut,Y3,Wr]
structure G4(P:V5)(bo:VK)(size bytes bV n:Nat)(zero:ZQ):Prop where
 aEP:bD P bo=aa size
 hzero:dW P bo=aa zero
 ap7:(P.info? bo).map (·.bytes)=aa bytes
 s_:size≠0
 hz:zero.cells.size=size
 VL:(4*(bV+n)+4096)*bytes<=2 ^47
 PI:bV+n<=2 ^40
def VS:TypeDesc->Bool
 |.int _=>ab
 |_=>af
def aIL{xd:TypeDesc}(h:∀k,xd≠.int k):VS xd=af:=by cases xd<;>first|rfl|grind
structure AppK(bo:VK)(base:aF Addr)(bV gJ size:Nat)(x:ZQ)where
 big:Bool->Sem ZQ
 rest:Bool->Nat->Sem ZQ
 eq:∀{P:V5}{w:Z0}{argTypes:Array VK}{ty sT xT:VK},argTypes[0]?=aa sT->argTypes[1]?=aa xT->P.underlying sT=aa (.slice bo)->bD P bo=aa size->
  (JT argTypes ty #[.slice base bV gJ,x]).run P w=(do
   let u<-underlying xT
   let z<-pure (VS u)
   if z then big z
   else do
    let n<-Yz x
    rest z n).run P w
def appK(bo:VK)(base:aF Addr)(bV gJ size:Nat)(x:ZQ):AppK bo base bV gJ size x:=by
 apply AppK.mk;intro P w argTypes ty sT xT h0 h1 hu hs;unfold JT;rw[h0,h1]
 show Y3 P (do
  let __x<-underlying sT
  _) w=_
 rw[Z1,cA hu,Rn]
 show Y3 P (do
  let size<-sizeOf bo
  _) w=_
 rw[Z1,ij hs,Rn];rfl
def sV(bo:VK)(lg:Bool)(base:aF Addr)(bV gJ size n:Nat)(x:ZQ):Sem ZQ:=(appK bo base bV gJ size x).rest lg n
def Av(P:V5)(bo:VK)(size n:Nat)(x:ZQ)(ef:aj ZQ)(w:Z0):Bool->Prop
 |af=>(Tt size n x).run P w=.ok ef.toArray w
 |ab=>∃z,dW P bo=aa z/\z.cells.size=size/\size≠0/\ef=(Xp n z.cells.toList).flatten
theorem zeroC{z:ZQ}{size n:Nat}(h:z.cells.size=size)(hs:size≠0):TT z.cells n=((Xp n z.cells.toList).flatten).toArray:=by
 unfold TT;rw[h];have:=H5 z.cells size n h hs;rwa[h]at this
variable{base:aF Addr}{bo:VK}{gJ bytes:Nat}{lg:Bool}{s:Sem ZQ}{x zero:ZQ}
theorem QZ(hle:bV+n<=gJ)(jk:Av P bo size n x ef w lg):
 (sV bo lg base bV gJ size n x).run P w=(match base with
  |some a=>(storeCells (a.add (bV*size)) ef).run P w
  |none=>.ok () w).andThen λ_ w'=>.ok (.slice base (bV+n) gJ) w':=by
 cases lg
 .have hn:(Tt size n x).run P w=_:=jk;simp only[sV,appK,aW hle,Z1];cases base<;>simp[hn]
 have⟨z,h0,h1,h2,h3⟩:=jk;subst h3;simp only[sV,appK,aW hle,Z1];by_cases h4:n=0
 .subst h4;cases base<;>simp
 .cases base<;>simp[oR h0,zeroC h1 h2,h4,h2,Nat.mul_ne_zero h4 h2]
theorem aeK{base:aF Addr}(ha:G4 P bo size bytes bV n zero)(VQ:¬bV+n<=gJ)
 (jk:∀d,Av P bo size n x ef {w with drawn:=d} lg)(hold:∀d,(Tt size bV (.slice base bV gJ)).run P {w with drawn:=d}=.ok Gt.toArray {w with drawn:=d}):
 ∃c aE,bV+n<=c/\aE.length=(c-(bV+n))*size/\
  (sV bo lg base bV gJ size n x).run P w=.ok (.slice (aa ⟨w.heap.size,0,ah⟩) (bV+n) c) {w with heap:=w.heap.push (.cells (Gt++ef++aE).toArray bo),drawn:=w.drawn+1}:=by
 have⟨i,hi,hb,hti⟩:=Kc ha.ap7 w;have aAR:∀w':Z0,(typeInfo bo).run P w'=.ok i w':=λw'=>by simp[typeInfo,hi]
 have⟨c,hc,hch⟩:=aGr (P:=P) (bV+n) gJ bo w;have ho:=hold (w.drawn+1)
 have h1:¬((bV+n:Nat):Int)>QY.max:=by
  have:QY.max=9223372036854775807:=by decide
  have:=ha.PI;omega
 have h2:¬Ej (bV+n) gJ*i.bytes>2 ^48:=by
  have mS:=acv (aQ:=bV+n) (dI:=gJ) ak;have:Ej (bV+n) gJ*i.bytes<=(4*(bV+n)+4096)*i.bytes:=XX _ mS;have:=ha.VL
  grind
 have v8:(zeroValue bo).run P {w with drawn:=w.drawn+1}=.ok zero {w with drawn:=w.drawn+1}:=oR ha.hzero _
 have lh:=zeroC (n:=c-(bV+n)) ha.hz ha.s_;exists c,(Xp (c-(bV+n)) zero.cells.toList).flatten,hc,aJH zero size _ ha.hz;cases lg
 .have hn:(Tt size n x).run P {w with drawn:=w.drawn+1}=_:=jk (w.drawn+1)
  simp only[sV,appK,aY VQ,Z1,aAR,Rn,h1,false_and,if_false,h2,hch,run_askRoom,Bool.not_false,if_true,VV,List.getElem_toArray,List.getElem_cons_zero,List.getElem_cons_succ,ho,hn,v8,lh,newRow,run_newObj];simp
 have⟨z,k0,k1,k2,k3⟩:=jk (w.drawn+1);cases ha.hzero.symm.trans k0;subst k3;have hN:n≠0->n*size≠0:=λh=>Nat.mul_ne_zero h k2;have h5:=zeroC (n:=n) k1 k2;by_cases h4:n=0
 .subst h4;simp only[sV,appK,aY VQ,Z1,aAR,Rn,h1,false_and,if_false,h2,hch,run_askRoom,Bool.not_true,W8,Nat.zero_mul,if_true,VV,List.getElem_toArray,List.getElem_cons_zero,ho,v8,lh,newRow,run_newObj];simp
 .simp only[sV,appK,aY VQ,Z1,aAR,Rn,h1,false_and,if_false,h2,hch,run_askRoom,Bool.not_true,W8,aY (hN h4),VV,List.getElem_toArray,List.getElem_cons_zero,ho,h5,v8,lh,newRow,run_newObj];simp
variable{argTypes:Array VK}{sT ty xT:VK}{vx:ZQ}
theorem aGc{xd:TypeDesc}(h0:argTypes[0]?=aa sT)(h1:argTypes[1]?=aa xT)
 (hu:P.underlying sT=aa (.slice bo))(hx:P.underlying xT=aa xd)(hd:∀k,xd≠.int k)(hs:bD P bo=aa size)(hn:(Yz x).run P w=.ok n w):
 (JT argTypes ty #[.slice base bV gJ,x]).run P w=(sV bo af base bV gJ size n x).run P w:=by
 rw[(appK bo base bV gJ size x).eq h0 h1 hu hs,Z1,cA hx,Rn,aIL hd]
 show Y3 P (do
  let n<-Yz x
  _) w=_
 rw[Z1,hn,Rn];rfl
theorem aGk{k:IntKind}{l:Int}(h0:argTypes[0]?=aa sT)(h1:argTypes[1]?=aa xT)
 (hu:P.underlying sT=aa (.slice bo))(hx:P.underlying xT=aa (.int k))(hs:bD P bo=aa size)(hb:(P.info? bo).map (·.bytes)=aa bytes)(px:0<=l)(x_:l<=1000000)
 (VL:l.toNat*bytes<=2 ^48):
 (JT argTypes ty #[.slice base bV gJ,.int .i64 l]).run P w=(sV bo ab base bV gJ size l.toNat (.int .i64 l)).run P w:=by
 have⟨i,hi,hbi,hti⟩:=Kc hb w;have wl:QY.wrap l=l:=aJk _ ak;have c1:¬l<0:=ak
 have c2:¬l*(i.bytes:Int)>2 ^48:=by
  grind
 rw[(appK bo base bV gJ size _).eq h0 h1 hu hs,Z1,cA hx,Rn]
 show Y3 P (if QY.wrap l<0 then _ else(do
  let t<-typeInfo bo
  if QY.wrap l*(t.bytes:Int)>2 ^48 then _ else _)) w=_
 rw[wl,aY c1,Z1,hti,Rn,aY c2];rfl
variable{x:IV}
def aGF{xd:TypeDesc}(hi:Inv N Z G w)(hs:size≠0)(hz:zero.cells.size=size)(v8:dW P bo=aa zero)
 (h:xE size zero xd G x=aa (n,aH))(hx:Rv Z x vx):
 ∃ef,bu Z aH ef/\(∀d,Av P bo size n vx ef {w with drawn:=d} (VS xd))/\
  ((∃k,xd=.int k/\∃l,vx=.int .i64 l/\0<=l/\l<=1000000/\n=l.toNat)\/((∀k,xd≠.int k)/\(Yz vx).run P w=.ok n w)):=by
 unfold xE at h;split at h
 .rename_i k;split at h
  .rename_i l;split at h
   .rename_i hl;cases h;cases hx;refine⟨_,Ke zero size l.toNat hz hs,λd=>?_,.inl ⟨k,rfl,l,rfl,hl.1,hl.2,rfl⟩⟩;exact⟨_,v8,hz,hs,rfl⟩
   grind
  grind
 .rename_i hd;split at h
  .rename_i n' hn;split at h
   .rename_i cs hc;cases h;have⟨vs,h1,h2⟩:=Kf (P:=P) hi hc hx;refine⟨vs,h2,λd=>?_,.inr ⟨hd,anz hn hx w⟩⟩;rw[aIL hd];exact h1 _ rfl
   grind
  grind
def H6{base:aF Addr}{s v:IV}{aB:St}(hi:Inv N Z G w)
 (ha:G4 P bo size bytes bV n zero)(VQ:¬bV+n<=gJ)(hr:bu Z aH ef)(bf:aH.length=n*size)(jk:∀d,Av P bo size n vx ef {w with drawn:=d} lg)
 (hs:Rv Z s (.slice base bV gJ))(h:iY size bV n aH s G=aa (.val v aB))(hN:aB.n<=N):
 G3 P ro N Z w G (sV bo lg base bV gJ size n vx) v aB:=by
 unfold iY at h;split at h
 .rename_i dI ho;split at h
  .rename_i qE;cases h;have⟨Gt,h1,h2⟩:=Kf (P:=P) hi ho hs;obtain⟨c,aE,hc,py,jU⟩:=aeK (base:=base) ha VQ jk λd=>h1 _ rfl;have s_:=ha.s_
   have⟨br,r1,r2,r3⟩:=hi.grown (ro:=ro) ES (h2.append hr) aE bo (size:=size) (m:=bV+n) (c:=c) ak aI
    (by
     have e1:=h2.1;have e2:=hr.1;simp only[UR,py,<-e1,<-e2,qE,bf];rw[<-W6,<-W6]
     grind) hc
   exact⟨_,_,br,jU,r1,r2,r3⟩
  grind
 grind
def Inv.shrink(hi:Inv N Z G w)(bx:G.at id=aa (.cells cs aV mn))(fP:ro<=id)(hl:Z id aV=aa l)(hk:k<=cs.length):
 Inv N (fc Z id (aV+1) ⟨l.b,k,l.lim⟩) (G.put id (.cells (cs.take k) (aV+1) (aV+1))) w/\Le ro Z w G (fc Z id (aV+1) ⟨l.b,k,l.lim⟩) w (G.put id (.cells (cs.take k) (aV+1) (aV+1))):=by
 have⟨⟨vZ,dw⟩,⟨l0,px,pO⟩,cQ⟩:=hi.obj id _ bx;obtain rfl:l=l0:=aI;have n9:Z id (aV+1)=ah:=dw _ ak;have jE:=qo (l:=⟨l.b,k,l.lim⟩) n9;refine hi.put bx fP ⟨_,_,hl⟩ jE (λi cg e=>by simp[fc,cg]) ?_ (XS _) (λ_ _ _=>rfl) rfl rfl rfl ?_
 .intro b hb;rcases xf hb with hb|⟨_,hb⟩
  .grind
  .subst hb;exact .inl ⟨_,_,hl,rfl⟩
 .refine⟨⟨XS _,λe he=>?_⟩,⟨_,dv _ _ _ _,aI⟩,λe he q7=>?_⟩
  .have:e≠aV+1:=ak;simp[fc,this,dw e ak]
  .have S6:e=aV+1:=ak;subst S6;have⟨l2,c2,VN,h1,_,h3,h4,h5⟩:=cQ aV vZ (XS _);rw[hl]at h1;cases h1;refine⟨_,c2,VN,dv _ _ _ _,aI,h3,h4,λj x hj hx=>?_⟩;simp only at hj;rw[T_,aW hj]at hx;have⟨u,hu,nU⟩:=h5 j x ak hx;exact⟨u,hu,nU.mono jE⟩
variable{st:LoopState}{v:IV}
def aGK{st id aV mn c:Nat}{cs:aj IV}{l:Loc}{a:Addr}(hi:Inv N Z G w)
 (ha:G4 P bo st bytes bV n zero)(hr:bu Z aH ef)(bf:aH.length=n*st)(bM:aH.all aw=ab)(jk:∀d,Av P bo st n vx ef {w with drawn:=d} lg)
 (bx:G.at id=aa (.cells cs aV mn))(fP:ro<=id)(hl:Z id aV=aa l)(hn:0+bV*st<=l.n)(mR:0+c*st<=l.lim)(dc:0<st)(hle:bV<=c)(Kj:0<c->a=⟨l.b,0,ah⟩)
 (DM:bV*st=cs.length)(h0:¬n=0):
 G3 P ro N Z w G (sV bo lg (aa a) bV c st n vx) (.sl id 0 (bV+n) ah (aV+1) st) (G.put id (.cells (cs++aH) (aV+1) mn)):=by
 have hw:({w with drawn:=w.drawn}:Z0)=w:=rfl;have aij:Rv Z (.sl id 0 bV ah aV st) (.slice (aa a) bV c):=.sl _ _ _ _ _ _ l c a hl hn mR dc hle (λk hk=>aI) Kj;have⟨⟨vZ,_⟩,⟨l3,h3,h4⟩,_⟩:=hi.obj id _ bx;rw[hl]at h3;cases h3;by_cases ya:bV+n<=c
 .have⟨l2,cc,el,jL,Q0,aFt,G2,aEQ,_⟩:=L7 (hi.obj id _ bx) vZ (XS _);rw[hl]at jL;cases jL;have hmul:=XX st ya;have Cb:=hr.1;have aq:cs.length+ef.length<=cc.size:=aI;have⟨r1,r2⟩:=hi.ap6 (ro:=ro) bx fP hr hl G2 aq;have VU:=Kj ak;subst VU;refine⟨.slice (aa ⟨l.b,0,ah⟩) (bV+n) c,_,_,?_,?_,r1,r2⟩
  .rw[QZ ya (jk w.drawn),hw];simp only[k_,Yj,DM,xZ (P:=P) G2 aq (H3 hr bM),Rn]
  .exact .sl _ _ _ _ _ _ _ c _ (dv _ _ _ _) aI mR dc ya (λk hk=>by cases hk) λ_=>rfl
 .have JK:jx st bV G (.sl id 0 bV ah aV st)=aa cs:=by
   simp_all[jx]
  have⟨Gt,h5,h6⟩:=Kf (P:=P) hi JK aij;obtain⟨c',aE,sF,py,jU⟩:=aeK (base:=aa a) ha ya jk λd=>h5 _ rfl;have⟨r1,r2⟩:=hi.anA (ro:=ro) bx fP h6 hr aE bo;refine⟨_,_,_,jU,?_,r1,r2⟩;refine .sl _ _ _ _ _ _ _ c' _ (dv _ _ _ _) ?_ ?_ dc sF (λk hk=>aI) λ_=>rfl
  .grind
  .have e1:=h6.1;have e2:=hr.1;simp only[UR,py,<-e1,<-e2,bf,<-DM];rw[<-W6,<-W6]
   grind
def aGG{vs:ZQ}{s v:IV}{aB:St}(hi:Inv N Z G w)
 (ha:G4 P bo size bytes bV n zero)(hr:bu Z aH ef)(bf:aH.length=n*size)(bM:aH.all aw=ab)(jk:∀d,Av P bo size n vx ef {w with drawn:=d} lg)
 (hs:Rv Z s vs)(Kk:tZ s=aa bV)(h:gH ro size bV n aH s G=aa (.val v aB))(hN:aB.n<=N):
 ∃base gJ,vs=.slice base bV gJ/\G3 P ro N Z w G (sV bo lg base bV gJ size n vx) v aB:=by
 have hw:({w with drawn:=w.drawn}:Z0)=w:=rfl;have s_:=ha.s_
 have stay:∀{base:aF Addr} {gJ:Nat},n=0->bV<=gJ->(∃a,base=aa a)\/base=ah->∀{u:IV},Rv Z u (.slice base bV gJ)->
  G3 P ro N Z w G (sV bo lg base bV gJ size n vx) u G:=by
  intro base gJ h0 hle hb u hu;subst h0;have hv:ef=[]:=Kp (by have:=hr.1;omega);subst hv;refine⟨_,w,Z,?_,hu,hi,Le.refl _ _ _ _⟩;rw[QZ ak (jk w.drawn)];cases base<;>simp[storeCells]
 unfold gH at h;split at h
 .split at h
  .rename_i DM;obtain⟨rfl,rfl⟩:=DM;have e0:bV=0:=by simp_all[tZ]
   subst e0;cases hs;exists ah,0,rfl;split at h<;>try exact H6 hi ha ak hr bf jk (.raw _) h hN
   rename_i h0;cases h;exact stay h0 (XS _) (.inr rfl) (.raw _)
  grind
 .have e0:bV=0:=by simp_all[tZ]
  subst e0;cases hs with
  |emp a=>
   exists aa a,0,rfl;split at h<;>try exact H6 hi ha ak hr bf jk (.emp a) h hN
   rename_i h0;cases h;exact stay h0 (XS _) (.inl ⟨a,rfl⟩) (.emp a)
 .rename_i st es;have e0:bV=es.length:=by simp_all[tZ]
  subst e0;split at h
  .rename_i h0;cases h;cases hs with
   |tree _ _ b ay c us dc hc cD hu hh=>exact⟨_,c,rfl,stay h0 hc (.inl ⟨_,rfl⟩) (.tree _ _ b ay c us dc hc cD hu hh)⟩
   |fL _ a c dc hn=>exact⟨a,c,rfl,stay h0 (UT _) (by cases a with|none=>simp|some a=>simp) (.fL _ a c dc hn)⟩
  grind
 .rename_i id ay len cap ep st;have e0:bV=len:=by grind [tZ]
  subst e0;split at h<;>try cases h
  rename_i bI;have bI:=XF bI;subst bI;cases hs with
  |sl _ _ _ _ _ _ l c a hl hn mR dc hle mS Kj=>
   exists aa a,c,rfl;have aij:Rv Z (.sl id ay bV cap ep st) (.slice (aa a) bV c):=.sl _ _ _ _ _ _ l c a hl hn mR dc hle mS Kj;split at h
   .cases h
    grind
   .rename_i h0;split at h
    .rename_i k;have hck:=(mS k rfl).1;subst hck;split at h
     .rename_i ya;split at h
      .rename_i cs aV mn bx;split at h
       .rename_i hc;obtain⟨fP,rfl,ap1⟩:=hc;cases h;have avK:ay+bV*st+aH.length<=cs.length:=aI;have⟨l2,cc,el,jL,G2,aq,r1,r2⟩:=hi.write (ro:=ro) bx fP avK hr;rw[hl]at jL;cases jL
        have Cc:l.n=cs.length:=by
         have⟨_,⟨l3,h3,h4⟩,_⟩:=hi.obj id _ bx
         grind
        have VU:=Kj ak;subst VU;refine⟨.slice (aa ⟨l.b,ay,ah⟩) (bV+n) c,_,Z,?_,?_,r1,r2⟩
        .rw[QZ ya (jk w.drawn),hw];simp only[k_,xZ (P:=P) G2 aq (H3 hr bM),Rn]
        .exact .sl _ _ _ _ _ _ l c _ hl ak mR dc ya mS λ_=>rfl
       grind
      grind
     .rename_i ya;exact H6 hi ha ya hr bf jk aij h hN
    .split at h
     .rename_i cs aV mn bx;split at h
      .rename_i hc;obtain⟨fP,rfl,rfl,DM⟩:=hc;cases h;exact aGK hi ha hr bf bM jk bx fP hl hn mR dc hle Kj DM h0
      .split at h
       .rename_i hc;obtain⟨fP,rfl,rfl,DM⟩:=hc;cases h;have⟨i1,l1⟩:=hi.shrink (ro:=ro) bx fP hl DM;have hx:=l1.ext;have:=aGK (ro:=ro) (id:=id) (aV:=ep+1) (mn:=ep+1) (cs:=cs.take (bV*st)) (l:=⟨l.b,bV*st,l.lim⟩) (a:=a) i1 ha (hr.mono hx) bf bM jk az fP (dv _ _ _ _) az mR dc hle Kj aI h0;have⟨u,w',br,k1,k2,k3,k4⟩:=this;exact⟨u,w',br,k1,k2,k3,Le.trans (λid h1 h2=>by grind [St.xX]) l1 k4⟩
       grind
     grind
 grind
def afk{s:IV}{vs:ZQ}(hi:Inv N Z G w)(hs:Rv Z s vs)(hx:Rv Z x vx)(h:oP P ro argTypes s x G=aa (.val v aB))(hN:aB.n<=N):
 G3 P ro N Z w G (JT argTypes ty #[vs,vx]) v aB:=by
 unfold oP at h;split at h
 .rename_i sT xT h0 h1;split at h
  .rename_i bo xd hu hxd;split at h
   .rename_i size zero bytes cd hz hb;split at h<;>try cases h
    rename_i hc;have dc:=λe=>hc (.inl e);have M4:=XF λe=>hc (.inr e);split at h
    .rename_i n aH bV hna hls;split at h
     .rename_i dj;have⟨bf,bM,VL,PI⟩:=dj;have⟨ef,hr,jk,yb⟩:=aGF hi dc M4 hz hna hx;have ha:G4 P bo size bytes bV n zero:=⟨cd,hz,hb,dc,M4,VL,PI⟩;obtain⟨base,gJ,rfl,u,w',br,jU,g⟩:=aGG hi ha hr bf bM jk hs hls h hN;refine⟨u,w',br,?_,g⟩;rcases yb with⟨k,rfl,l,rfl,px,x_,rfl⟩|⟨hd,hn⟩
      .have O5:l.toNat*bytes<=2 ^48:=by
        grind
       rw[aGk h0 h1 hu hxd cd hb px x_ O5];exact jU
      .rw[aGc h0 h1 hu hxd hd cd hn];rw[aIL hd]at jU;omega
     grind
    grind
   grind
  grind
 grind
def Bd:aF Nat->aF ZQ->Prop
 |none,v=>v=ah
 |some n,v=>∃k i,v=aa (.int k i)/\0<=i/\i.toNat=n
variable{q:aF Nat}
def Q1{x:aF Xs}(h:kR (x.map Y)=aa q)(hr:∀y,x=aa y->Rv Z (Y y) (r y)):Bd q (x.map r):=by
 cases x with
 |none=>simp[kR]at h;subst h;rfl
 |some y=>
  have hy:=hr y rfl;simp only[ZO,kR]at h;split at h
  .grind
  .rename_i k i he;simp only[ZY]at he;split at h
   .rename_i h0;cases h;exact⟨k,i,by simp[i_ he hy],h0,rfl⟩
   grind
  grind
def EY{v:ZQ}{y:Nat}{code:BoundsCode}(h:∃k i,v=.int k i/\0<=i/\i.toNat=n)(hle:n<=y)(w:Z0):(Uq v y code).run P w=.ok n w:=by
 obtain⟨k,i,rfl,h0,h1⟩:=h;have:i<=(y:Int):=ak;simp[Uq,asIntOf,h0,this,h1]
variable{hi lo mx:aF ZQ}{qh ql qm:aF Nat}
def H7{isSlice:Bool}{len:Nat}(hl:Bd ql lo)(hh:Bd qh hi)(hm:Bd qm mx)(JL:¬(qm.isSome=ab/\qh.isSome=af))
 (h1:qm.getD cap<=cap)(h2:∀h,qh=aa h->h<=qm.getD cap)(h3:ql.getD 0<=qh.getD len)(w:Z0):
 (aJ3 isSlice len cap lo hi mx).run P w=.ok (ql.getD 0,qh.getD len,qm.getD cap) w:=by
 have fin:∀(h m:Nat) (code:BoundsCode),ql.getD 0<=h->Y3 P (match lo with
  |some v=>do
   let l<-Uq v h code
   pure (l,h,m)
  |none=>do
   let l<-pure 0
   pure (l,h,m)) w=.ok (ql.getD 0,h,m) w:=by
  intro h m code hle;cases ql with
  |none=>cases hl;rfl
  |some l=>
   obtain⟨k,i,rfl,h0,h1⟩:=hl;simp only[Z1,EY (P:=P) (v:=.int k i) (n:=l) (y:=h) (code:=code) ⟨k,i,rfl,h0,h1⟩ hle w,Rn,VV,Tb]
 unfold aJ3;cases qm with
 |none=>
  cases hm;cases qh with
  |none=>
   cases hh;exact fin len cap _ h3
  |some h=>
   obtain⟨k,i,rfl,h0,h4⟩:=hh;have hb:=EY (P:=P) (v:=.int k i) (n:=h) (y:=cap) (code:=if isSlice then .sliceAcap else .sliceAlen) ⟨k,i,rfl,h0,h4⟩ (h2 h rfl) w;simp only[Z1,VV,Rn,hb];exact fin h cap _ h3
 |some m=>
  obtain⟨km,im,rfl,JM,tq⟩:=hm;have EZ:=EY (P:=P) (v:=.int km im) (n:=m) (y:=cap) (code:=if isSlice then .slice3Acap else .slice3Alen) ⟨km,im,rfl,JM,tq⟩ h1 w;cases qh with
  |none=>grind
  |some h=>
   obtain⟨k,i,rfl,h0,h4⟩:=hh;have hb:=EY (P:=P) (v:=.int k i) (n:=h) (y:=m) (code:=.slice3B) ⟨k,i,rfl,h0,h4⟩ (h2 h rfl) w;simp only[Z1,Rn,EZ,hb];exact fin h m _ h3
variable{a:Act}
def rJ{sz len:Nat}{a:aF Addr}(hu:P.underlying t=aa (.slice bo))(hs:bD P bo=aa sz)
 (hl:Bd ql lo)(hh:Bd qh hi)(hm:Bd qm mx)(JL:¬(qm.isSome=ab/\qh.isSome=af))(h1:qm.getD cap<=cap)(h2:∀h,qh=aa h->h<=qm.getD cap)(h3:ql.getD 0<=qh.getD len)(w:Z0):
 (Za t (.slice a len cap) lo hi mx).run P w=
  .ok (.slice (if qm.getD cap=ql.getD 0 then a else a.map (·.add (ql.getD 0*sz))) (qh.getD len- ql.getD 0) (qm.getD cap- ql.getD 0)) w:=by
 have hb:=H7 (P:=P) (isSlice:=ab) hl hh hm JL h1 h2 h3 w;simp only[Za,Z1,cA hu,Rn,aKY,hb,ij hs,VV]
def extract_eq(s:ByteArray)(l h:Nat):(⟨((s.data.toList.drop l).take (h- l)).toArray⟩:ByteArray)=s.extract l h:=by
 apply aJ2;apply Yw;simp
theorem aik{x:Xs}{lo hi mx:aF Xs}(cX:Inv N Z G w)(hr:Rv Z (Y x) (r x))(yd:∀y,lo=aa y->Rv Z (Y y) (r y))(hhi:∀y,hi=aa y->Rv Z (Y y) (r y))
 (JN:∀y,mx=aa y->Rv Z (Y y) (r y))(ho:o.op=.slice t x lo hi mx)(h:aN P ro Y o G=aa out):ct P ro N Z w G r o out:=by
 unfold aN at h;rw[ho]at h;simp only at h;split at h
 .rename_i v hv;obtain rfl:=bK h
  suffices hs:∃u,(Za t (r x) (lo.map r) (hi.map r) (mx.map r)).run P w=.ok u w/\Rv Z v u by
   have⟨u,h1,h2⟩:=hs;exact ct.same cX (u:=u) (by simp[UP,ho,h1]) h2
  generalize hq:r x=q at hr;generalize hiq:Y x=iq at hr hv;unfold iZ at hv;split at hv
  .rename_i _ _ _ ql qh qm e1 e2 e3;have bl:=Q1 e1 yd;have bh:=Q1 e2 hhi;have bm:=Q1 e3 JN;clear e1 e2 e3;split at hv
   .grind
   .rename_i JL;split at hv
    .rename_i hu;split at hv
     .rename_i s;split at hv
      .rename_i hc;obtain⟨rfl,h1,h2⟩:=hc;cases hv;cases hr;refine⟨.string (s.extract (ql.getD 0) (qh.getD s.size)),?_,by rw[extract_eq];exact .raw _⟩;have hb:=H7 (P:=P) (isSlice:=af) (len:=s.size) (cap:=s.size) (mx:=ah) bl bh (qm:=ah) rfl az (XS _) (λh hh=>aI) h1 w;have vZ:mx.map r=ah:=bm;simp only[Za,Z1,cA hu,Rn,aKY,vZ,Option.isSome_none,W8,if_false,VV,hb]
      grind
     grind
    .rename_i bo hu;split at hv
     .grind
     .rename_i sz cd;split at hv
      .split at hv
       .rename_i hc;have⟨h1,h2,h3⟩:=hc;cases hv;cases hr;have hb:=rJ (P:=P) (a:=ah) (len:=0) (cap:=0) hu cd bl bh bm JL ak (λh hh=>aI) ak w;rw[h1,h2,h3]at hb;exact⟨_,aI,.raw _⟩
       grind
      .split at hv
       .rename_i hc;have⟨h1,h2,h3⟩:=hc;cases hv;cases hr with
        |emp a=>
         have hb:=rJ (P:=P) (a:=aa a) (len:=0) (cap:=0) hu cd bl bh bm JL ak (λh hh=>aI) ak w;rw[h1,h2,h3]at hb;exact⟨_,aI,.emp a⟩
       grind
      .rename_i id ay len cap ep s;split at hv
       .grind
       .rename_i oG;have oG:sz=s:=XF oG;subst oG;cases hr with
        |sl _ _ _ _ _ _ l c a hl hn mR dc hle mS ha=>
         have known:∀m:Nat,qm.getD c=m->m<=c->(ay+m*sz<=l.n)->ql.getD 0<=qh.getD len->qh.getD len<=m->
          aa v=aa (if m=ql.getD 0 then .emp else .sl id (ay+ql.getD 0*sz) (qh.getD len- ql.getD 0) (aa (m- ql.getD 0)) ep sz)->
          ∃u,(Za t (.slice (aa a) len c) (lo.map r) (hi.map r) (mx.map r)).run P w=.ok u w/\Rv Z v u:=by
          intro m e1 e2 e3 e4 e5 e6;have hb:=rJ (P:=P) (a:=aa a) (len:=len) (cap:=c) hu cd bl bh bm JL ak (λh hh=>aI) e4 w;rw[e1]at hb;refine⟨_,hb,?_⟩;by_cases G5:m=ql.getD 0
          .rw[aW G5]at e6;cases e6;rw[aW G5,show qh.getD len- ql.getD 0=0 by omega,show m- ql.getD 0=0 by omega];exact .emp a
          .rw[aY G5]at e6;cases e6;rw[aY G5];have VU:=ha ak;subst VU;simp only[ZO,k_];have tq:ql.getD 0*sz+(m- ql.getD 0)*sz=m*sz:=by rw[<-W6];grind
           have O8:ql.getD 0*sz+(qh.getD len- ql.getD 0)*sz=qh.getD len*sz:=by rw[<-W6];grind
           have hm3:qh.getD len*sz<=m*sz:=XX sz e5;have hm4:m*sz<=c*sz:=XX sz e2;exact .sl _ _ _ _ _ _ l _ _ hl ak ak dc ak (λk hk=>aI) (λ_=>rfl)
         split at hv
         .rename_i _ m;split at hv
          .rename_i hc;have⟨h1,h2,h3⟩:=hc
           have vZ:m<=c/\ay+m*sz<=l.n:=by
            cases cap with
            |none=>
             simp only[P0]at h3;have:m*sz<=len*sz:=XX sz h3;omega
            |some k=>
             simp only[Tb]at h3;obtain⟨hk,q8⟩:=mS k rfl;subst hk;have:m*sz<=c*sz:=XX sz h3;omega
           grind
          grind
         .grind
         .split at hv
          .rename_i hc;have⟨h1,h2⟩:=hc;cases hv;have hb:=rJ (P:=P) (a:=aa a) (len:=len) (cap:=c) hu cd bl bh bm JL (XS _) (λh hh=>aI) h1 w;simp only[P0]at hb;have tq:ql.getD 0*sz+(c- ql.getD 0)*sz=c*sz:=by rw[<-W6];grind
           have O8:ql.getD 0*sz+(qh.getD len- ql.getD 0)*sz=qh.getD len*sz:=by rw[<-W6];grind
           have hm3:=XX sz h2;by_cases kW:c=ql.getD 0
           .rw[aW kW]at hb;exact⟨_,hb,.sl _ _ _ _ _ _ l _ _ hl ak ak dc ak (λk hk=>aI) (λh0=>ak)⟩
           .rw[aY kW]at hb;have VU:=ha ak;subst VU;simp only[ZO,k_]at hb;exact⟨_,hb,.sl _ _ _ _ _ _ l _ _ hl ak ak dc ak (λk hk=>aI) (λ_=>rfl)⟩
          grind
      .rename_i s es;split at hv<;>try grind
       rename_i oG;have oG:=XF oG;subst oG;cases hr with
       |tree _ _ b ay c us dc A8 cD S2 hh=>
        split at hv
        .split at hv
         .rename_i hc;have⟨h1,h2⟩:=hc;cases hv;have hb:=rJ (P:=P) (a:=aa ⟨b,ay,ah⟩) (len:=es.length) (cap:=c) hu cd bl bh bm JL (XS _) (λh hh=>aI) h1 w;have bf:((es.take (qh.getD es.length)).drop (ql.getD 0)).length=qh.getD es.length- ql.getD 0:=aI
          have aFu:∀bb oo,(c≠ql.getD 0->bb=b/\oo=ay+ql.getD 0*sz)->Rv Z (.tree sz ((es.take (qh.getD es.length)).drop (ql.getD 0))) (.slice (aa ⟨bb,oo,ah⟩) (qh.getD es.length- ql.getD 0) (c- ql.getD 0)):=by
           intro bb oo hbo;rw[<-bf];refine .tree _ _ _ _ _ (λk=>us (ql.getD 0*sz+k)) dc ak (λe he=>cD e (TC (List.mem_of_mem_drop he))) (λk hk=>?_) (λi e j x he hx=>?_)
           .rw[bf]at hk;have tq:ql.getD 0*sz+(qh.getD es.length- ql.getD 0)*sz=qh.getD es.length*sz:=by rw[<-W6];grind
            have O8:=XX sz h2
            have cg:c≠ql.getD 0:=by
             grind
            obtain⟨rfl,rfl⟩:=hbo cg
            grind
           grind
          grind [k_]
         grind
        .split at hv
         .rename_i hc;obtain⟨rfl,h1,h2⟩:=hc;cases hv;have hb:=rJ (P:=P) (a:=aa ⟨b,ay,ah⟩) (len:=es.length) (cap:=c) hu cd bl bh bm JL (UT _) (λh hh=>aI) ak w;rw[h1,h2]at hb;exact⟨_,ak,.fL _ _ _ dc az⟩
         grind
       |fL _ a c dc hn=>
        split at hv
        .split at hv
         .rename_i hc;have⟨h1,h2⟩:=hc;cases hv;simp only[YG]at h1 h2;have px:ql.getD 0=0:=ak;have S7:qh.getD 0=0:=ak;have hb:=rJ (P:=P) (a:=a) (len:=0) (cap:=c) hu cd bl bh bm JL (XS _) (λh hh=>aI) ak w;simp only[P0,px,S7]at hb;refine⟨_,hb,?_⟩;simp only[List.take_nil,List.drop_nil]
          exact .fL _ _ _ dc (λhx=>by
           cases a with
           |none=>grind
           |some a=>grind)
         grind
        .split at hv
         .rename_i hc;obtain⟨rfl,h1,h2⟩:=hc;cases hv;have hb:=rJ (P:=P) (a:=a) (len:=0) (cap:=c) hu cd bl bh bm JL (UT _) (λh hh=>aI) ak w;simp only[YG]at h2;rw[h1,h2]at hb;exact⟨_,ak,.fL _ _ _ dc az⟩
         grind
      grind
    .rename_i n bo hu;split at hv
     .rename_i id ay ep ext s hs;split at hv
      .rename_i hc;obtain⟨dc,cg,rfl,h1,h2⟩:=hc;cases hr with
       |ptr _ _ _ _ l hl hx=>
        have hb:=H7 (P:=P) (isSlice:=af) (len:=n) (cap:=n) bl bh bm JL (XS _) (λh hh=>aI) h1 w;simp only[P0]at hb
        have jU:(Za t (.pointer (aa ⟨l.b,ay,ah⟩)) (lo.map r) (hi.map r) (mx.map r)).run P w=
         .ok (.slice (aa (if n=ql.getD 0 then⟨l.b,ay,ah⟩else(⟨l.b,ay,ah⟩:Addr).add (ql.getD 0*s))) (qh.getD n- ql.getD 0) (n- ql.getD 0)) w:=by
         simp only[Za,Z1,cA hu,Rn,Xj,VV,hb,ij hs]
        refine⟨_,jU,?_⟩;split at hv
        .rename_i JO;cases hv;rw[aW JO,show qh.getD n- ql.getD 0=0 by omega,show n- ql.getD 0=0 by omega];exact .emp _
        .rename_i JO;cases hv;rw[aY JO,k_];have tq:ql.getD 0*s+(n- ql.getD 0)*s=n*s:=by rw[<-W6];grind
         have O8:ql.getD 0*s+(qh.getD n- ql.getD 0)*s=qh.getD n*s:=by rw[<-W6];grind
         have hm3:=XX s h2;exact .sl _ _ _ _ _ _ l _ _ hl ak ak ak ak (λk hk=>aI) (λ_=>rfl)
      grind
     grind
    grind
  grind
 grind
variable{b:Builtin}{c:Call}
def aGp(ho:o.op=.call c)(hb:c.callee=.builtin b):
 UP r o=builtin b c.argTypes o.type (c.args.map λ|.const _=>ab|_=>af) (c.args.map r):=by
 simp only[UP,ho,resolve,hb];rfl
def Kl(P:V5)(ro:Nat)(N:Nat)(Z:Io)(w:Z0)(G:St)(s:Sem Next)(out:jK):Prop:=
 ∃v aB,out=.val v aB/\(aB.n<=N->O4 ro N Z w G (s.run P w) v aB)
def Kl.ofV(h:aB.n<=N->G3 P ro N Z w G s v aB):Kl P ro N Z w G (do pure (.value (<-s))) (.val v aB):=by
 refine⟨v,aB,rfl,λhN=>?_⟩;have⟨u,w',br,h1,h2,h3,h4⟩:=h hN;exact⟨u,w',br,.inl jw,h2,h3,h4⟩
def Kl.same(hi:Inv N Z G w)(h:s.run P w=.ok u w)(hr:Rv Z v u):Kl P ro N Z w G (do pure (.value (<-s))) (.val v G):=
 Kl.ofV λ_=>⟨u,w,Z,h,hr,hi,Le.refl _ _ _ _⟩
def L9(h:bu Z [x] vs):∃v,vs=[v]/\Rv Z x v:=by
 obtain⟨v,EU,rfl,h1,h2⟩:=h.A7
 simp_all[h2.of_nil]
def anB{y:IV}(h:bu Z [x,y] vs):∃v u,vs=[v,u]/\Rv Z x v/\Rv Z y u:=by
 obtain⟨v,EU,rfl,h1,h2⟩:=h.A7;obtain⟨u,rfl,h3⟩:=L9 h2
 grind
def anC(hi:Inv N Z G w)(hr:Rv Z x u)(h:s9 P argTypes x G=aa v):∃z,(aKw argTypes ty #[u]).run P w=.ok z w/\Rv Z v z:=by
 unfold s9 at h;cases VW:argTypes[0]? with
 |none=>grind
 |some t=>
  rw[VW,Z8]at h;have e1:(#[u]:Array ZQ)[0]?=aa u:=rfl;unfold aKw;rw[VW,e1];split at h
  .rename_i hu;cases h;cases hr;exact⟨_,by simp only[Z1,cA hu,Rn,VV,goInt],.raw _⟩
  .rename_i hu;cases h;cases hr;exact⟨_,by simp only[Z1,cA hu];rfl,.raw _⟩
  .rename_i hu;cases h;cases hr<;>
   exact⟨_,by simp only[Z1,cA hu]<;>rfl,.raw _⟩
  .rename_i hu;cases h;cases hr;exact⟨_,by simp only[Z1,cA hu,Rn,VV,goInt],.raw _⟩
  .rename_i hu;cases h;cases hr;exact⟨_,by simp only[Z1,cA hu,Rn,VV,goInt],.raw _⟩
  .rename_i hu;cases h;cases hr;exact⟨_,by simp only[Z1,cA hu,Rn,VV,goInt],.raw _⟩
  .rename_i id hu;split at h
   .rename_i es clock bx;cases h;cases hr with
    |map _ l hl=>
     have⟨l',res,dq,hh,he⟩:=hi.obj id _ bx;rw[hl]at dq;cases dq;have:(getObj l.b).run P w=.ok (.map res clock) w:=by simp[getObj,Y3,hh]
     refine⟨.int .i64 res.size,?_,?_⟩
     .simp only[Z1,cA hu,Rn,this,VV,goInt]
     .rw[<-he.1];exact .raw _
   grind
  .rename_i n e hu;cases h;exact⟨.int .i64 n,by simp only[Z1,cA hu];rfl,.raw _⟩
  grind
def anD(hr:Rv Z x u)(h:Zn P argTypes x=aa v):∃z,(aKx argTypes ty #[u]).run P w=.ok z w/\Rv Z v z:=by
 unfold Zn at h;cases VW:argTypes[0]? with
 |none=>grind
 |some t=>
  rw[VW,Z8]at h;have e1:(#[u]:Array ZQ)[0]?=aa u:=rfl;unfold aKx;rw[VW,e1];split at h
  .rename_i c _ _ hu;cases h;cases hr with
   |sl _ _ _ _ _ _ l c' a hl hn mR dc hle mS ha=>
    obtain⟨rfl,_⟩:=mS _ rfl;exact⟨_,by simp only[Z1,cA hu,Rn,VV,goInt],.raw _⟩
  .rename_i hu;cases h;cases hr;exact⟨_,by simp only[Z1,cA hu];rfl,.raw _⟩
  .rename_i hu;cases h;cases hr;exact⟨_,by simp only[Z1,cA hu,Rn,VV,goInt],.raw _⟩
  .rename_i n e hu;cases h;exact⟨.int .i64 n,by simp only[Z1,cA hu];rfl,.raw _⟩
  grind
def dS{b:Nat}{ob:Uc}(h:w.heap[b]?=aa ob)(hc:∀c e f,ob≠.cells c e f):(getObj b).run P w=.ok ob w:=by
 simp only[getObj,Y3,h]
def jl{b:Nat}{ob gO:Uc}(h:w.heap[b]?=aa ob)(hc:∀c e f,ob≠.cells c e f):(setObj b gO).run P w=.ok () {w with heap:=w.heap.setIfInBounds b gO}:=by
 simp only[setObj,Y3,h]
def Inv.zO(hi:Inv N Z G w){gO:Ob}{go:Uc}(bx:G.at id=aa ob)(fP:ro<=id)(hl:Z id 0=aa l)(gp:oQ Z {w with heap:=w.heap.setIfInBounds l.b go} id gO):
 Inv N Z (G.put id gO) {w with heap:=w.heap.setIfInBounds l.b go}/\Le ro Z w G Z {w with heap:=w.heap.setIfInBounds l.b go} (G.put id gO):=by
 refine hi.put bx fP ⟨_,_,hl⟩ (Ext.refl _) (λ_ _ _=>rfl) (λb hb=>.inl hb) az (λb _ dw=>?_) rfl rfl rfl gp;have:=λe=>dw ⟨0,l,hl,e⟩
 grind
def bw{B β:Type}(x:Sem B)(f:B->Sem β):a_ P (x>>=f)=(a_ P x).bind λa=>a_ P (f a):=by
 show a_ P (x.bind f)=_;induction x with
 |pure a=>rfl
 |program k ih=>simp_all[Sem.bind,a_]
 |mark m k ih=>assumption
 |_=>rfl
def qL{B β:Type}{x:Sem B}{f:B->Sem β}{b:β}(h:a_ P (x>>=f)=aa b):∃a,a_ P x=aa a/\a_ P (f a)=aa b:=by
 rw[bw]at h;exact Option.bind_eq_some_iff.1 h
def SameKeys(es bF:aj MapEntry):Prop:=es.length=bF.length/\∀(i:Nat) (e e':MapEntry),es[i]?=aa e->bF[i]?=aa e'->e.key=e'.key
variable{e:aK}{k:ZQ}{kt:VK}{ok:Bool}{x:Xs}
def SameKeys.tail{e e':MapEntry}{es bF:aj MapEntry}(h:SameKeys (e::es) (e'::bF)):e.key=e'.key/\SameKeys es bF:=
 ⟨h.2 0 e e' rfl rfl,by simpa using h.1,λi a b h1 h2=>h.2 (i+1) a b h1 h2⟩
theorem aeA{kind:TypeDesc}:∀{es bF:aj MapEntry} (i:Nat) {q:aF (Nat×ZQ)},SameKeys es bF->Yp kind k es i=aa q->
 (q=ah/\Yp kind k bF i=aa ah)\/(∃j v e',q=aa (j,v)/\i<=j/\bF[j- i]?=aa e'/\Yp kind k bF i=aa (aa (j,e'.val)))
 |[],bF,i,q,hk,h=>by
  cases bF with
  |nil=>simp_all[Yp]
  |cons a b=>have:=hk.1;grind
 |e::es,bF,i,q,hk,h=>by
  cases bF with
  |nil=>have:=hk.1;grind
  |cons e' bF=>
   have⟨h1,h2⟩:=hk.tail;simp only[Yp]at h⊢;rw[h1]at h;split at h
   .grind
   .rcases aeA (i+1) h2 h with⟨h3,h4⟩|⟨j,v,e2,h3,h4,h5,h6⟩
    .grind
    .refine .inr ⟨j,v,e2,h3,ak,?_,h6⟩
     grind
   grind
def aeB{kind:TypeDesc}:∀{es bF:aj MapEntry} (i:Nat),SameKeys es bF->Yp kind k es i=ah->Yp kind k bF i=ah
 |[],bF,i,hk,h=>by contradiction
 |e::es,bF,i,hk,h=>by
  cases bF with
  |nil=>have:=hk.1;grind
  |cons e' bF=>
   have⟨h1,h2⟩:=hk.tail;simp only[Yp]at h⊢;rw[h1]at h;split at h
   .cases h
   .exact aeB (i+1) h2 h
   .rfl
theorem aHO:∀{es bF:aj MapEntry} (i:Nat) {q:aF (Nat×ZQ)},SameKeys es bF->a_ P (Qu kt k es i)=aa q->
 (q=ah/\∀w,(Qu kt k bF i).run P w=.ok ah w)\/(∃j v e',q=aa (j,v)/\i<=j/\bF[j- i]?=aa e'/\∀w,(Qu kt k bF i).run P w=.ok (aa (j,e'.val)) w)
 |[],bF,i,q,hk,h=>by
  cases bF with
  |nil=>cases h;exact .inl ⟨rfl,λw=>rfl⟩
  |cons a b=>have:=hk.1;grind
 |e::es,bF,i,q,hk,h=>by
  cases bF with
  |nil=>have:=hk.1;grind
  |cons e' bF=>
   have⟨h1,h2⟩:=hk.tail;simp only[Qu]at h⊢;rw[h1]at h;have⟨b,hb,h⟩:=qL h;cases b with
   |true=>
    cases h;refine .inr ⟨i,_,e',rfl,XS _,az,λw=>?_⟩;simp only[Z1,ji w _ hb,Rn,if_true,VV]
   |false=>
    rcases aHO (i+1) h2 h with⟨h3,h4⟩|⟨j,v,e2,h3,h4,h5,h6⟩
    .refine .inl ⟨h3,λw=>?_⟩;simp only[Z1,ji w _ hb,Rn,W8,if_false,h4]
    .refine .inr ⟨j,v,e2,h3,ak,?_,λw=>?_⟩
     .grind
     .simp only[Z1,ji w _ hb,Rn,W8,if_false,h6]
def H8{empty:Bool}(he:kZ Z es res)(h:gX P empty kt k es=aa q)(w:Z0):
 (ZC empty 10000 kt k).run P w=.ok () w/\
 ((q=ah/\(YA kt k res.toList).run P w=.ok ah w)\/(∃i e rr,q=aa i/\es[i]?=aa e/\res[i]?=aa rr/\(YA kt k res.toList).run P w=.ok (aa (i,rr.val)) w)):=by
 have hk:SameKeys (es.map λe=>{key:=e.1,val:=ZL,born:=e.2.2}) res.toList:=by
  refine⟨by simp[he.1],λi a b h1 h2=>?_⟩;simp only[Z7,Lq]at h1;obtain⟨e,h1,rfl⟩:=h1;exact(he.2 i e b h1 aI).1.symm
 have fin:∀{q':aF (Nat×ZQ)},a_ P (YA kt k (es.map λe=>{key:=e.1,val:=ZL,born:=e.2.2}))=aa q'->
  (q'=ah/\(YA kt k res.toList).run P w=.ok ah w)\/(∃i v rr,q'=aa (i,v)/\res[i]?=aa rr/\(YA kt k res.toList).run P w=.ok (aa (i,rr.val)) w):=by
  intro q' h;unfold YA at h⊢;have⟨d,hd,h⟩:=qL h;have G6:=ji w _ hd;simp only[Z1,G6,Rn];split at h
  .rename_i q2 O9;cases h;rcases aeA 0 hk O9 with⟨h3,h4⟩|⟨j,v,e2,h3,h4,h5,h6⟩
   all_goals simp_all
  .rename_i O9;rw[aeB 0 hk O9];rcases aHO 0 hk h with⟨h3,h4⟩|⟨j,v,e2,h3,h4,h5,h6⟩
   all_goals grind
 unfold gX at h;split at h
 .rename_i i v hp;cases h;have⟨_,h1,h2⟩:=qL hp;refine⟨ji w _ h1,.inr ?_⟩;rcases fin h2 with⟨h3,_⟩|⟨j,v',rr,h3,h4,h5⟩
  .grind
  .cases h3;have aq:i<es.length:=by have:=(Array.getElem?_eq_some_iff.1 h4).1;have:=he.1;omega
   exact⟨i,es[i],rr,rfl,UN aq,h4,h5⟩
 .rename_i hp;cases h;have⟨_,h1,h2⟩:=qL hp;refine⟨ji w _ h1,.inl ⟨rfl,?_⟩⟩
  grind
 grind
def kZ.nil:kZ Z [] #[]:=⟨rfl,λi e r h=>az⟩
theorem kZ.isEmpty(h:kZ Z es res):es.isEmpty=res.isEmpty:=by
 have:=h.1;rw[Bool.eq_iff_iff,List.isEmpty_iff,Array.isEmpty_iff]
 grind
def afl(hi:Inv N Z G w)(hr:Rv Z (Y x) (r x))(S1:Rv Z (Y ix) (r ix))(ho:o.op=.lookup t x ix ok)(h:aN P ro Y o G=aa out):ct P ro N Z w G r o out:=by
 simp only[aN,ho]at h;split at h
 .rename_i kt bo es key hu q9 ye;have hk:=HY ye S1
  have aAS:∃res,kZ Z es res/\((r x=.map ah/\res= #[])\/∃b clock,r x=.map (aa b)/\w.heap[b]?=aa (.map res clock)):=by
   generalize hq:r x=q at hr;unfold entriesOf at q9;split at q9
   .rename_i hx;rw[hx]at hr;cases q9;cases hr;exact⟨#[],kZ.nil,.inl ⟨rfl,rfl⟩⟩
   .rename_i id hx;rw[hx]at hr;split at q9
    .rename_i bF clock bx;cases q9;cases hr with
     |map _ l hl=>
      have⟨l',res,dq,hh,he⟩:=hi.obj id _ bx
      grind
    grind
   grind
  have⟨res,he,nK⟩:=aAS;split at h
  .rename_i i z VX hz;split at h
   .rename_i e Ko;obtain rfl:=bK h;have⟨hc,hf⟩:=H8 he VX w;rcases hf with⟨hn,_⟩|⟨j,e',rr,hj,h1,h2,h3⟩
    .grind
    .cases hj;rw[Ko]at h1;cases h1;have⟨_,hv,_⟩:=he.2 i e rr Ko h2;refine ct.same hi (u:=if ok then .tuple #[rr.val,.bool ab]else rr.val) ?_ ?_
     .rw[he.isEmpty]at hc;rcases nK with⟨hx,rfl⟩|⟨b,clock,hx,hh⟩
      .grind
      .simp only[UP,ho,aJE,Z1,cA hu,Rn,hx,dS (P:=P) hh az,hk,hc,h3,VV]
     .cases ok
      .grind
      .have:=bu.cons hv (bu.cons (Rv.raw (Z:=Z) (.bool ab)) bu.nil);exact .aU _ _ this.1 this.2
   grind
  .rename_i z VX hz;obtain rfl:=bK h;have⟨hc,hf⟩:=H8 he VX w;rcases hf with⟨_,h3⟩|⟨j,e',rr,hj,h1,h2,h3⟩
   .refine ct.same hi (u:=if ok then .tuple #[z,.bool af]else z) ?_ ?_
    .rw[he.isEmpty]at hc;rcases nK with⟨hx,rfl⟩|⟨b,clock,hx,hh⟩
     .simp only[UP,ho,aJE,Z1,cA hu,Rn,hx,hk,hc,h3,oR hz,VV]
     .simp only[UP,ho,aJE,Z1,cA hu,Rn,hx,dS (P:=P) hh az,hk,hc,h3,oR hz,VV]
    .cases ok
     .exact Rv.lift z
     .have:=bu.cons (Rv.lift (Z:=Z) z) (bu.cons (Rv.raw (Z:=Z) (.bool af)) bu.nil);exact .aU _ _ this.1 this.2
   grind
  grind
 grind
variable{f:MapEntry->MapEntry}{key:ZQ}{k s:IV}{us:aj ZQ}{it:Xs}{av:aj IV}
def kZ.set{e:ZQ×IV×Nat}(h:kZ Z es res)(he:es[i]?=aa e)(hv:Rv Z v u)
 (hf:∀rr,res[i]?=aa rr->f rr={key:=key,val:=u,born:=rr.born}):kZ Z (es.set i (key,v,e.2.2)) (res.modify i f):=by
 refine⟨by simp[h.1],λj a b h1 h2=>?_⟩;rw[List.getElem?_set]at h1;rw[Array.getElem?_modify]at h2;by_cases sG:i=j
 .subst sG;rw[aW rfl]at h1 h2;split at h1
  .cases h1;cases hrr:res[i]? with
   |none=>grind
   |some rr=>
    have⟨_,_,hb⟩:=h.2 i e rr he hrr
    grind
  grind
 .rw[aY sG]at h1 h2;exact h.2 j a b h1 h2
def kZ.push(h:kZ Z es res)(hv:Rv Z v u):kZ Z (es++[(key,v,n)]) (res.push {key:=key,val:=u,born:=n}):=by
 refine⟨by simp[h.1],λj a b h1 h2=>?_⟩;rw[aJS]at h2;by_cases hj:j<es.length
 .rw[VJ hj]at h1;rw[aY (by have:=h.1;omega)]at h2;exact h.2 j a b h1 h2
 .rw[Ub ak]at h1;by_cases DP:j=es.length
  .subst DP;rw[aW h.1]at h2
   grind
  grind
def aah(hi:Inv N Z G w){clock:Nat}(hr:Rv Z (.map id) u)(bx:G.at id=aa (.map es clock)):
 ∃l res,u=.map (aa l.b)/\Z id 0=aa l/\w.heap[l.b]?=aa (.map res clock)/\l.b<w.heap.size/\kZ Z es res:=by
 cases hr with
 |map _ l hl=>
  have⟨l',res,dq,hh,he⟩:=hi.obj id _ bx
  grind
def aHs{clock:Nat}(hl:Z id 0=aa l)(aq:l.b<w.heap.size)(he:kZ Z es res):
 oQ Z {w with heap:=w.heap.setIfInBounds l.b (.map res clock)} id (.map es clock):=⟨l,res,hl,aI,he⟩
def afm{dI aH:ZQ}(h:Xi 10000 dI aH=ab)(w:Z0):(aI0 dI aH).run P w=.ok aH w:=by
 simp_all[aI0]
def afn{m:IV}{um uk uv:ZQ}(hi:Inv N Z G w)(hu:P.underlying t=aa (.map kt bo))(hm:Rv Z m um)(hk:Rv Z k uk)(hv:Rv Z v uv)
 (h:sB P ro kt m k v G=aa aB):∃w',(aJl t um uk uv).run P w=.ok () w'/\Inv N Z aB w'/\Le ro Z w G Z w' aB:=by
 unfold sB at h;split at h
 .rename_i id key ye;have ub:=HY ye hk;subst ub;split at h
  .rename_i es clock bx;obtain⟨l,res,rfl,hl,hh,aq,he⟩:=aah hi hm bx;split at h<;>try cases h
   rename_i fP;have fP:ro<=id:=PE λh=>fP ak;split at h
   .rename_i i VX;split at h
    .rename_i e Ko;split at h
     .cases h;have⟨hc,hf⟩:=H8 he VX w;rcases hf with⟨hn,_⟩|⟨j,e',rr,hj,h1,h2,h3⟩
      .grind
      .cases hj;rw[Ko]at h1;cases h1;have aER:=(he.2 i e rr Ko h2).1;obtain⟨r1,r2⟩:=hi.zO (ro:=ro) bx fP hl (aHs (clock:=clock) hl aq (he.set Ko hv (key:=uk) (f:=λe=>{e with key:=uk,val:=uv}) λrr _=>rfl));refine⟨_,?_,r1,r2⟩
       have bI:(aI0 (((res[i]?).map (·.key)).getD uk) uk).run P w=.ok uk w:=by
        rw[h2];exact afm aI w
       simp only[aJl,Z1,cA hu,Rn,dS (P:=P) hh az,hc,h3,bI,jl (P:=P) hh az]
     grind
    grind
   .rename_i VX;cases h;have⟨hc,hf⟩:=H8 he VX w;rcases hf with⟨_,h3⟩|⟨j,e',rr,hj,h1,h2,h3⟩
    .have⟨r1,r2⟩:=hi.zO (ro:=ro) bx fP hl (aHs (clock:=clock+1) hl aq (he.push hv (key:=uk) (n:=clock)));refine⟨_,?_,r1,r2⟩;simp only[aJl,Z1,cA hu,Rn,dS (P:=P) hh az,hc,h3,jl (P:=P) hh az]
    grind
   grind
  grind
 grind
def aGJ{m k:Xs}(hi:Inv N Z G w)(hm:Rv Z (Y m) (r m))(hk:Rv Z (Y k) (r k))(hx:Rv Z (Y x) (r x))(ho:o.op=.mapUpdate t m k x\/o.op=.insert t m k x)
 (h:aN P ro Y o G=aa out):ct P ro N Z w G r o out:=by
 have h':(match P.underlying t with
  |some (.map kt _)=>match sB P ro kt (Y m) (Y k) (Y x) G with
   |some aB=>ret .undef aB
   |none=>ah
  |_=>ah)=aa out:=by
  unfold aN at h;rcases ho with ho|ho<;>rw[ho]at h<;>exact h
 clear h;split at h'
 .rename_i kt bo hu;split at h'
  .rename_i aB hs;obtain rfl:=bK h';intro hN;have⟨w',h1,h2,h3⟩:=afn (N:=N) hi hu hm hk hx hs;refine⟨ZL,w',Z,.inr ⟨?_,rfl⟩,.raw _,h2,h3⟩;rcases ho with ho|ho<;>simp only[UP,ho,Z1,h1,Rn,VV]
  grind
 grind
def Inv.G7(hi:Inv N Z G w)(hN:G.n<N){go:Uc}{ob:Ob}(gp:oQ (fc Z G.n 0 ⟨w.heap.size,1,1⟩) {w with heap:=w.heap.push go} G.n ob):
 Inv N (fc Z G.n 0 ⟨w.heap.size,1,1⟩) (G.add ob) {w with heap:=w.heap.push go}/\Le ro Z w G (fc Z G.n 0 ⟨w.heap.size,1,1⟩) {w with heap:=w.heap.push go} (G.add ob):=
 hi.add hN rfl rfl rfl rfl rfl gp
def ail(hi:Inv N Z G w)(hr:Rv Z (Y x) (r x))(ho:o.op=.range t x)(h:aN P ro Y o G=aa out):ct P ro N Z w G r o out:=by
 simp only[aN,ho]at h;have rv:∀(br:Io) (n b:Nat),Rv (fc br n 0 ⟨b,1,1⟩) (.ptr n 0 0 1) (.pointer (aa ⟨b,0,ah⟩)):=λbr n b=>.ptr _ _ _ _ _ (dv _ _ _ _) az;split at h
 .rename_i s hu hx;have e:=i_ hx hr;obtain rfl:=bK h;intro hN;have⟨h1,h2⟩:=hi.G7 (ro:=ro) (go:=.stringIter s 0) (ob:=.uW s 0) ES ⟨_,dv _ _ _ _,az⟩;exact⟨_,_,_,.inl (by simp only[UP,ho,aJN,Z1,cA hu,Rn,e,VV,run_newObj]),rv _ _ _,h1,h2⟩
 .rename_i k e' hu hx;have e:=i_ hx hr;obtain rfl:=bK h;intro hN;obtain⟨h1,h2⟩:=hi.G7 (ro:=ro) (go:=.mapIter ah 0 #[] 0) (ob:=.na ah 0 [] 0) ES ⟨_,ah,dv _ _ _ _,az,rfl⟩;exact⟨_,_,_,.inl (by simp only[UP,ho,aJN,Z1,cA hu,Rn,e,VV,run_newObj]),rv _ _ _,h1,h2⟩
 .rename_i k e' m hu hx;rw[hx]at hr;split at h
  .rename_i es clock bx;have⟨l,res,hum,hl,hh,aq,he⟩:=aah hi hr bx;obtain rfl:=bK h;intro hN;have cg:=hi.fresh _ (XS _) ES 0
   obtain⟨h1,h2⟩:=hi.G7 (ro:=ro) (go:=.mapIter (aa l.b) clock #[] clock) (ob:=.na (aa m) clock [] clock) ES
    ⟨_,aa l.b,dv _ _ _ _,az,l,qo cg _ _ _ hl,rfl⟩
   exact⟨_,_,_,.inl (by simp only[UP,ho,aJN,Z1,cA hu,Rn,hum,dS (P:=P) hh az,VV,run_newObj]),rv _ _ _,h1,h2⟩
  grind
 grind
def uZ{vs:aj IV}(h:bu Z vs us):Rv Z (.aU vs) (.tuple us.toArray):=.aU _ _ h.1 h.2
theorem anE{str:Bool}(hi:Inv N Z G w)(hr:Rv Z (Y it) (r it))(ho:o.op=.next it str)(h:aN P ro Y o G=aa out):ct P ro N Z w G r o out:=by
 simp only[aN,ho]at h;split at h
 .rename_i id hx;rw[hx]at hr;split at h<;>try cases h
  rename_i fP;have fP:ro<=id:=PE λh=>fP ak;generalize hq:r it=q at hr;cases hr with
  |ptr _ _ _ _ l hl hle=>
   have aq:=hi.iO id _ ⟨_,_,hl,rfl⟩;split at h
   .rename_i s pos bx;have⟨l',dq,hh⟩:=hi.obj id _ bx;rw[hl]at dq;cases dq;split at h
    .rename_i s_;obtain rfl:=bK h;intro hN;have⟨r1,r2⟩:=hi.zO (ro:=ro) (gO:=.uW s (pos+(Nf s pos).2)) (go:=.stringIter s (pos+(Nf s pos).2)) bx fP hl ⟨l,hl,aI⟩;refine⟨.tuple #[.bool ab,.int .i64 pos,.int .i32 (Nf s pos).1],_,Z,.inl ?_,?_,r1,r2⟩
     .simp only[UP,ho,X2,hq,Z1,dS (P:=P) hh az,Rn,s_,if_true,jl (P:=P) hh az,VV,goInt]
     .exact uZ (bu.cons (.raw _) (bu.cons (.raw _) (bu.cons (.raw _) bu.nil)))
    .rename_i s_;obtain rfl:=bK h;refine ct.same hi (u:=.tuple #[.bool af]) ?_ (uZ (bu.cons (.raw _) bu.nil));simp only[UP,ho,X2,hq,Z1,dS (P:=P) hh az,Rn,s_,if_false,VV]
   .rename_i a b c bx;have⟨l',mr,dq,hh,hm⟩:=hi.obj id _ bx;rw[hl]at dq;cases dq;subst hm;obtain rfl:=bK h;refine ct.same hi (u:=.tuple #[.bool af]) ?_ (uZ (bu.cons (.raw _) bu.nil));simp only[UP,ho,X2,hq,Z1,dS (P:=P) hh az,Rn,VV]
   .rename_i m since seen last bx;have⟨l',mr,dq,hh,hm⟩:=hi.obj id _ bx;rw[hl]at dq;cases dq;obtain⟨lm,DQ,rfl⟩:=hm;split at h
    .rename_i es clock VY;have⟨lm',res,Kq,M5,he⟩:=hi.obj m _ VY;rw[DQ]at Kq;cases Kq
     have over:∀{ap8:Array (aF MapEntry)},ap8= #[ah]->(choose (.mapNext ap8.size)).run P w=.ok 0 w:=by
      simp_all[Y3,Wr]
     split at h
     .have hre:res= #[]:=aIi (by have:=he.1;grind);subst hre;obtain rfl:=bK h;refine ct.same hi (u:=.tuple #[.bool af]) ?_ (uZ (bu.cons (.raw _) bu.nil));simp[UP,ho,X2,hq,dS (P:=P) hh az,dS (P:=P) M5 az,Y3,Wr]
     .rename_i e;have cd:res.size=1:=by have:=he.1;grind
      obtain⟨rr,rfl⟩:∃rr,res= #[rr]:=by
       refine⟨res[0],?_⟩
       grind
      obtain⟨hk,hv,hb⟩:=he.2 0 e rr rfl rfl;split at h
      .split at h
       .obtain rfl:=bK h;refine ct.same hi (u:=.tuple #[.bool af]) ?_ (uZ (bu.cons (.raw _) bu.nil));have aAT:rr.born∈seen:=aI;have VZ:¬last<=rr.born:=ak;have aim:Array.filter (λe=> !seen.toArray.contains e.born) #[rr]= #[]:=aI;simp[UP,ho,X2,hq,dS (P:=P) hh az,dS (P:=P) M5 az,Y3,Wr,aAT,VZ]
       grind
      .split at h
       .rename_i hc;obtain⟨dz,rfl⟩:=hc;obtain rfl:=bK h;intro hN;have dL:rr.born<since:=ak;obtain⟨r1,r2⟩:=hi.zO (ro:=ro) (gO:=.na (aa m) since [e.2.2] clock) (go:=.mapIter (aa lm.b) since #[rr.born] clock) bx fP hl ⟨l,aa lm.b,hl,aI,lm,DQ,rfl⟩;refine⟨.tuple #[.bool ab,rr.key,rr.val],_,Z,.inl ?_,?_,r1,r2⟩
        .have fD:¬since<=rr.born:=ak;simp[UP,ho,X2,hq,dS (P:=P) hh az,dS (P:=P) M5 az,Y3,Wr,dL,fD,jl (P:=P) hh az]
        .rw[<-hk];exact uZ (bu.cons (.raw _) (bu.cons (Rv.lift _) (bu.cons hv bu.nil)))
       grind
     grind
    grind
   grind
 grind
def ain(hi:Inv N Z G w)(hr:Rv Z (Y it) (r it))(ho:o.op=.entry it)(h:aN P ro Y o G=aa out):ct P ro N Z w G r o out:=by
 simp only[aN,ho]at h;split at h<;>try cases h
 rename_i id hx;rw[hx]at hr;generalize hq:r it=q at hr;cases hr with
 |ptr _ _ _ _ l hl hle=>
  split at h<;>try cases h
  rename_i m since seen Dt bx;have⟨l',mr,dq,hh,hm⟩:=hi.obj id _ bx;rw[hl]at dq;cases dq;obtain⟨lm,DQ,rfl⟩:=hm;split at h<;>try cases h
  rename_i es clock L5 VY rU;have⟨lm',res,Kq,M5,he⟩:=hi.obj m _ VY;rw[DQ]at Kq;cases Kq;split at h<;>try cases h
  rename_i cD;split at h
  .rename_i e hfe;obtain rfl:=bK h
   have key:∀(es:aj (ZQ×IV×Nat)) (rs:aj MapEntry),es.length=rs.length->(∀(j:Nat) (e:ZQ×IV×Nat) (rr:MapEntry),es[j]?=aa e->rs[j]?=aa rr->rr.key=e.1/\Rv Z e.2.1 rr.val/\rr.born=e.2.2)->
    es.find? (λe=>e.2.2==L5)=aa e->∃rr,rs.find? (λe=>e.born==L5)=aa rr/\rr.key=e.1/\Rv Z e.2.1 rr.val:=by
    intro es;induction es with
    |nil=>intro rs _ _ hf;simp at hf
    |cons a es ih=>
     intro rs hl hb hf;cases rs with
     |nil=>simp at hl
     |cons rr rs=>
      obtain⟨h1,h2,h3⟩:=hb 0 a rr rfl rfl;rw[List.find?_cons]at hf⊢;rw[h3];split at hf<;>try exact ih rs (by simpa using hl) (λk x y h1 h2=>hb (k+1) x y h1 h2) hf
      cases hf;exact⟨rr,rfl,h1,h2⟩
   have⟨rr,hf,hk,hv⟩:=key es res.toList (by simpa using he.1) (λj e rr h1 h2=>he.2 j e rr h1 (by simpa using h2)) hfe;have hf':res.find? (λe=>e.born==L5)=aa rr:=by rw[<-hf,<-Array.find?_toList]
   have VZ:seen.toArray.back?=aa L5:=by rw[<-rU];simp
   refine ct.same hi (u:=.tuple #[rr.key,rr.val]) ?_ (by rw[<-hk];exact uZ (bu.cons (Rv.lift _) (bu.cons hv bu.nil)));subst cD;simp[UP,ho,Instr.entry,hq,dS (P:=P) hh az,dS (P:=P) M5 az,VZ,hf']
  .cases h
def ap9(hr:bu Z av us)(h:QW P av=aa v):∃z,(aKv argTypes ty us.toArray).run P w=.ok z w/\Rv Z v z:=by
 unfold QW at h;split at h
 .rename_i vs hv;rw[<-Gr hv hr]at h;rw[Lq]at h;obtain⟨z,hz,rfl⟩:=h;exact⟨z,ji w _ hz,Rv.lift z⟩
 grind
variable{x:IV}{l:Nat}
theorem aHj(h:oP P ro argTypes s x G=aa out):∃v aB,out=.val v aB:=by
 have hn:∀{size bV n:Nat} {aH:aj IV} {s:IV},iY size bV n aH s G=aa out->∃v aB,out=.val v aB:=by
  intro size bV n aH s h;unfold iY at h;split at h
  .split at h
   .exact⟨_,_,bK h⟩
   grind
  grind
 unfold oP at h;split at h
 .split at h
  .split at h
   .split at h<;>try cases h
    split at h
    .split at h
     .unfold gH at h
      repeat' split at h
      all_goals first|exact⟨_,_,bK h⟩|grind|cases h
     grind
    grind
   grind
  grind
 grind
def ct.ofB(ho:o.op=.call c)(hb:c.callee=.builtin b)(vC:c.args.map r=us.toArray)(h:Kl P ro N Z w G (builtin b c.argTypes o.type (c.args.map λ|.const _=>ab|_=>af) us.toArray) out):
 ct P ro N Z w G r o out:=by
 obtain⟨v,aB,rfl,h⟩:=h;intro hN;rw[aGp ho hb,vC]
 grind
def acx{cs:Array Bool}(hi:Inv N Z G w)(hr:bu Z av us)(h:gI P ro b argTypes av G=aa out):
 Kl P ro N Z w G (builtin b argTypes ty cs us.toArray) out:=by
 unfold gI at h;split at h
 .split at h
  .obtain⟨v,u,rfl,h1,h2⟩:=anB hr;obtain⟨v',aB,rfl⟩:=aHj h;exact Kl.ofV λhN=>afk hi h1 h2 h hN
  grind
 .split at h
  .obtain⟨v,rfl,h1⟩:=L9 hr;rw[Lq]at h;obtain⟨z,hz,rfl⟩:=h;have⟨u,hu,nU⟩:=anC (ty:=ty) hi h1 hz;exact Kl.same hi hu nU
  grind
 .split at h
  .obtain⟨v,rfl,h1⟩:=L9 hr;rw[Lq]at h;obtain⟨z,hz,rfl⟩:=h;have⟨u,hu,nU⟩:=anD (ty:=ty) (w:=w) h1 hz;exact Kl.same hi hu nU
  grind
 .rw[Lq]at h;obtain⟨z,hz,rfl⟩:=h;have⟨u,hu,nU⟩:=ap9 (argTypes:=argTypes) (ty:=ty) (w:=w) hr hz;exact Kl.same hi hu nU
 grind
def L_{l:Array Xs}(h:∀x,Rv Z (Y x) (r x)):bu Z (l.toList.map Y) (l.toList.map r):=bu.of_map λx _=>h x
variable{f:V4}{ts:Array ZQ}
def Gu{fn:Func}{us:Array ZQ}(h:P.funcs[f]?=aa fn)(hb:(fn.body.isSome&&fn.name != "runtime.NumGoroutine")=ab):(callFunc f us).run P w=.ok (.enter f us) w:=by
 have h2:fn.body≠ah:=aI
 simp_all[callFunc]
def E4{v:ZQ}(hx:Rv Z x v)(hr:bu Z av us)(h:kA P x av=aa out):
 ∃d,(aI3 v us.toArray).run P w=.ok d w/\((∃f as vs,out=.enter f as/\(invoke d.target d.args).run P w=.ok (.enter f vs.toArray) w/\bu Z as vs/\H2 Z (.call f as) d)\/
  (∃id l,out=.round id av/\Z id 0=aa l/\d.target=.fn (.yield l.b) #[]/\d.args=us.toArray)):=by
 unfold kA at h;split at h
 .rename_i f first cap
  cases hx with
  |fn _ _ _ cs ds hl h1 jL h2=>
   split at h
   .rename_i fn dX;split at h
    .rename_i hb;cases h;have fk:=(bu.append ⟨hl,h1⟩ hr).append ⟨jL,h2⟩;refine⟨{target:=.fn (.func f) ds.toArray,args:=cs.toArray++us.toArray},rfl,.inl ⟨f,_,_,rfl,?_,fk,ds,cs++us,_,az,fk,rfl⟩⟩;simp only[invoke];rw[Gu dX hb];simp
    grind
   grind
 .rename_i f a b;cases hx;split at h
  .rename_i he;obtain⟨rfl,rfl⟩:a= #[]/\b= #[]:=⟨aIi he.1,aIi he.2⟩;split at h
   .rename_i fn dX;split at h
    .rename_i hb;cases h;refine⟨{target:=.fn (.func f) #[],args:=us.toArray},by simp[aI3],.inl ⟨f,_,us,rfl,?_,hr,[],us,us,az,hr,az⟩⟩;simp only[invoke];rw[Gu dX hb];simp
    grind
   grind
  grind
 .cases hx with
  |vA _ l hl=>
   cases h
   simp_all[aI3]
 grind
def anF(hi:Inv N Z G w)(hr:∀x,Rv Z (Y x) (r x))(ho:o.op=.call c)(h:aN P ro Y o G=aa out):ct P ro N Z w G r o out:=by
 simp only[aN,ho]at h;(try dsimp only at h);have vC:c.args.map r=(c.args.toList.map r).toArray:=by apply Yw;rw[aKe]
 split at h
 .rename_i b hb;exact ct.ofB ho hb vC (acx hi (L_ hr) h)
 .rename_i f hf;have⟨d,hd,h⟩:=E4 (w:=w) (hr f) (L_ hr) h
  have e:(UP r o).run P w=(invoke d.target d.args).run P w:=by
   simp only[UP,ho,resolve,hf,vC,Z1,hd,Rn]
  rcases h with⟨f',as,vs,rfl,h1,h2,_⟩|⟨id,l,rfl,h1,h2,h3⟩
  .exact⟨vs,by rw[e,h1],h2⟩
  .exact⟨l,_,h1,by rw[e,h2,h3];rfl,L_ hr⟩
 .cases h
def aio(hr:∀x,Rv Z (Y x) (r x))(ho:o.op=.defer c)(h:aN P ro Y o G=aa out):ct P ro N Z w G r o out:=by
 simp only[aN,ho]at h;(try dsimp only at h);have vC:c.args.map r=(c.args.toList.map r).toArray:=by apply Yw;rw[aKe]
 split at h<;>try cases h
 rename_i f hf;split at h
 .rename_i f' av hc;cases h;have⟨d,hd,h⟩:=E4 (w:=w) (hr f) (L_ hr) hc;rcases h with⟨f',as,vs,he,_,_,h3⟩|⟨id,l,he,_⟩
  .cases he;exact⟨d,by simp only[UP,ho,resolve,hf,vC,Z1,hd,Rn,VV],h3,c,ho⟩
  .cases he
 .cases h
def aip{x:Xs}(hr:Rv Z (Y x) (r x))(ho:o.op=.panic x)(h:aN P ro Y o G=aa out):ct P ro N Z w G r o out:=by
 simp only[aN,ho]at h;split at h
 .rename_i t v hx;cases h;rw[hx]at hr;generalize hq:r x=q at hr;have tn:=hr;cases hr with
  |eT _ _ u hu=>
   refine⟨_,?_,tn⟩
   simp_all[UP,Instr.panic]
 grind
def aGD{x:Xs}{xt asserted:VK}(hi:Inv N Z G w)(hr:Rv Z (Y x) (r x))(ho:o.op=.typeAssert x xt asserted ok)(h:aN P ro Y o G=aa out):ct P ro N Z w G r o out:=by
 simp only[aN,ho]at h;split at h
 .cases h
 .rename_i d z hni hu hz
  have hd:∀{B:Type} (k1:Array (String×VK)->B) (k2:B),(match d with|.interface want=>k1 want|_=>k2)=k2:=by
   simp
  split at h
  .rename_i t v hx;rw[hx]at hr;generalize hq:r x=q at hr;cases hr with
   |eT _ _ u nU=>
    split at h
    .have XW:t=asserted:=jw;obtain rfl:=bK h;cases ok with
     |true=>
      refine ct.same hi (u:=.tuple #[u,.bool ab]) ?_ ?_
      .cases d<;>first
        |grind
        |simp[UP,ho,Wl,hq,cA hu,XW]
      .have:=bu.cons nU (bu.cons (Rv.raw (Z:=Z) (.bool ab)) bu.nil);exact uZ this
     |false=>
      refine ct.same hi (u:=u) ?_ nU
      cases d<;>first
       |grind
       |simp[UP,ho,Wl,hq,cA hu,XW]
    .have XW:¬t=asserted:=jw;split at h
     .rename_i bM;subst bM;obtain rfl:=bK h;refine ct.same hi (u:=.tuple #[z,.bool af]) ?_ ?_
      .cases d<;>first
        |grind
        |simp[UP,ho,Wl,hq,cA hu,XW,oR hz]
      .have:=bu.cons (Rv.lift (Z:=Z) z) (bu.cons (Rv.raw (Z:=Z) (.bool af)) bu.nil);exact uZ this
     grind
  .rename_i hx;have e:=i_ hx hr;split at h
   .rename_i bM;subst bM;obtain rfl:=bK h;refine ct.same hi (u:=.tuple #[z,.bool af]) ?_ ?_
    .cases d<;>first
      |grind
      |simp[UP,ho,Wl,e,cA hu,oR hz]
    .have:=bu.cons (Rv.lift (Z:=Z) z) (bu.cons (Rv.raw (Z:=Z) (.bool af)) bu.nil);exact uZ this
   grind
  grind
 grind
def tx(hi:Inv N Z G w)(hr:∀x,Rv Z (Y x) (r x))(h:aN P ro Y o G=aa out):ct P ro N Z w G r o out:=by
 cases ho:o.op with
 |move x=>simp only[aN,ho]at h;obtain rfl:=bK h;exact aaf hi (hr _) (.inl ho)
 |assign x=>simp only[aN,ho]at h;obtain rfl:=bK h;exact aaf hi (hr _) (.inr ho)
 |pick c a b=>exact anw hi (hr _) (hr _) (hr _) ho h
 |alloc t=>exact aic hi ho h
 |box t x=>exact ap0 hi (hr _) ho h
 |build t parts=>exact aii hi (λx _=>hr x) ho h
 |buildSlice t len parts=>exact aFV hi (λx _=>hr x) ho h
 |load t a=>exact anx hi (hr _) ho h
 |store t a x=>exact aid hi (hr _) (hr _) ho h
 |nilCheck x=>exact aF0 hi (hr _) ho h
 |binOp op t x y yT=>exact ap2 hi (hr _) (hr _) ho h
 |unOp op t x=>exact avJ hi (hr _) ho h
 |convert s t x=>exact acp hi (hr _) ho h
 |makeInterface t x=>exact aGQ hi (hr _) ho h
 |makeFunc f a b=>exact aGx hi (λx _=>hr x) ho h
 |makeMap t x=>exact acr hi (λx _=>hr x) ho h
 |makeSlice t l c=>exact aFZ hi (hr _) (hr _) ho h
 |slice t x lo cX mx=>exact aik hi (hr _) (λx _=>hr x) (λx _=>hr x) (λx _=>hr x) ho h
 |fieldAddr s x f=>exact aGh hi (hr _) ho h
 |field t x f=>exact aif hi (hr _) ho h
 |indexAddr t x ix=>exact acs hi (hr _) (hr _) ho h
 |index t x ix=>exact aih hi (hr _) (hr _) ho h
 |lookup t x ix ok=>exact afl hi (hr _) (hr _) ho h
 |mapUpdate t m k x=>exact aGJ hi (hr _) (hr _) (hr _) (.inl ho) h
 |insert t m k x=>exact aGJ hi (hr _) (hr _) (hr _) (.inr ho) h
 |mapEntry=>simp_all[aN]
 |entryStore=>simp_all[aN]
 |range t x=>exact ail hi (hr _) ho h
 |next it s=>exact anE hi (hr _) ho h
 |entry it=>exact ain hi (hr _) ho h
 |extract t i=>exact acq hi (hr _) ho h
 |call c=>exact anF hi hr ho h
 |defer c=>exact aio hr ho h
 |panic x=>exact aip (hr _) ho h
 |typeAssert x xt t ok=>exact aGD hi (hr _) ho h
 |_=>simp_all[aN]
def Grown(G:St):jK->Prop
 |.val _ aB=>G.n<=aB.n
 |_=>True
def xH(hle:G.n<=aB.n)(h:ret v aB=aa out):Grown G out:=by rw[bK h];exact hle
def aI4(h:ret v G=aa out):Grown G out:=xH (XS G.n) h
def ad4(h:ret v (G.put id ob)=aa out):Grown G out:=xH (aB:=G.put id ob) (XS G.n) h
def adE(h:ret v (G.add ob)=aa out):Grown G out:=xH (Nat.le_succ _) h
def acX{m:IV}(h:sB P ro kt m k v G=aa aB):aB.n=G.n:=by
 unfold sB at h
 repeat' split at h
 all_goals first|grind|(cases h;rfl)
def adN{f:IV}(h:kA P f av=aa out):Grown G out:=by
 unfold kA at h
 repeat' split at h
 all_goals first|grind|(cases h;exact trivial)
def adC(h:oP P ro argTypes s x G=aa out):Grown G out:=by
 have hn:∀{size bV n:Nat} {aH:aj IV} {s:IV},iY size bV n aH s G=aa out->Grown G out:=by
  intro size bV n aH s h;unfold iY at h;split at h
  .split at h
   .exact adE h
   grind
  grind
 unfold oP at h;split at h
 .split at h
  .split at h
   .split at h<;>try cases h
    split at h
    .split at h
     .unfold gH at h
      repeat' split at h
      all_goals first|exact aI4 h|exact ad4 h|exact xH az h|grind|cases h
     grind
    grind
   grind
  grind
 grind
def apL(h:gI P ro b argTypes av G=aa out):Grown G out:=by
 unfold gI at h;split at h
 .split at h
  .exact adC h
  grind
 .split at h
  .rw[Lq]at h;obtain⟨z,hz,rfl⟩:=h;exact XS _
  grind
 .split at h
  .rw[Lq]at h;obtain⟨z,hz,rfl⟩:=h;exact XS _
  grind
 .rw[Lq]at h;obtain⟨z,hz,rfl⟩:=h;exact XS _
 grind
def oS(h:aN P ro Y o G=aa out):Grown G out:=by
 unfold aN at h;cases ho:o.op<;>rw[ho]at h<;>(try dsimp only at h)
 case call c=>
  split at h
  .exact apL h
  .exact adN h
  grind
 case defer c=>
  split at h
  .split at h
   .cases h;exact trivial
   grind
  grind
 case mapUpdate=>
  split at h
  .split at h
   .rename_i aB hs;exact xH (aK5 (acX hs).symm) h
   grind
  grind
 case insert=>
  split at h
  .split at h
   .rename_i aB hs;exact xH (aK5 (acX hs).symm) h
   grind
  grind
 all_goals (repeat' split at h)
 all_goals first|exact aI4 h|exact ad4 h|exact adE h|grind|(cases h;exact trivial)
def eg(Z:Io)(e:aK)(ts:Array ZQ):Prop:=e.n=ts.size/\∀t,Rv Z (e.at t) (ts.getD t ZL)
def oH(Z:Io):aj Df->aj Deferred->Prop
 |[],[]=>True
 |d::ds,x::xs=>H2 Z d x/\oH Z ds xs
 |_,_=>False
def eg.mono(kV:Ext Z br)(h:eg Z e ts):eg br e ts:=⟨h.1,λt=>(h.2 t).mono kV⟩
def H2.mono(kV:Ext Z br){d:Df}{x:Deferred}(h:H2 Z d x):H2 br d x:=by
 cases d with
 |zK id=>have⟨l,h1,h2⟩:=h;exact⟨l,kV _ _ _ h1,h2⟩
 |call f as=>have⟨cap,us,vs,h1,h2,h3⟩:=h;exact⟨cap,us,vs,h1,h2.mono kV,h3⟩
def oH.mono(kV:Ext Z br):∀{ds:aj Df} {xs:aj Deferred},oH Z ds xs->oH br ds xs
 |[],[],_=>trivial
 |_::_,_::_,h=>⟨H2.mono kV h.1,oH.mono kV h.2⟩
 |[],_::_,h=>h.elim
 |_::_,[],h=>h.elim
def oH.nil{xs:aj Deferred}(h:oH Z [] xs):xs=[]:=by cases xs with|nil=>rfl|cons=>cases h
def xg:Rv Z .undef ZL:=.raw _
theorem aK.eF(e:aK)(d:Nat)(v:IV)(t:Nat):(e.put (aa d) v).at t=if d<e.n/\d=t then v else e.at t:=by
 unfold aK.put;simp only;by_cases h:d<e.n
 .have hb:UO d e.n=ab:=jw;rw[hb];simp only[if_true,aK.at,T.jS]
  grind
 .have hb:UO d e.n=af:=by
   cases hc:UO d e.n with
   |false=>rfl
   |true=>exact bH jw h
  grind
theorem aK.xX(e:aK)(d:aF Nat)(v:IV):(e.put d v).n=e.n:=by
 cases d with
 |none=>rfl
 |some d=>grind [aK.put]
theorem eg.set(h:eg Z e ts)(hv:Rv Z v u)(d:Nat):eg Z (e.put (aa d) v) (ts.setIfInBounds d u):=by
 refine⟨by rw[aK.xX,h.1];simp,λt=>?_⟩;rw[aK.eF]
 have hs:(ts.setIfInBounds d u).getD t ZL=if d<ts.size/\d=t then u else ts.getD t ZL:=by
  simp only[Ti]
  grind
 rw[hs,<-h.1];split
 .omega
 .exact h.2 t
theorem eg.put(h:eg Z e a.tmps)(hv:Rv Z v u)(dst:aF Tmp):eg Z (e.put dst v) (a.put dst u).tmps:=by
 cases dst with
 |none=>exact h
 |some d=>exact h.set hv d
def eg.eval(h:eg Z e a.tmps)(x:Xs):Rv Z (aT e x) (a.eval x):=by
 cases x with
 |tmp t=>exact h.2 t
 |const v=>exact Rv.lift v
 |global g=>exact .raw _
 |func f=>exact .raw _
variable{b:Bool}
def anG(h:Rv Z x (.bool b)):x=.raw (.bool b):=by
 generalize hu:Value.bool b=u at h;cases h<;>first|grind|rfl
variable{ao:Array YX}
def xI(h:eg Z e a.tmps):YJ o (yielded ao a.tmps)=bE o ao e:=by
 unfold YJ bE;cases hg:o.guard with
 |none=>rfl
 |some g=>
  have⟨j,want⟩:=g;simp only[yielded];cases hd:(ao[j]?).bind (·.dst)with
  |none=>rfl
  |some d=>
   simp only[Z8];by_cases hl:d<e.n
   .have hb:UO d e.n=ab:=jw;rw[hb];have dq:d<a.tmps.size:=by rw[<-h.1];omega
    have hr:=h.2 d;rw[Ti,Kr dq,Tb]at hr;rw[Kr dq];generalize a.tmps[d]=u at hr;cases u with
    |bool b=>rw[anG hr];simp
    |_=>
     generalize e.at d=x at hr;cases hr<;>rfl
   .have hb:UO d e.n=af:=by
     cases hc:UO d e.n with
     |false=>rfl
     |true=>exact bH jw hl
    rw[hb];have dq:¬d<a.tmps.size:=by rw[<-h.1];omega
    grind
def noGoto(Q:Exit->Act->Z0->Prop):Exit->Act->Z0->Prop
 |.goto _,_,_=>False
 |e,a,w=>Q e a w
section scope
variable{b:Frame}{c:Code}{cs:aj Frame}{k:aj Item}
theorem sW:step P (lone (b.atR a (.code (.scope c)::k)) cs w)=.next (lone (b.atR a (.code c::.inScope c::k)) cs w):=
 step_lone_go cE
theorem aGd:step P (lone (b.atR a (.inScope c::k)) cs w)=.next (lone (b.atR a k) cs w):=
 step_lone_go cE
variable{Q:Exit->Act->Z0->Prop}
theorem aHJ{F:Fence}(h:c.wpIn F n P (noGoto Q) a w):(Code.scope c).wpIn F n P Q a w:=by
 intro b k cs fP hb hr;have h0:(lone (b.atR a (.code (.scope c)::k)) cs w).fenced P F:=fenced_calm hb hr rfl;have⟨e,a₁,w₁,hq,Q2⟩:=h b (.inScope c::k) cs fP hb hr;cases e with
 |normal=>exact⟨.normal,a₁,w₁,hq,.head h0 sW (StepsIn.trans Q2 (.one (fenced_calm hb hr rfl) aGd))⟩
 |exit id=>
  have hx:exitTo id (.inScope c::k)=exitTo id k:=by rfl
  exact⟨.exit id,a₁,w₁,hq,λk' hk=>.head h0 sW (Q2.1 k' aI),
   λtn hk=>let⟨k₁,h1,h2⟩:=Q2.2 tn aI;⟨k₁,h1,.head h0 sW h2⟩⟩
 |goto l=>cases hq
 |ret=>exact⟨_,a₁,w₁,hq,.of_steps (.one h0 sW) Q2⟩
 |panic ch=>exact⟨_,a₁,w₁,hq,.of_steps (.one h0 sW) Q2⟩
 |outgrown=>exact⟨_,a₁,w₁,hq,.of_steps (.one h0 sW) Q2⟩
end scope
def c9(S:Self):Prop:=∀ro rd fn c e df G cr,S.code ro rd fn c e df G=aa cr->G.n<=cr.G.n
structure cG(S:Self):Prop where
 call:∀ro f av G v aB,S.call ro f av G=aa (v,aB)->G.n<=aB.n
 dh:∀ro f av G v aB,S.dh ro f av G=aa (v,aB)->G.n<=aB.n
 Ca:∀ro f av m G m' aB,S.Ca ro f av m G=aa (m',aB)->G.n<=aB.n
variable{S:Self}{rd:aF Nat}
def acz(hc:c9 S)(h:GW S ro l av G=aa (v,aB)):G.n<=aB.n:=by
 unfold GW at h;split at h
 .split at h<;>try cases h
  simp only at h;split at h
  .rename_i e1 aG h1;split at h
   .split at h
    .rename_i ex e2 dJ h2;split at h
     .cases h
     split at h
     .cases h;have:=hc _ _ _ _ _ _ _ _ h1;have:=hc _ _ _ _ _ _ _ _ h2
      grind [St.xX]
     grind
    grind
   grind
  grind
 grind
def NL(hc:c9 S)(hk:cG S)(h:nb P S ro e o G=aa (v,aB)):G.n<=aB.n:=by
 unfold nb at h;split at h
 .rename_i v1 aG h1;cases h;exact oS h1
 .exact hk.call _ _ _ _ _ _ h
 .exact acz hc h
 grind
def DR(hc:c9 S)(hk:cG S):∀{l:aj YX} {e:aK} {df:aj Df} {G:St} {cr:CR},ET P S ro rd ao l e df G=aa cr->G.n<=cr.G.n
 |[],e,df,G,cr,h=>by cases h;simp
 |o::aE,e,df,G,cr,h=>by
  unfold ET at h;split at h<;>try exact DR hc hk h
  split at h
  .rename_i v aG h1;exact YE (NL hc hk h1) (DR hc hk h)
  .split at h
   .split at h
    .exact DR hc hk h
    grind
   .split at h
    .rename_i h2;cases h;exact hk.dh _ _ _ _ _ _ h2
    grind
   all_goals grind
section draw
variable[Sm]
variable{pl:fK}
theorem aG6(hc:c9 S)(hk:cG S){d d':DS}(h:c8 P S pl ro ao o j d=aa d'):d.n<=d'.n:=by
 simp only[c8]at h;split at h<;>try cases h
 split at h
 .split at h
  .grind
  .split at h
   .rename_i h1;cases h;exact oS h1
   grind
  .grind
  .split at h
   .rename_i h1;cases h;exact NL (P:=P) hc hk h1
   grind
  .split at h
   .rename_i h1;split at h
    .cases h;exact NL (P:=P) hc hk h1
    grind
   grind
 grind
theorem aGq{SF:Nat->Self}(hc:∀j,c9 (SF j))(hk:∀j,cG (SF j)):∀{l:aj (YX×Nat)} {d d':DS},mq P SF pl ro ao l d=aa d'->d.n<=d'.n
 |[],d,d',h=>by cases h;simp
 |(o,j)::aE,d,d',h=>by
  unfold mq at h;split at h
  .rename_i d1 h1;exact YE (aG6 (hc j) (hk j) h1) (aGq hc hk h)
  grind
theorem H9{SF:Nat->Self}(hc:∀j,c9 (SF j))(hk:∀j,cG (SF j)){ao:Array YX}{df:aj Df}{cr:CR}(h:nc P SF ro ao e df G=aa cr):G.n<=cr.G.n:=by
 simp only[nc]at h;split at h
 .split at h
  .rename_i h1;cases h;exact aGq hc hk h1
  grind
 grind
end draw
variable{cr:CR}{df:aj Df}
def afo(hc:c9 S)(hk:cG S)(h:VE P S ro ao e df G=aa cr):G.n<=cr.G.n:= @H9 _ _ _ _ A6 _ (λ_=>hc) (λ_=>hk) _ _ _ h
theorem aIu(hc:c9 S)(hk:cG S):c9 (pN P S):=by
 intro ro rd fn c e df G cr h;change DJ P S ro rd fn c e df G=aa cr at h;cases c<;>unfold DJ at h<;>dsimp only at h
 case skip=>grind
 case label=>grind
 case exit=>grind
 case goto=>grind
 case ret=>grind
 case refuse=>cases h
 case region=>
  split at h
  .exact afo hc hk h
  .exact DR hc hk h
 case seq=>
  split at h
  .rename_i h1;exact YE (hc _ _ _ _ _ _ _ _ h1) (hc _ _ _ _ _ _ _ _ h)
  .exact hc _ _ _ _ _ _ _ _ h
 case cond=>
  split at h
  .exact hc _ _ _ _ _ _ _ _ h
  grind
 case block=>
  split at h
  .rename_i h1
   repeat' split at h
   all_goals (cases h;have:=hc _ _ _ _ _ _ _ _ h1;omega)
  .exact hc _ _ _ _ _ _ _ _ h
 case loop=>
  split at h
  .rename_i h1;exact YE (hc _ _ _ _ _ _ _ _ h1) (hc _ _ _ _ _ _ _ _ h)
  .exact hc _ _ _ _ _ _ _ _ h
 case scope=>
  split at h
  .cases h
  .exact hc _ _ _ _ _ _ _ _ h
 case rangeFunc=>
  split at h
  .rename_i iN aG mark tz
   have h1:G.n<=aG.n:=by
    split at tz
    .cases tz;simp
    grind
   split at h
   .split at h
    .rename_i h2;have h3:=hk.call _ _ _ _ _ _ h2;simp only[St.uY]at h3;split at h
     .split at h<;>try cases h
      split at h<;>try grind [St.xX]
      have h4:=hc _ _ _ _ _ _ _ _ h
      grind [St.xX]
     grind
    grind
   grind
  grind
def n_(hk:cG S):∀{df:aj Df} {m m':aF IV} {G aB:St},jR S ro df m G=aa (m',aB)->G.n<=aB.n
 |[],m,m',G,aB,h=>by cases h;simp
 |.zK id::ds,m,m',G,aB,h=>by
  unfold jR at h;split at h
  .split at h
   .exact n_ hk (G:=G.put id (.JH ab)) h
   grind
  grind
 |.call f av::ds,m,m',G,aB,h=>by
  unfold jR at h;split at h
  .rename_i h1;exact YE (hk.Ca _ _ _ _ _ _ _ h1) (n_ hk h)
  grind
variable{r:Func×aK×aF IV×St}{F:Fence}
def aeG(hc:c9 S)(hk:cG S)(h:GY P S ro f av G=aa r):G.n<=r.2.2.2.n:=by
 unfold GY at h;split at h
 .split at h
  .split at h<;>try cases h
   simp only at h;split at h
   .rename_i h1;split at h
    .rename_i h2;cases h;exact YE (hc _ _ _ _ _ _ _ _ h1) (n_ hk h2)
    grind
   .rename_i h1;split at h
    .rename_i h2;cases h;exact YE (hc _ _ _ _ _ _ _ _ h1) (n_ hk h2)
    grind
   .rename_i h1;split at h
    .rename_i h2;cases h;exact YE (hc _ _ _ _ _ _ _ _ h1) (n_ hk h2)
    grind
   grind
  grind
 grind
def A9:∀{l:aj YX} {e:aK} {m:aF IV} {G:St} {r:aK×aF IV×St},sC P ro ao l e m G=aa r->G.n<=r.2.2.n
 |[],e,m,G,r,h=>by cases h;simp
 |o::aE,e,m,G,r,h=>by
  unfold sC at h;split at h<;>try exact A9 h
  split at h
  .repeat' split at h
   all_goals exact A9 h
  .split at h
   .rename_i h1;exact YE (oS h1) (A9 h)
   grind
theorem NM(hc:c9 S){fn:V4}:∀{c:Code} {e:aK} {m:aF IV} {G:St} {r:CR×aF IV},GZ P S ro fn c e m G=aa r->G.n<=r.1.G.n:=by
 intro c
 have other:∀{c:Code} {e:aK} {m:aF IV} {G:St} {r:CR×aF IV},(match S.code ro ah fn c e [] G with|some r=>aa (r,m)|none=>ah)=aa r->G.n<=r.1.G.n:=by
  intro c e m G r h;split at h
  .rename_i h1;cases h;exact hc _ _ _ _ _ _ _ _ h1
  grind
 induction c with
 |seq a b iha ihb=>
  grind [GZ]
 |region id ao draw=>
  intro e m G r h;unfold GZ at h;split at h<;>try exact other h
  split at h
  .rename_i h1;cases h;exact A9 h1
  grind
 |_=>intro e m G r h;exact other h
def Ks(hc:c9 S)(hk:cG S):cG (pN P S) where
 call:=by
  intro ro f av G v aB h;simp only[pN,VF]at h;split at h
  .rename_i h1;split at h
   .cases h;exact aeG hc hk h1
   grind
  grind
 dh:=by
  intro ro f av G v aB h;simp only[pN,acj]at h;split at h
  .rename_i h1;cases h;exact aeG hc hk h1
  grind
 Ca:=by
  intro ro f av m G m' aB h;simp only[pN,HW]at h;split at h
  .split at h<;>try cases h
   split at h
   .split at h<;>try cases h
    split at h
    .rename_i h1;split at h
     .cases h;exact NM hc h1
     grind
    .rename_i h1;split at h
     .cases h;exact NM hc h1
     grind
    grind
   grind
  grind
def Kt(ch:aj PanicEntry):Ex->Exit
 |.normal=>.normal
 |.exit id=>.exit id
 |.goto l=>.goto l
 |.ret=>.ret
 |.dh _=>.panic ch
def V6(Z:Io)(ch:aj PanicEntry):Ex->Prop
 |.dh v=>∃u,ch=[{v:=u,recovered:=af}]/\Rv Z v u
 |_=>True
def rV(Z:Io):aF IV->FrameMode->Prop
 |none,u=>u=.returning
 |some v,u=>∃x,u=.panicking [{v:=x,recovered:=af}]/\Rv Z v x
def mT(F:Fence)(rd:aF Nat)(Z:Io):Prop:=(rd=ah/\F=Z9)\/∃l loc,rd=aa l/\Z l 0=aa loc/\F=Z9.inRound loc.b
def mT.mono(kV:Ext Z br)(h:mT F rd Z):mT F rd br:=by
 rcases h with h|⟨l,loc,h1,h2,h3⟩
 .exact .inl h
 .exact .inr ⟨l,loc,h1,kV _ _ _ h2,h3⟩
def mT.fn(h:mT F rd Z)(f:V4):F.fn f:=by rcases h with⟨_,rfl⟩|⟨_,_,_,_,rfl⟩<;>trivial
def mT.depth(h:mT F rd Z):F.depth.isSome=ab->1<=n:=by rcases h with⟨_,rfl⟩|⟨_,_,_,_,rfl⟩<;>(simp_all[Z9])
variable{R:Ending->Z0->Prop}{Q:Exit->Act->Z0->Prop}
def mT.calls(h:mT F rd Z){us:Array ZQ}(hc:CallsIn Z9 0 P f us w R):CallsIn F (0- 1) P f us w R:=by
 rcases h with⟨_,rfl⟩|⟨_,_,_,_,rfl⟩<;>exact hc
def mT.inRound(h:mT F rd Z)(l:Nat):F.inRound l=Z9.inRound l:=by rcases h with⟨_,rfl⟩|⟨_,_,_,_,rfl⟩<;>rfl
def xh(N ro:Nat)(Z:Io)(w:Z0)(G:St)(cr:CR)(Q:Exit->Act->Z0->Prop):Prop:=
 ∀a' w' br ch,Inv N br cr.G w'->Le ro Z w G br w' cr.G->eg br cr.e a'.tmps->oH br cr.df a'.defers->V6 br ch cr.ex->Q (Kt ch cr.ex) a' w'
def Tu(F:Fence)(P:V5)(m:Nat)(c:Code)(Q:Exit->Act->Z0->Prop)(a:Act)(w:Z0):Prop:=
 match c with
 |.loop b=>aKR F 0 P b Q m a w
 |c=>c.wpIn F 0 P Q a w
def Tu.wp{c:Code}(h:Tu F P m c Q a w):c.wpIn F 0 P Q a w:=by
 cases c<;>first|exact h|exact wpIn_loop_rounds _ h
def Cz(N ro:Nat)(Z:Io)(w:Z0)(G:St)(v:IV)(aB:St):Ending->Z0->Prop
 |.returned u,w'=>∃br,Rv br v u/\Inv N br aB w'/\Le ro Z w G br w' aB
 |_,_=>False
def kC(P:V5)(S:Self)(m:Nat):Prop:=∀N ro rd fn c e df G cr,S.code ro rd fn c e df G=aa cr->cr.G.n<=N->∀F Z a w Q,mT F rd Z->Inv N Z G w->eg Z e a.tmps->oH Z df a.defers->
 xh N ro Z w G cr Q->Tu F P m c Q a w
def UW(N ro:Nat)(Z:Io)(w:Z0)(G:St)(v:IV)(aB:St):Ending->Z0->Prop
 |.panicked ch,w'=>∃br,V6 br ch (.dh v)/\Inv N br aB w'/\Le ro Z w G br w' aB
 |_,_=>False
def Pc(N ro:Nat)(Z:Io)(w:Z0)(G:St)(m:aF IV)(aB:St):Ending->FrameMode->Z0->Prop
 |.returned _,u,w'=>∃br,rV br m (settle u)/\Inv N br aB w'/\Le ro Z w G br w' aB
 |_,_,_=>False
structure gg(P:V5)(S:Self):Prop where
 call:∀N ro f av G v aB,S.call ro f av G=aa (v,aB)->aB.n<=N->∀Z us w,Inv N Z G w->bu Z av us->CallsIn Z9 0 P f us.toArray w (Cz N ro Z w G v aB)
 dh:∀N ro f av G v aB,S.dh ro f av G=aa (v,aB)->aB.n<=N->∀Z us w,Inv N Z G w->bu Z av us->CallsIn Z9 0 P f us.toArray w (UW N ro Z w G v aB)
 Ca:∀N ro f av m G m' aB,S.Ca ro f av m G=aa (m',aB)->aB.n<=N->∀Z us u w,rV Z m u->Inv N Z G w->bu Z av us->CallsDIn Z9 0 P f us.toArray u w (Pc N ro Z w G m' aB)
 G8:∀ro f av m G m' aB,S.Ca ro f av m G=aa (m',aB)->∃fn,P.funcs[f]?=aa fn/\(fn.body.isSome&&fn.name != "runtime.NumGoroutine")=ab
def xh.from(h:xh N ro Z w G cr Q)(hi:Inv N Z G w)(hl:Le ro Z w G cO w1 aG)(hn:aG.n<=N):xh N ro cO w1 aG cr Q:=
 λa' w' br ch h1 h2 h3 h4 h5=>h a' w' br ch h1 (Le.trans (λid h1 h2=>hi.fresh id h1 ak) hl h2) h3 h4 h5
def Le.then(hi:Inv N Z G w)(hn:aG.n<=N)(h:Le ro Z w G cO w1 aG)(k:Le ro cO w1 aG vB w2 dJ):Le ro Z w G vB w2 dJ:=
 Le.trans (λid h1 h2=>hi.fresh id h1 ak) h k
def rW{r:Loop}(h:w.heap[l]?=aa (.loop r)):(aKF l).run P w=.ok r w:=by
 simp only[aKF,Z1,dS (P:=P) h az,Rn,VV]
def heap_set{b:Nat}{o:Uc}(h:b<w.heap.size):(w.heap.setIfInBounds b o)[b]?=aa o:=aI
def Ku:∀{ps:aj Tmp} {av:aj IV} {us:aj ZQ} {e:aK} {ts:Array ZQ},eg Z e ts->bu Z av us->
 eg Z ((ps.zip av).foldl (λe (p,v)=>e.put (aa p) v) e) ((ps.zip us).foldl (λtmps (t,a)=>tmps.setIfInBounds t a) ts)
 |[],_,_,_,_,h,_=>h
 |p::ps,[],us,_,_,h,hr=>by simp_all[hr.of_nil]
 |p::ps,v::av,us,e,ts,h,hr=>by
  obtain⟨u,xF,rfl,h1,h2⟩:=hr.A7;simp only[List.zip_cons_cons];exact Ku (h.set h1 p) h2
variable{Gs:aF Code}{bd jz:Code}{iN oE:Nat}{loc:Loc}{ps:aj Tmp}{tm:T IV}
def mI(hi:Inv N Z G w)(bx:G.at l=aa (.loop st Gs f tm oE ps jz bd iN))(hl:Z l 0=aa loc):
 ∃ld ts f',Z iN 0=aa ld/\w.heap[loc.b]?=aa (.loop {state:=st,pending:=Gs,fn:=f',tmps:=ts,params:=ps.toArray,assign:=jz,body:=bd,defers:=ld.b})/\eg Z ⟨oE,tm⟩ ts/\loc.b<w.heap.size:=by
 have⟨l',ld,ts,f',dq,hd,hh,hs,ht⟩:=hi.obj l _ bx;rw[hl]at dq;cases dq;exact⟨ld,ts,f',hd,hh,⟨hs.symm,ht⟩,hi.iO l _ ⟨0,loc,hl,rfl⟩⟩
def aHy(s:LoopState)(h:s≠.busy):(s==aLh)=af:=aI
def Du{eX:LoopState}{CA:aF Code}{f':V4}{ld:Loc}(hi:Inv N Z G w)(fP:ro<=l)
 (bx:G.at l=aa (.loop st Gs f tm oE ps jz bd iN))(hl:Z l 0=aa loc)(hd:Z iN 0=aa ld)(he:eg Z ⟨oE,tm⟩ ts):
 let go:Uc:=.loop {state:=eX,pending:=CA,fn:=f',tmps:=ts,params:=ps.toArray,assign:=jz,body:=bd,defers:=ld.b}
 Inv N Z (G.put l (.loop eX CA f tm oE ps jz bd iN)) {w with heap:=w.heap.setIfInBounds loc.b go}/\Le ro Z w G Z {w with heap:=w.heap.setIfInBounds loc.b go} (G.put l (.loop eX CA f tm oE ps jz bd iN)):=by
 intro go;have aq:=hi.iO l _ ⟨0,loc,hl,rfl⟩;exact hi.zO bx fP hl ⟨loc,ld,ts,f',hl,hd,heap_set aq,he.1.symm,he.2⟩
def aH9{ex:Ex}{ch:aj PanicEntry}(hx:¬ex.HU=ab)(h:∃v w',(aKy l (jT ex)).run P w=.ok v w'/\R (.returned v) w'):roundPost P l R (Kt ch ex) a w:=by
 cases ex<;>first|exact h|contradiction
def aiq(hS:kC P S m)(hm:c9 S)(h:GW S ro l av G=aa (v,aB))(hN:aB.n<=N)(hF:mT F rd Z)(hi:Inv N Z G w)
 (hl:Z l 0=aa loc)(hr:bu Z av us):
 ∃f' ts jz bd,(Na loc.b us.toArray).run P w=.ok (.round loc.b f' ts jz bd) w/\RoundIn F 0 P loc.b f' ts jz bd w (Cz N ro Z w G v aB):=by
 unfold GW at h;split at h
 .rename_i state pending f tm oE params assign body iN bx;split at h<;>try cases h
  rename_i hc;have dz:=XL λhx=>hc (.inl hx);have oT:=XL λhx=>hc (.inr (.inl hx));have hc3:=XL λhx=>hc (.inr (.inr hx));simp only at h;split at h
  .rename_i e1 aG h1;split at h
   .rename_i air f1 DI HV params1 aab ak6 vN xi;split at h
    .rename_i ex e2 dJ h2;split at h
     .cases h
     rename_i hnp;split at h
     .rename_i st3 aES f3 M7 Gv params3 aEB aET qp DT;cases h;have⟨ld,ts,f',hd,hh,he,aq⟩:=mI hi bx hl;have DU:dJ.n<=N:=hN
      have fY:aG.n<=N:=by
       have:=hm _ _ _ _ _ _ _ _ h2
       grind [St.xX]
      have cd:us.toArray.size=params.toArray.size:=by simp[<-hr.1,dz]
      refine⟨f',(params.zip us).foldl (λtmps (t,a)=>tmps.setIfInBounds t a) ts,assign,body,?_,?_⟩
      .have hz:((params.toArray.zip us.toArray).foldl (λtmps (t,a)=>tmps.setIfInBounds t a) ts)=(params.zip us).foldl (λtmps (t,a)=>tmps.setIfInBounds t a) ts:=az;simp only[Na,Z1,rW hh,Rn,cd,ne_eq,not_true_eq_false,if_false,VV,hz]
      .refine roundIn_of_wpIn (hF.fn f') ?_;rw[hF.inRound];refine(hS N ro (aa l) f assign _ [] G _ h1 fY (Z9.inRound loc.b) Z {tmps:=_,defers:=[]} w _ (.inr ⟨l,loc,rfl,hl,rfl⟩) hi (Ku he hr) trivial ?_).wp;intro a1 w1 cO gP i1 l1 dt d1 p1;have x_:=l1.ext _ _ _ hl;have⟨ld1,ts1,f1',E5,A_,pQ,nL⟩:=mI i1 xi x_;have⟨i2,l2⟩:=Du (ro:=ro) (eX:=.busy) (CA:=air) (f':=f1') i1 oT xi x_ E5 pQ;refine⟨_,by simp only[Instr.beginRound,Z1,rW A_,Rn,jl (P:=P) A_ az];rfl,?_⟩;refine(hS N ro (aa l) f body _ [] _ _ h2 DU (Z9.inRound loc.b) cO a1 _ _ (.inr ⟨l,loc,rfl,x_,rfl⟩) i2 dt d1 ?_).wp;intro a2 w2 vB ch2 i3 l3 e2' d2 p2;refine aH9 hnp ?_;have jL:=l3.ext _ _ _ x_;have⟨ld2,ts2,f2',M8,uc,E6,cR⟩:=mI i3 DT jL;have⟨i4,l4⟩:=Du (ro:=ro) (eX:=if(jT ex).isNone then .ready else .done) (CA:=jT ex) (f':=f2') i3 oT DT jL M8 E6;refine⟨.bool (jT ex).isNone,_,by simp only[aKy,Z1,rW uc,Rn,jl (P:=P) uc az];rfl,vB,?_,?_,?_⟩
       .exact .raw _
       .omega
       .have v_:=Le.then i2 DU l3 l4;have E7:=Le.then i1 jw l2 v_;exact Le.then hi fY l1 E7
     grind
    grind
   grind
  grind
 grind
theorem lj(h:aN P ro Y o G=aa out)(hd:∀d,out≠.dfr d):∀c,o.op≠.defer c:=by
 intro c hc;simp only[aN]at h
 grind
variable{next:Act->Z0->Prop}
def G9(hS:kC P S m)(hC:gg P S)(hm:c9 S)(h:nb P S ro e o G=aa (v,aB))(hN:aB.n<=N)(hF:mT F rd Z)(hi:Inv N Z G w)
 (he:eg Z e a.tmps)(hQ:∀u w' br,Rv br v u->Inv N br aB w'->Le ro Z w G br w' aB->next (a.put o.dst u) w'):o.wpIn F 0 P a w next Q:=by
 exists λf _=>hF.fn f;unfold nb at h;split at h
 .rename_i v1 aG h1;cases h;rw[TU _ _ _ (lj h1 az)];have⟨u,w',br,hr,h2,h3,h4⟩:=tx hi he.eval h1 hN;rcases hr with hr|⟨hr,rfl⟩
  .rw[hr,Oper.uponIn_value];grind
  .rw[hr,Oper.uponIn_skip];grind
 .rename_i f av h1;rw[TU _ _ _ (lj h1 az)];have⟨us,hr,h2⟩:=tx hi he.eval h1;rw[hr,Th];refine⟨hF.depth,(hF.calls (hC.call N ro f av G v aB h hN Z us w hi h2)).mono λe w' hR=>?_⟩;cases e with
  |returned u=>have⟨br,h3,h4,h5⟩:=hR;grind
  |panicked chain=>cases hR
  |outgrown=>cases hR
 .rename_i l av h1;rw[TU _ _ _ (lj h1 az)];have⟨loc,us,hl,hr,h2⟩:=tx hi he.eval h1;have⟨f',ts,jz,bd,h3,h4⟩:=aiq (F:=F) hS hm h hN hF hi hl h2;rw[hr,h3,Oper.uponIn_round];refine⟨hF.depth,RoundIn.mono h4 λe w' hR=>?_⟩;cases e with
  |returned u=>have⟨br,h3,h4,h5⟩:=hR;grind
  |panicked chain=>cases hR
  |outgrown=>cases hR
 grind
def Pd(hS:kC P S m)(hC:gg P S)(hm:c9 S)(hk:cG S):∀{l:aj YX} {k:Nat} {e:aK} {df:aj Df} {G:St} {cr:CR} {Z:Io} {a:Act} {w:Z0},
 ao.toList.drop k=l->ET P S ro rd ao l e df G=aa cr->cr.G.n<=N->mT F rd Z->Inv N Z G w->eg Z e a.tmps->oH Z df a.defers->xh N ro Z w G cr Q->
 wpOpsIn F 0 P ao Q (Ln k l.length) a w
 |[],k,e,df,G,cr,Z,a,w,hl,h,hN,hF,hi,he,hd,hQ=>by
  cases h;exact hQ a w Z [] hi (Le.refl _ _ _ _) he hd trivial
 |o::aE,k,e,df,G,cr,Z,a,w,hl,h,hN,hF,hi,he,hd,hQ=>by
  have lh:ao.toList.drop (k+1)=aE:=by
   rw[<-UF (i:=1) (j:=k),hl];rfl
  have bM:ao[k]?=aa o:=by
   have:(ao.toList.drop k)[0]?=aa o:=aI
   grind
  simp only[Zx,XA];rw[wpOpsIn_cons];unfold wpOpIn;rw[bM];simp only;unfold ET at h;rw[xI he];split at h
  .rename_i hw;rw[aW hw];split at h
   .rename_i v aG h1;have fY:=YE (DR hm hk h) hN;refine G9 hS hC hm h1 fY hF hi he λu w' br hv i1 l1=>?_;exact Pd hS hC hm hk lh h hN (hF.mono l1.ext) i1 ((he.mono l1.ext).put hv _) (hd.mono l1.ext|>λx=>by cases o.dst<;>exact x) (hQ.from hi l1 fY)
   .split at h
    .rename_i d h1;split at h
     .have hrn:rd=ah:=jw
      have V7:F=Z9:=by
       rcases hF with⟨_,h2⟩|⟨_,_,h2,_⟩
       all_goals grind
      exists λf _=>hF.fn f;have⟨dd,hr,M9,c,hc⟩:=tx hi he.eval h1;have ais:(o.semAt F.round a.eval)=UP a.eval o:=by rw[V7];rfl
      rw[ais,hr,Oper.uponIn_defer];refine Pd hS hC hm hk lh h hN hF hi ?_ ?_ hQ
      .cases gh:o.dst with
       |none=>exact he
       |some t=>exact he.set xg t
      .cases o.dst<;>exact⟨M9,hd⟩
     grind
    .rename_i f av h1;split at h
     .rename_i v aG h2;cases h;exists λf _=>hF.fn f;rw[TU _ _ _ (lj h1 az)];have⟨us,hr,h3⟩:=tx hi he.eval h1;rw[hr,Th];refine⟨hF.depth,(hF.calls (hC.dh N ro f av G v aG h2 hN Z us w hi h3)).mono λed w' hR=>?_⟩;cases ed with
      |returned u=>cases hR
      |outgrown=>cases hR
      |panicked chain=>
       have⟨br,h4,h5,h6⟩:=hR;exact hQ a w' br chain h5 h6 (he.mono h6.ext) (hd.mono h6.ext) h4
     grind
    .rename_i v h1;cases h;exists λf _=>hF.fn f;rw[TU _ _ _ (lj h1 az)];have⟨u,hr,h3⟩:=tx hi he.eval h1;rw[hr,Oper.uponIn_panic];exact hQ a w Z [{v:=u,recovered:=af}] hi (Le.refl _ _ _ _) he hd ⟨u,rfl,h3⟩
    grind
  .rename_i hw;rw[aY hw];exact⟨λf _=>hF.fn f,Pd hS hC hm hk lh h hN hF hi (he.put xg _) (by cases o.dst<;>exact hd) hQ⟩
def V8(P:V5)(S:Self):Prop:=∀N ro rd ao e df G cr,VE P S ro ao e df G=aa cr->cr.G.n<=N->∀F Z a w Q id,mT F rd Z->Inv N Z G w->eg Z e a.tmps->oH Z df a.defers->
 xh N ro Z w G cr Q->(Code.region id ao ab).wpIn F 0 P Q a w
def NN(hx:x=.raw (.bool b))(h:Rv Z x u):u=.bool b:=by subst hx;cases h;rfl
def oH.append:∀{ds:aj Df} {xs:aj Deferred} {sH:aj Df} {Cd:aj Deferred},oH Z ds xs->oH Z sH Cd->oH Z (ds++sH) (xs++Cd)
 |[],[],_,_,_,h=>h
 |_::_,_::_,_,_,h,h'=>⟨h.1,oH.append h.2 h'⟩
 |[],_::_,_,_,h,_=>h.elim
 |_::_,[],_,_,h,_=>h.elim
def V9(rd:aF Nat)(G:St):aF (Nat×St×aj Df):=
 match rd with
 |none=>aa (G.n,G.add (.JH af),[.zK G.n])
 |some l=>match G.at l with
  |some (.loop _ _ _ _ _ _ _ _ iN)=>aa (iN,G,[])
  |_=>ah
def aHH{mark:aj Df}(h:V9 rd G=aa (iN,aG,mark))(hN:aG.n<=N)(hF:mT F rd Z)(hi:Inv N Z G w):
 ∃w1 cO ld marks,Inv N cO aG w1/\Le ro Z w G cO w1 aG/\cO iN 0=aa ld/\oH cO mark marks/\
  ∀fn ts ps jz bd,(aKq fn ts ps jz bd F.round).run P w=.ok (w1.heap.size,marks) {w1 with heap:=w1.heap.push (.loop {state:=.ready,pending:=ah,fn,tmps:=ts,params:=ps,assign:=jz,body:=bd,defers:=ld.b})}:=by
 unfold V9 at h;split at h
 .cases h
  have V7:F.round=ah:=by
   rcases hF with⟨_,rfl⟩|⟨_,_,h,_⟩
   .rfl
   grind
  have⟨h1,h2⟩:=hi.G7 (ro:=ro) (go:=.deferred (aa [])) (ob:=.JH af) ES ⟨_,dv _ _ _ _,az⟩;refine⟨_,_,⟨w.heap.size,1,1⟩,[{target:=.collected w.heap.size,args:= #[]}],h1,h2,dv _ _ _ _,⟨⟨_,dv _ _ _ _,rfl⟩,trivial⟩,λfn ts ps jz bd=>?_⟩;rw[V7];rfl
 .split at h
  .rename_i bx;cases h;rcases hF with⟨h,_⟩|⟨l',loc,h,hl,rfl⟩
   .cases h
   .cases h;have⟨ld,ts,f',hd,hh,he,aq⟩:=mI hi bx hl;refine⟨w,Z,ld,[],hi,Le.refl _ _ _ _,hd,trivial,λfn ts ps jz bd=>?_⟩;simp only[aKq,Fence.inRound,Z1,rW hh,run_newObj,Rn,VV]
  grind
def ait(hS:kC P S m)(hC:gg P S)(hm:c9 S)(hk:cG S){fn:V4}{g:Xs}{ps:Array Tmp}
 (h:DJ P S ro rd fn (.rangeFunc g ps jz bd) e df G=aa cr)(hN:cr.G.n<=N)(hF:mT F rd Z)(hi:Inv N Z G w)(he:eg Z e a.tmps)(hd:oH Z df a.defers)(hQ:xh N ro Z w G cr Q):
 (Code.rangeFunc g ps jz bd).wpIn F 0 P Q a w:=by
 simp only[DJ]at h
 change(match V9 rd G with
  |some (iN,G,mark)=>_
  |none=>ah)=aa cr at h
 split at h
 .rename_i iN aG mark tz;split at h
  .rename_i f av rX;split at h
   .rename_i v3 oI ak8;split at h
    .rename_i st Gs f3 tm oE xJ M_ xK qp DT;split at h<;>try cases h
     rename_i hb;have dL:=λhx=>hb (.inl hx);have fD:=XL λhx=>hb (.inr hx)
     have Ba:oI.n<=N:=by
      split at h
      .cases h;exact hN
      .have:=hm _ _ _ _ _ _ _ _ h
       grind [St.xX]
     have DU:=hk.call _ _ _ _ _ _ ak8;simp only[St.uY]at DU;have⟨w1,cO,ld,marks,i1,l1,yf,Pe,Wa⟩:=aHH (P:=P) (ro:=ro) tz ak hF hi;refine wpIn_rangeFunc λTc _=>?_;have n9:=i1.fresh aG.n (XS _) ak 0;have jE:=qo (l:=⟨w1.heap.size,1,1⟩) n9
     have⟨i2,l2⟩:=i1.G7 (ro:=ro) (go:=.loop {state:=.ready,pending:=ah,fn:=Tc,tmps:=a.tmps,params:=ps,assign:=jz,body:=bd,defers:=ld.b}) (ob:=.loop .ready ah fn e.t e.n ps.toList jz bd iN) ak
      ⟨⟨w1.heap.size,1,1⟩,ld,a.tmps,Tc,dv _ _ _ _,jE _ _ _ yf,az,he.1.symm,λt=>((he.2 t).mono l1.ext).mono jE⟩
     have jL:fc cO aG.n 0 ⟨w1.heap.size,1,1⟩ aG.n 0=aa ⟨w1.heap.size,1,1⟩:=dv _ _ _ _;generalize JQ:({w1 with heap:=w1.heap.push (.loop {state:=.ready,pending:=ah,fn:=Tc,tmps:=a.tmps,params:=ps,assign:=jz,body:=bd,defers:=ld.b})}:Z0)=w2 at i2 l2;generalize fc cO aG.n 0 ⟨w1.heap.size,1,1⟩=vB at i2 l2 jL jE;have⟨d,nK,kW⟩:=E4 (w:=w2) (((he.mono l1.ext).mono jE).eval g) (bu.cons (.vA aG.n _ jL) bu.nil) rX;rcases kW with⟨f',as,vs,q7,hinv,fk,_⟩|⟨_,_,q7,_⟩
     .cases q7;refine⟨w1.heap.size,marks,w2,d,w2,f,vs.toArray,w2,aI,?_,λf' _=>hF.fn f',hinv,hF.depth,?_⟩
      .simp_all[resolve,Act.eval]
      .refine(hF.calls (hC.call N ro f av _ _ _ ak8 Ba vB vs w2 i2 fk)).mono λed w3 hR=>?_;cases ed with
       |panicked chain=>cases hR
       |outgrown=>cases hR
       |returned u=>
        have⟨ι3,_,i3,l3⟩:=hR;have DV:=l3.ext _ _ _ jL;have⟨ld3,ts3,f3',hd3,yg,Td,H_⟩:=mI i3 DT DV;have⟨i4,l4⟩:=Du (ro:=ro) (eX:=.exhausted) (CA:=Gs) (f':=f3') i3 fD DT DV hd3 Td;refine⟨Gs,_,by simp only[Instr.endLoop,Z1,rW yg,Rn,aHy st dL,W8,if_false,jl (P:=P) yg az];rfl,?_⟩;have l34:=Le.then i2 Ba l3 l4;have E7:=Le.then i1 (by grind [St.uY]) l2 l34;have v_:=Le.then hi ak l1 E7;have e4:=he.mono v_.ext;have d4:=(Pe.mono E7.ext).append (hd.mono v_.ext);split at h
        .cases h;exact hQ _ _ _ [] i4 v_ e4 d4 trivial
        .rename_i c;exact(hS N ro rd fn c e _ _ cr h hN F ι3 {a with defers:=marks++a.defers} _ Q (hF.mono v_.ext) i4 e4 d4 (hQ.from hi v_ jw)).wp
     grind
    grind
   grind
  grind
 grind
theorem aai(hS:kC P S m)(hC:gg P S)(hm:c9 S)(hk:cG S)(hD:V8 P S):kC P (pN P S) (m+1):=by
 intro N ro rd fn c e df G cr h hN F Z a w Q hF hi he hd hQ;change DJ P S ro rd fn c e df G=aa cr at h;cases c<;>unfold DJ at h<;>dsimp only at h
 case skip=>cases h;exact wpIn_skip (hQ a w Z [] hi (Le.refl _ _ _ _) he hd trivial)
 case label=>cases h;exact wpIn_label (hQ a w Z [] hi (Le.refl _ _ _ _) he hd trivial)
 case exit=>cases h;exact wpIn_exit (hQ a w Z [] hi (Le.refl _ _ _ _) he hd trivial)
 case goto=>cases h;exact wpIn_goto (hQ a w Z [] hi (Le.refl _ _ _ _) he hd trivial)
 case ret=>cases h;exact wpIn_ret (hQ a w Z [] hi (Le.refl _ _ _ _) he hd trivial)
 case refuse=>cases h
 case region id ao draw=>
  split at h
  .rename_i G6;subst G6;exact hD N ro rd ao e df G cr h hN F Z a w Q id hF hi he hd hQ
  .have:draw=af:=aI;subst this;refine wpIn_region ?_;have:=Pd (k:=0) hS hC hm hk az h hN hF hi he hd hQ
   simp_all[Yo]
 case seq x y=>
  refine wpIn_seq ?_;split at h
  .rename_i e1 wa aG h1;have fY:=YE (hm _ _ _ _ _ _ _ _ h) hN;refine(hS N ro rd fn x e df G _ h1 fY F Z a w _ hF hi he hd ?_).wp;intro a1 w1 cO gP i1 l1 dt d1 p1;exact(hS N ro rd fn y _ _ _ _ h hN F cO a1 w1 Q (hF.mono l1.ext) i1 dt d1 (hQ.from hi l1 fY)).wp
  .rename_i dw;refine(hS N ro rd fn x e df G _ h hN F Z a w _ hF hi he hd ?_).wp;intro a1 w1 cO gP i1 l1 dt d1 p1;have:=hQ a1 w1 cO gP i1 l1 dt d1 p1;cases hx:cr.ex with
   |normal=>exact bH (by rw[h];cases cr;grind) (dw cr.e cr.df cr.G)
   |exit id=>rw[hx]at this;exact this
   |goto l=>rw[hx]at this;exact this
   |ret=>rw[hx]at this;exact this
   |dh v=>rw[hx]at this;exact this
 case cond c x y=>
  split at h
  .rename_i t ht;have hc:=NN ht (he.eval c);exact wpIn_cond hc (hS N ro rd fn _ e df G cr h hN F Z a w Q hF hi he hd hQ).wp
  grind
 case block id x=>
  refine wpIn_block ?_;split at h
  .rename_i bY e1 wa aG h1
   have fY:aG.n<=N:=by
    grind
   refine(hS N ro rd fn x e df G _ h1 fY F Z a w _ hF hi he hd ?_).wp;intro a1 w1 cO gP i1 l1 dt d1 p1;simp only[Kt,Exit.inBlock];split at h
   .rename_i hid;cases h;rw[aW hid];exact hQ a1 w1 cO gP i1 l1 dt d1 p1
   .rename_i hid;cases h;rw[aY hid];exact hQ a1 w1 cO gP i1 l1 dt d1 p1
  .rename_i dw;refine(hS N ro rd fn x e df G _ h hN F Z a w _ hF hi he hd ?_).wp;intro a1 w1 cO gP i1 l1 dt d1 p1;have:=hQ a1 w1 cO gP i1 l1 dt d1 p1;cases hx:cr.ex with
   |exit bY=>exact bH (by rw[h];cases cr;grind) (dw bY cr.e cr.df cr.G)
   |normal=>rw[hx]at this;exact this
   |goto l=>rw[hx]at this;exact this
   |ret=>rw[hx]at this;exact this
   |dh v=>rw[hx]at this;exact this
 case loop x=>
  show aKR F 0 P x Q (m+1) a w;rw[roundsIn_succ];split at h
  .rename_i e1 wa aG h1;have fY:=YE (hm _ _ _ _ _ _ _ _ h) hN;refine(hS N ro rd fn x e df G _ h1 fY F Z a w _ hF hi he hd ?_).wp;intro a1 w1 cO gP i1 l1 dt d1 p1;exact hS N ro rd fn (.loop x) _ _ _ _ h hN F cO a1 w1 Q (hF.mono l1.ext) i1 dt d1 (hQ.from hi l1 fY)
  .rename_i dw;refine(hS N ro rd fn x e df G _ h hN F Z a w _ hF hi he hd ?_).wp;intro a1 w1 cO gP i1 l1 dt d1 p1;have:=hQ a1 w1 cO gP i1 l1 dt d1 p1;cases hx:cr.ex with
   |normal=>exact bH (by rw[h];cases cr;grind) (dw cr.e cr.df cr.G)
   |exit id=>rw[hx]at this;exact this
   |goto l=>rw[hx]at this;exact this
   |ret=>rw[hx]at this;exact this
   |dh v=>rw[hx]at this;exact this
 case scope x=>
  refine aHJ ?_;split at h<;>try cases h
  rename_i dw;refine(hS N ro rd fn x e df G _ h hN F Z a w _ hF hi he hd ?_).wp;intro a1 w1 cO gP i1 l1 dt d1 p1;have:=hQ a1 w1 cO gP i1 l1 dt d1 p1;cases hx:cr.ex with
  |goto l=>exact bH (by rw[h];cases cr;grind) (dw l cr.e cr.df cr.G)
  |normal=>rw[hx]at this;exact this
  |exit id=>rw[hx]at this;exact this
  |ret=>rw[hx]at this;exact this
  |dh v=>rw[hx]at this;exact this
 case rangeFunc g params assign body=>
  exact ait hS hC hm hk ES hN hF hi he hd hQ
variable{u:FrameMode}{mo:aF IV}
def Q3{m:aF IV}(h:rV Z m u):u≠.run:=by
 cases m with
 |none=>rw[show u=_ from h];simp
 |some v=>obtain⟨x,rfl,_⟩:=h;simp
def Ia(hC:gg P S)(hk:cG S){fn:Func}:∀{df:aj Df} {ds:aj Deferred} {G aB:St} {m m':aF IV} {u:FrameMode} {Z:Io} {w:Z0},jR S ro df m G=aa (m',aB)->
 oH Z df ds->rV Z m u->Inv N Z G w->aB.n<=N->
 (∀w' br u',Inv N br aB w'->Le ro Z w G br w' aB->rV br m' u'->LeavesIn Z9 0 P fn ts R [] u' w')->LeavesInM Z9 0 P fn ts R ds u w
 |[],[],G,aB,m,m',u,Z,w,h,_,hu,hi,_,hQ=>by
  cases h;exact hQ w Z u hi (Le.refl _ _ _ _) hu
 |.zK id::df,d::ds,G,aB,m,m',u,Z,w,h,hd,hu,hi,hn,hQ=>by
  unfold jR at h;obtain⟨⟨l,hl,rfl⟩,E8⟩:=hd;split at h
  .rename_i bx;split at h
   .rename_i fP;have⟨l',dq,hh⟩:=hi.obj id _ bx;rw[hl]at dq;cases dq;have aq:=hi.iO id _ ⟨0,l,hl,rfl⟩;have⟨i1,l1⟩:=hi.zO (ro:=ro) (go:=.deferred ah) (gO:=.JH ab) bx fP hl ⟨l,hl,heap_set aq⟩;have gq:=n_ hk h;refine⟨Q3 hu,.inl ⟨l.b,_,rfl,?_,Ia hC hk h E8 hu i1 hn λw' br u' i2 l2 S2=>hQ w' br u' i2 (Le.then hi aI l1 l2) S2⟩⟩;simp only[Instr.takeDeferred,Z1,dS (P:=P) hh az,Rn,W8,if_false,jl (P:=P) hh az,VV]
   grind
  grind
 |.call f av::df,d::ds,G,aB,m,m',u,Z,w,h,hd,hu,hi,hn,hQ=>by
  unfold jR at h;obtain⟨⟨cap,us,vs,rfl,fk,mS⟩,E8⟩:=hd;split at h
  .rename_i m1 aG h1;have gq:=n_ hk h;have hc:=hC.Ca N ro f av m G m1 aG h1 ak Z vs u w hu hi fk;refine⟨Q3 hu,.inr ⟨by simp[Z9],.func f,cap.toArray,f,vs.toArray,rfl,?_,λg _=>trivial,?_⟩⟩
   .have⟨Tc,dX,hb⟩:=hC.G8 ro f av m G m1 aG h1;simp only[invoke];rw[Gu dX hb,mS];simp
   .refine hc.mono λe u' w' hR=>?_;cases e with
    |returned v=>
     have⟨cO,JR,i1,l1⟩:=hR;exact Ia hC hk h (E8.mono l1.ext) JR i1 hn λw2 vB u2 i2 l2 G_=>hQ w2 vB u2 i2 (Le.then hi ak l1 l2) G_
    |panicked chain=>cases hR
    |outgrown=>cases hR
  grind
 |[],_::_,_,_,_,_,_,_,_,_,h,_,_,_,_=>h.elim
 |.zK _::_,[],_,_,_,_,_,_,_,_,h,_,_,_,_=>h.elim
 |.call _ _::_,[],_,_,_,_,_,_,_,_,h,_,_,_,_=>h.elim
def Gw(P:V5)(e:aK)(G:St)(r:ResultVar):aF IV:=
 match r with
 |.tmp t=>aa (e.at t)
 |.cell a t=>match e.at a with
  |.ptr id ay ep ext=>match bD P t,G.at id with
   |some s,aa (.cells cs aV mn)=>if s<=ext/\mn<=ep/\ep<=aV then partOf P t cs ay else ah
   |_,_=>ah
  |_=>ah
def Wb(ts:Array ZQ)(r:ResultVar):Sem ZQ:=
 match r with
 |.tmp t=>pure (ts.getD t ZL)
 |.cell a t=>do loadVar t (<-asAddr (ts.getD a ZL))
def ap_{r:ResultVar}(h:Gw P e G r=aa v)(hi:Inv N Z G w)(he:eg Z e ts):∃u,(Wb ts r).run P w=.ok u w/\Rv Z v u:=by
 unfold Gw at h;unfold Wb;cases r with
 |tmp t=>cases h;exact⟨_,by simp only[VV],he.2 t⟩
 |cell a t=>
  simp only at h⊢;have hr:=he.2 a;split at h<;>try cases h
  rename_i id ay ep ext hx;rw[hx]at hr;split at h<;>try cases h
  rename_i s cs aV mn hs bx;split at h<;>try cases h
  rename_i hc;have⟨ad,x,hu,h1,h2⟩:=aHI hi hs bx hc.1 hc.2.1 hc.2.2 h hr;refine⟨x,?_,h2⟩;rw[hu];simp only[asAddr,Z1,VV,Rn,h1]
def aaj(hi:Inv N Z G w)(he:eg Z e ts):∀{rs:aj ResultVar} {vs:aj IV},rs.mapM (Gw P e G)=aa vs->∃us,(rs.mapM (Wb ts)).run P w=.ok us w/\bu Z vs us
 |[],vs,h=>by
  cases h;exact⟨[],cE,bu.nil⟩
 |r::rs,vs,h=>by
  rw[Tv]at h;cases h1:Gw P e G r with
  |none=>grind
  |some v=>
   rw[h1]at h;cases h2:rs.mapM (Gw P e G)with
   |none=>grind
   |some EU=>
    rw[h2]at h;cases h;have⟨u,k1,k2⟩:=ap_ h1 hi he;have⟨us,k3,k4⟩:=aaj hi he h2;exact⟨u::us,jw,bu.cons k2 k4⟩
def acB(fn:Func)(ts:Array ZQ):results fn ts=(do
 let vs<-fn.results.mapM (Wb ts)
 pure (if h:vs.size=1 then vs[0]else .tuple vs)):=by
 rfl
def aF6{fn:Func}(h:fv P fn e G=aa v):∃vs,fn.results.toList.mapM (Gw P e G)=aa vs/\((∃x,vs=[x]/\v=x)\/(vs.length≠1/\v=.aU vs)):=by
 change(match fn.results.toList with
  |[r]=>Gw P e G r
  |l=>match l.mapM (Gw P e G)with
   |some vs=>aa (.aU vs)
   |none=>ah)=aa v at h
 split at h<;>try simp_all
 rename_i hl;split at h
 .rename_i vs fk;cases h;refine⟨vs,fk,.inr ⟨λbf=>?_,rfl⟩⟩
  have x_:fn.results.toList.length=vs.length:=by
   clear hl bf;generalize fn.results.toList=l at fk;induction l generalizing vs with
   |nil=>grind
   |cons r rs ih=>
    rw[Tv]at fk;cases h1:Gw P e G r with
    |none=>grind
    |some v=>
     rw[h1]at fk;cases h2:rs.mapM (Gw P e G)with
     |none=>grind
     |some EU=>
      rw[h2]at fk;cases fk
      grind
  cases hc:fn.results.toList with
  |nil=>grind
  |cons r rs=>
   simp_all
 grind
theorem yh{fn:Func}(h:fv P fn e G=aa v)(hi:Inv N Z G w)(he:eg Z e ts):∃u,(results fn ts).run P w=.ok u w/\Rv Z v u:=by
 have⟨vs,fk,h⟩:=aF6 h;have⟨us,h1,h2⟩:=aaj hi he fk
 have hm:(fn.results.mapM (Wb ts)).run P w=.ok us.toArray w:=by
  rw[aJr,aLa,h1];rfl
 rw[acB];simp only[Z1,hm];refine⟨_,rfl,?_⟩;rcases h with⟨x,rfl,rfl⟩|⟨bf,rfl⟩
 .obtain⟨u,rfl,hu⟩:=L9 h2
  grind
 .have:¬us.toArray.size=1:=by rw[List.size_toArray,<-h2.1];omega
  rw[dif_neg this];exact uZ h2
def aIF:∀{av:aj IV} {us:aj ZQ} {k:Nat} {e:aK} {ts:Array ZQ},eg Z e ts->bu Z av us->
 eg Z ((av.zipIdx k).foldl (λe (v,i)=>e.put (aa i) v) e) ((us.zipIdx k).foldl (λts (u,i)=>ts.setIfInBounds i u) ts)
 |[],us,k,e,ts,h,hr=>by simp_all[hr.of_nil]
 |v::av,us,k,e,ts,h,hr=>by
  obtain⟨u,xF,rfl,h1,h2⟩:=hr.A7;simp only[aJc];exact aIF (h.set h1 k) h2
theorem ac1:∀(us:aj ZQ) (k:Nat) (ts:Array ZQ),k+us.length<=ts.size->(us.zipIdx k).foldl (λts (u,i)=>ts.setIfInBounds i u) ts=(ts.toList.take k++us++ts.toList.drop (k+us.length)).toArray
 |[],k,ts,_=>by simp
 |u::us,k,ts,h=>by
  simp only[aJc,Zv];rw[ac1 us (k+1) _ aI]
  congr 1
  have h1:(ts.toList.set k u).take (k+1)=ts.toList.take k++[u]:=by
   grind [List.take_add_one,List.take_set_of_le]
  have h2:(ts.toList.set k u).drop (k+1+us.length)=ts.toList.drop (k+(us.length+1)):=by
   rw[List.drop_set_of_lt ak]
   grind
  grind
theorem anH(n:Nat):eg Z ⟨n,.lf⟩ (Nq n ZL):=by
 refine⟨az,λt=>?_⟩
 have:(Nq n ZL).getD t ZL=ZL:=by
  rw[Ti,Array.getElem?_replicate]
  grind
 rw[this];exact .raw _
def DW(hr:bu Z av us)(hn:av.length<=n):
 eg Z (av.zipIdx.foldl (λe (v,i)=>e.put (aa i) v) ⟨n,.lf⟩) (us.toArray++Nq (n- us.toArray.size) ZL):=by
 have h:=aIF (k:=0) (anH (Z:=Z) n) hr;have hl:=hr.1;rw[ac1 us 0 _ aI]at h
 have:(us.toArray++Nq (n- us.toArray.size) ZL)=((Nq n ZL).toList.take 0++us++(Nq n ZL).toList.drop (0+us.length)).toArray:=by
  simp
 grind
def aak(hS:kC P S m)(hC:gg P S)(hm:c9 S)(hk:cG S){Wd:Func}{e':aK}
 (h:GY P S ro f av G=aa (Wd,e',mo,aB))(hN:aB.n<=N)(hi:Inv N Z G w)(hr:bu Z av us)
 (hQ:∀ts w' br u',Inv N br aB w'->Le ro Z w G br w' aB->eg br e' ts->rV br mo u'->LeavesIn Z9 0 P Wd ts R [] u' w'):CallsIn Z9 0 P f us.toArray w R:=by
 unfold GY at h;split at h
 .rename_i fn dX;split at h
  .rename_i c hb;split at h<;>try cases h
   simp only at h
   have key:∀{ex:Ex} {e1:aK} {df:aj Df} {aG:St} {mi:aF IV},S.code ro ah f c (av.zipIdx.foldl (λe (v,i)=>e.put (aa i) v) ⟨fn.ntmps,.lf⟩) [] G=aa ⟨ex,e1,df,aG⟩->
    (((ex=.normal\/ex=.ret)/\mi=ah)\/∃v,ex=.dh v/\mi=aa v)->
    (match jR S ro df mi aG with
     |some (m,G)=>aa (fn,e1,m,G)
     |none=>ah)=aa (Wd,e',mo,aB)->CallsIn Z9 0 P f us.toArray w R:=by
    intro ex e1 df aG mi h1 hex h;split at h
    .rename_i m2 dJ h2;obtain⟨rfl,rfl,rfl,rfl⟩:fn=Wd/\e1=e'/\m2=mo/\dJ=aB:=aI;clear h;have gq:=n_ hk h2;have fY:aG.n<=N:=ak;refine callsIn_of_wp_marks dX hb trivial ?_;refine(hS N ro ah f c _ [] G _ h1 fY Z9 Z {tmps:=us.toArray++Nq (fn.ntmps- us.toArray.size) ZL,defers:=[]} w _ (.inl ⟨rfl,rfl⟩) hi (DW hr ak) trivial ?_).wp;intro a1 w1 cO gP i1 l1 dt d1 p1
     have:∀u,rV cO mi u->LeavesInM Z9 0 P fn a1.tmps R a1.defers u w1:=λu hu=>
      Ia hC hk h2 d1 hu i1 hN λw2 vB u2 i2 l2 G_=>hQ a1.tmps w2 vB u2 i2 (Le.then hi fY l1 l2) (dt.mono l2.ext) G_
     rcases hex with⟨rfl|rfl,rfl⟩|⟨v,rfl,rfl⟩
     .exact this _ rfl
     .exact this _ rfl
     .obtain⟨u,rfl,hu⟩:=p1;exact this _ ⟨u,rfl,hu⟩
    grind
   split at h
   .rename_i h1;exact key h1 (.inl ⟨.inl rfl,rfl⟩) h
   .rename_i h1;exact key h1 (.inl ⟨.inr rfl,rfl⟩) h
   .rename_i h1;exact key h1 (.inr ⟨_,rfl,rfl⟩) h
   grind
  grind
 grind
def wy(Z:Io):aF IV->FrameMode->Prop
 |none,u=>u=.returning\/∃x,u=.panicking [{v:=x,recovered:=ab}]
 |some v,u=>∃x,u=.panicking [{v:=x,recovered:=af}]/\Rv Z v x
variable{m:aF IV}{c0:Frame}{v7:aj Frame}
def wy.of(h:rV Z m u):wy Z m u:=by
 cases m with
 |none=>exact .inl h
 |some v=>exact h
def wy.mono(kV:Ext Z br)(h:wy Z m u):wy br m u:=by
 cases m with
 |none=>exact h
 |some v=>have⟨x,h1,h2⟩:=h;exact⟨x,h1,h2.mono kV⟩
def wy.settle(h:wy Z m u):rV Z m (Go.settle u):=by
 cases m with
 |none=>
  rcases h with rfl|⟨x,rfl⟩
  .rfl
  .rfl
 |some v=>obtain⟨x,rfl,h2⟩:=h;exact⟨x,rfl,h2⟩
def acC(N ro:Nat)(Z:Io)(w:Z0)(G:St)(cr:CR)(m:aF IV)(c0:Frame)(v7:aj Frame)(Q:Exit->Act->aj Frame->Z0->Prop):Prop:=
 ∀a' w' br u' ch,Inv N br cr.G w'->Le ro Z w G br w' cr.G->eg br cr.e a'.tmps->oH br cr.df a'.defers->V6 br ch cr.ex->wy br m u'->Q (Kt ch cr.ex) a' ({c0 with mode:=u'}::v7) w'
def Dv{Q:Exit->Act->aj Frame->Z0->Prop}:∀{l:aj YX} {k:Nat} {e:aK} {G:St} {e':aK} {mo ud:aF IV} {aB:St} {Z:Io} {a:Act} {u:FrameMode} {w:Z0},
 ao.toList.drop k=l->sC P ro ao l e mo G=aa (e',ud,aB)->aB.n<=N->Inv N Z G w->eg Z e a.tmps->a.defers=[]->wy Z mo u->acC N ro Z w G ⟨.normal,e',[],aB⟩ ud c0 v7 Q->
 wpOpsSIn Z9 0 P ao Q (Ln k l.length) a ({c0 with mode:=u}::v7) w
 |[],k,e,G,e',mo,ud,aB,Z,a,u,w,hl,h,hN,hi,he,hd,hu,hQ=>by
  cases h;exact hQ a w Z u [] hi (Le.refl _ _ _ _) he (by rw[hd];trivial) trivial hu
 |o::aE,k,e,G,e',mo,ud,aB,Z,a,u,w,hl,h,hN,hi,he,hd,hu,hQ=>by
  have lh:ao.toList.drop (k+1)=aE:=by
   rw[<-UF (i:=1) (j:=k),hl];rfl
  have bM:ao[k]?=aa o:=by
   have:(ao.toList.drop k)[0]?=aa o:=aI
   grind
  simp only[Zx,XA];unfold wpOpsSIn;rw[bM];exists λf _=>trivial;have NO:∀v,(a.put o.dst v).defers=[]:=λv=>by cases o.dst<;>exact hd
  unfold sC at h;rw[xI he];split at h
  .rename_i hw;rw[aW hw];split at h
   .rename_i Q4
    have hex:(UP a.eval o).run P w=.ok .recover w:=by
     unfold rI at Q4;split at Q4
     .rename_i fU;simp only[UP,fU,resolve,Z1,VV,Rn,invoke,builtin]
     grind
    rw[hex];split at h
    .obtain⟨x,rfl,hx⟩:=hu;exact Dv lh h hN hi (he.put hx _) (NO _) (.inr ⟨x,rfl⟩) hQ
    .have n9:recoverD ({c0 with mode:=u}::v7)=ah:=by
      rcases hu with rfl|⟨x,rfl⟩<;>rfl
     rw[n9];exact Dv lh h hN hi (he.put (.raw _) _) (NO _) hu hQ
   .split at h
    .rename_i v aG h1;have fY:=YE (A9 h) hN;have⟨u1,w1,cO,hr,h2,h3,h4⟩:=tx hi he.eval h1 fY;have Te:=λa' w' br u' ch g1 g2 g3 g4 g5 g6=>hQ a' w' br u' ch g1 (Le.then hi fY h4 g2) g3 g4 g5 g6;rcases hr with hr|⟨hr,rfl⟩
     .rw[hr];exact Dv lh h hN h3 ((he.mono h4.ext).put h2 _) (NO _) (hu.mono h4.ext) Te
     .rw[hr];exact Dv lh h hN h3 ((he.mono h4.ext).put h2 _) (NO _) (hu.mono h4.ext) Te
    grind
  .rename_i hw;rw[aY hw];exact Dv lh h hN hi (he.put xg _) (NO _) hu hQ
variable{m:Nat}
def aAU(hS:kC P S m)(hm:c9 S){fn:V4}:∀{c:Code} {Q:Exit->Act->aj Frame->Z0->Prop} {e:aK} {mo ud:aF IV} {G:St} {cr:CR} {Z:Io} {a:Act} {u:FrameMode} {w:Z0},
 GZ P S ro fn c e mo G=aa (cr,ud)->cr.G.n<=N->Inv N Z G w->eg Z e a.tmps->a.defers=[]->wy Z mo u->acC N ro Z w G cr ud c0 v7 Q->c.wpSIn Z9 0 P Q a ({c0 with mode:=u}::v7) w:=by
 intro c
 have other:∀{c:Code} {Q:Exit->Act->aj Frame->Z0->Prop} {e:aK} {mo ud:aF IV} {G:St} {cr:CR} {Z:Io} {a:Act} {u:FrameMode} {w:Z0},(match S.code ro ah fn c e [] G with|some r=>aa (r,mo)|none=>ah)=aa (cr,ud)->
  cr.G.n<=N->Inv N Z G w->eg Z e a.tmps->a.defers=[]->wy Z mo u->acC N ro Z w G cr ud c0 v7 Q->c.wpSIn Z9 0 P Q a ({c0 with mode:=u}::v7) w:=by
  intro c Q e mo ud G cr Z a u w h hN hi he hd hu hQ;split at h
  .rename_i h1;cases h;refine wpSIn_of_wpIn rfl ?_;refine(hS N ro ah fn c e [] G _ h1 hN Z9 Z a w _ (.inl ⟨rfl,rfl⟩) hi he (by rw[hd];trivial) ?_).wp;intro a1 w1 cO gP i1 l1 e1 d1 p1;exact hQ a1 w1 cO u gP i1 l1 e1 d1 p1 (hu.mono l1.ext)
  grind
 induction c with
 |seq x y ihx ihy=>
  intro Q e mo ud G cr Z a u w h hN hi he hd hu hQ;unfold GZ at h;refine wpSIn_seq ?_;split at h
  .rename_i e1 aG m1 h1;have fY:=YE (NM hm h) hN;refine ihx h1 fY hi he hd hu ?_;intro a1 w1 cO u1 gP i1 l1 dt d1 p1 JR;exact ihy h hN i1 dt d1.nil JR λa' w' br u' ch g1 g2 g3 g4 g5 g6=>hQ a' w' br u' ch g1 (Le.then hi fY l1 g2) g3 g4 g5 g6
  .cases h
  .rename_i aFv aAV;refine ihx h hN hi he hd hu ?_;intro a1 w1 cO u1 gP i1 l1 dt d1 p1 JR;have:=hQ a1 w1 cO u1 gP i1 l1 dt d1 p1 JR;cases hx:cr.ex with
   |normal=>exact bH (by rw[h];cases cr;grind) (aAV cr.e cr.df cr.G ud)
   |exit id=>rw[hx]at this;exact this
   |goto l=>rw[hx]at this;exact this
   |ret=>rw[hx]at this;exact this
   |dh v=>rw[hx]at this;exact this
 |region id ao draw=>
  intro Q e mo ud G cr Z a u w h hN hi he hd hu hQ;unfold GZ at h;split at h
  .have G6:draw=af:=by
    grind
   subst G6;split at h
   .rename_i h1;cases h;refine wpSIn_region ?_;have:=Dv (k:=0) az h1 hN hi he hd hu hQ
    simp_all[Yo]
   grind
  grind
 |_=>
  grind [GZ]
theorem aqa(hS:kC P S m)(hm:c9 S){ud:aF IV}(h:HW P S ro f av mo G=aa (ud,aB))(hN:aB.n<=N)(hu:rV Z mo u)(hi:Inv N Z G w)(hr:bu Z av us):
 CallsDIn Z9 0 P f us.toArray u w (Pc N ro Z w G ud aB):=by
 unfold HW at h;split at h
 .rename_i fn dX;split at h
  .cases h
  split at h
  .rename_i c hb;split at h<;>try cases h
   have key:∀{ex:Ex} {e1:aK} {aG:St} {m1:aF IV},GZ P S ro f c (av.zipIdx.foldl (λe (v,i)=>e.put (aa i) v) ⟨fn.ntmps,.lf⟩) mo G=aa (⟨ex,e1,[],aG⟩,m1)->(ex=.normal\/ex=.ret)->
    (match fv P fn e1 aG with
     |some _=>aa (m1,aG)
     |none=>ah)=aa (ud,aB)->CallsDIn Z9 0 P f us.toArray u w (Pc N ro Z w G ud aB):=by
    intro ex e1 aG m1 h1 hex h;split at h
    .rename_i v hv;cases h;refine callsDIn_of_wpSIn dX hb trivial λc0 cs M1=>?_;have dz:c0={c0 with mode:=u}:=by rw[<-M1]
     have:=aAU hS hm (c0:=c0) (v7:=cs) (Q:=bodyPostS P fn c0 cs (Pc N ro Z w G ud aB)) (a:={tmps:=us.toArray++Nq (fn.ntmps- us.toArray.size) ZL,defers:=[]}) h1 hN hi (DW hr ak) rfl (wy.of hu) ?_
     .grind
     .intro a1 w1 cO u1 gP i1 l1 dt d1 p1 JR;have⟨x,k1,k2⟩:=yh hv i1 dt;have:bodyPostS P fn c0 cs (Pc N ro Z w G ud aB) .ret a1 ({c0 with mode:=u1}::cs) w1:=⟨d1.nil,u1,rfl,x,k1,cO,JR.settle,i1,l1⟩;rcases hex with rfl|rfl<;>exact this
    grind
   grind
  grind
 grind
theorem Q5(hS:kC P S m)(hC:gg P S)(hm:c9 S)(hk:cG S):gg P (pN P S) where
 call:=by
  intro N ro f av G v aB h hN Z us w hi hr;simp only[pN,VF]at h;split at h
  .rename_i Wd e1 aG h1;split at h
   .rename_i v' h2;cases h;refine aak hS hC hm hk h1 hN hi hr λts w' br u' i1 l1 dt hu=>?_;rw[show u'=_ from hu];have⟨u,k1,k2⟩:=yh h2 i1 dt;exact⟨u,k1,br,k2,i1,l1⟩
   grind
  grind
 dh:=by
  intro N ro f av G v aB h hN Z us w hi hr;simp only[pN,acj]at h;split at h
  .rename_i h1;cases h;refine aak hS hC hm hk h1 hN hi hr λts w' br u' i1 l1 dt hu=>?_;obtain⟨x,rfl,hx⟩:=hu;exact⟨br,⟨x,rfl,hx⟩,i1,l1⟩
  grind
 Ca:=by
  intro N ro f av mo G ud aB h hN Z us u w hu hi hr;exact aqa hS hm h hN hu hi hr
 G8:=by
  intro ro f av mo G ud aB h;simp only[pN,HW]at h
  grind
def ak9(hD:∀m S,kC P S m->gg P S->c9 S->cG S->V8 P S):∀n,kC P (ev P n) n/\gg P (ev P n)/\c9 (ev P n)/\cG (ev P n)
 |0=>by
  refine⟨?_,⟨?_,?_,?_,?_⟩,?_,⟨?_,?_,?_⟩⟩
  .intro N ro rd fn c e df G cr h;cases h
  .intro N ro f av G v aB h;cases h
  .intro N ro f av G v aB h;cases h
  .intro N ro f av m G m' aB h;cases h
  .intro ro f av m G m' aB h;cases h
  .intro ro rd fn c e df G cr h;cases h
  .intro ro f av G v aB h;cases h
  .intro ro f av G v aB h;cases h
  .intro ro f av m G m' aB h;cases h
 |n+1=>by
  have⟨h1,h2,h3,h4⟩:=ak9 hD n;exact⟨aai h1 h2 h3 h4 (hD n _ h1 h2 h3 h4),Q5 h1 h2 h3 h4,aIu h3 h4,Ks h3 h4⟩
def u4{E9:Xs->IV}(h:∀x∈o.op.operands,Y x=E9 x):aN P ro Y o G=aN P ro E9 o G:=by
 have⟨dst,op,type,pos,after,guard⟩:=o
 have ak_:∀ps:Array (Nat×Xs),(∀x∈(ps.toList.map (·.2)),Y x=E9 x)->(ps.toList.map λ(i,x)=>(i,Y x))=(ps.toList.map λ(i,x)=>(i,E9 x)):=λps hp=>
  YH λp hm=>by
   have⟨i,x⟩:=p;simp only[hp x (List.mem_map.2 ⟨(i,x),hm,rfl⟩)]
 cases op<;>simp only[Op.operands]at h<;>unfold aN<;>dsimp only
 case move x=>rw[h x az]
 case assign x=>rw[h x az]
 case pick c x y=>rw[h c az,h x az,h y az]
 case box t x=>rw[h x az]
 case build t ps=>rw[ak_ ps λx hx=>h x (by simpa using hx)]
 case buildSlice t n ps=>rw[ak_ ps λx hx=>h x (by simpa using hx)]
 case load t x=>rw[h x az]
 case store t x y=>rw[h x az,h y az]
 case nilCheck x=>rw[h x az]
 case binOp op t x y yT=>rw[h x az,h y az]
 case unOp op t x=>rw[h x az]
 case convert s d x=>rw[h x az]
 case makeInterface t x=>rw[h x az]
 case makeFunc fn first captured=>
  rw[YH (l:=first.toList) λx hx=>h x (by simp at hx;simp[hx]),YH (l:=captured.toList) λx hx=>h x (by simp at hx;simp[hx])]
 case makeMap t r=>cases r with|none=>rfl|some x=>dsimp only;rw[h x az]
 case makeSlice t x y=>rw[h x az,h y az]
 case slice t x lo hi mx=>
  have e1:lo.map Y=lo.map E9:=by cases lo with|none=>rfl|some y=>simp only[ZO,h y az]
  have e2:hi.map Y=hi.map E9:=by cases hi with|none=>rfl|some y=>simp only[ZO,h y az]
  have e3:mx.map Y=mx.map E9:=by cases mx with|none=>rfl|some y=>simp only[ZO,h y az]
  rw[h x az,e1,e2,e3]
 case fieldAddr t x f=>rw[h x az]
 case field t x f=>rw[h x az]
 case indexAddr t x y=>rw[h x az,h y az]
 case index t x y=>rw[h x az,h y az]
 case lookup t x y ok=>rw[h x az,h y az]
 case mapUpdate t x y z=>rw[h x az,h y az,h z az]
 case insert t x y z=>rw[h x az,h y az,h z az]
 case range t x=>rw[h x az]
 case next x s=>rw[h x az]
 case entry x=>rw[h x az]
 case extract x i=>rw[h x az]
 case typeAssert x xt t ok=>rw[h x az]
 case panic x=>rw[h x az]
 case call c=>
  have ha:c.args.toList.map Y=c.args.toList.map E9:=YH λx hx=>h x (by simp[X0];right;simpa using hx);rw[ha];cases hc:c.callee with
  |value f=>dsimp only;rw[h f (by simp[X0,hc])]
  |invoke r m=>rfl
  |builtin b=>rfl
 case defer c=>
  have ha:c.args.toList.map Y=c.args.toList.map E9:=YH λx hx=>h x (by simp[X0];right;simpa using hx);rw[ha];cases hc:c.callee with
  |value f=>dsimp only;rw[h f (by simp[X0,hc])]
  |invoke r m=>rfl
  |builtin b=>rfl
structure Gn(Fr:Nat->Prop)(Z:Io)(cur:Nat->aF Ob)(w:Z0):Prop where
 mem:∀b c,Z.m b=aa c->∃e f,w.heap[b]?=aa (.cells c e f)
 sep:∀b c id,Z.m b=aa c->¬Own Z id b
 iO:∀id b,Own Z id b->b<w.heap.size
 inj:∀i j b,Own Z i b->Own Z j b->i=j
 fresh:∀id,Fr id->∀e,Z id e=ah
 obj:∀id o,cur id=aa o->oQ Z w id o
variable{Fr:Nat->Prop}{cur:Nat->aF Ob}{nk:Nat}{fI:St}{jj:Io}{w0:Z0}
def Gn.inv(h:Gn Fr Z cur w)(sub:∀id o,G.at id=aa o->cur id=aa o)(fr:∀id,G.n<=id->id<N->Fr id)(wf:∀id,G.n<=id->G.at id=ah):Inv N Z G w:=
 ⟨h.mem,h.sep,h.iO,λid h1 h2=>h.fresh id (fr id h1 h2),h.inj,λid o ho=>h.obj id o (sub id o ho),wf⟩
def acD{o:Ob}(h:oQ Z w id o):∃e l,Z id e=aa l:=by
 cases o with
 |cells cs ep mn=>have⟨_,⟨l,hl,_⟩,_⟩:=h;grind
 |map es c=>have⟨l,_,hl,_⟩:=h;grind
 |uW s p=>have⟨l,hl,_⟩:=h;grind
 |na a b c d=>have⟨l,_,hl,_⟩:=h;grind
 |loop a b c d e f g h' i=>have⟨l,_,_,_,hl,_⟩:=h;grind
 |JH t=>have⟨l,hl,_⟩:=h;grind
def E_(cur:Nat->aF Ob)(G aB:St)(id:Nat):aF Ob:=if(G.at id).isSome\/(G.n<=id/\id<aB.n)then aB.at id else cur id
structure Fa(ro nk:Nat)(jj:Io)(w0:Z0)(fI:St)(Fr:Nat->Prop)(Z:Io)(cur:Nat->aF Ob)(w:Z0):Prop extends Gn Fr Z cur w where
 ext:Ext jj Z
 zM:∀b c,Z.m b=aa c->jj.m b=aa c\/w0.heap.size<=b
 own:∀id b,Own Z id b->Own jj id b\/w0.heap.size<=b
 EV:∀id,fI.at id=ah->(id<fI.n\/nk<=id)->∀e,Z id e=jj id e
 dead:∀id,fI.at id=ah->(id<fI.n\/nk<=id)->cur id=ah
 BN:∀id,id<ro->id<fI.n->cur id=fI.at id
 os:w.os=w0.os
 tape:w.tape=w0.tape
 output:w.output=w0.output
 size:w0.heap.size<=w.heap.size
 frame:∀b,b<w0.heap.size->(∀id,Own jj id b->id<ro\/fI.at id=ah)->w.heap[b]?=w0.heap[b]?
def Fa.start(h:Inv N Z G w)(hnk:nk<=N):Fa ro nk Z w G (λid=>G.n<=id/\id<N) Z G.at w:=
 {mem:=h.mem,sep:=h.sep,iO:=h.iO,inj:=h.inj,fresh:=λid hid=>h.fresh id hid.1 hid.2,obj:=h.obj,ext:=Ext.refl _,zM:=λ_ _ h=>.inl h,own:=λ_ _ h=>.inl h,
  EV:=λ_ _ _ _=>rfl,dead:=λ_ h _=>h,BN:=λ_ _ _=>rfl,os:=rfl,tape:=rfl,output:=rfl,size:=XS _,frame:=λ_ _ _=>rfl}
def Fa.step{N' ja:Nat}(h:Fa ro nk jj w0 fI Fr Z cur w)(hf0:∀id,fI.n<=id->id<nk->∀e,jj id e=ah)
 (sub:∀id o,G.at id=aa o->cur id=aa o)(lN:∀id,G.n<=id->id<aB.n->fI.n<=id/\id<nk)(fP:∀id,id<ro->(G.at id).isSome=ab->id<ja)(wf:∀id,G.n<=id->G.at id=ah)
 (hi:Inv N' br aB w')(hl:Le ja Z w G br w' aB):Fa ro nk jj w0 fI (λid=>Fr id/\¬(G.n<=id/\id<aB.n)) br (E_ cur G aB) w':=by
 have aal:∀id,cur id=ah->G.at id=ah:=λid hc=>by
  cases hs:G.at id with
  |none=>rfl
  |some o=>grind
 have out:∀id,¬(G.n<=id/\id<aB.n)->id<G.n\/aB.n<=id:=λid hn=>by omega
 have Tf:∀id,(id<fI.n\/nk<=id)->¬(G.n<=id/\id<aB.n):=λid hh hn=>by grind
 exact{
  mem:=hi.mem,sep:=hi.sep,iO:=hi.iO,inj:=hi.inj
  fresh:=λid hid e=>by
   have hn:G.at id=ah:=by
    cases hs:G.at id with
    |none=>rfl
    |some o=>
     have⟨e',l,dq⟩:=acD (h.obj id o (sub id o hs));rw[h.fresh id hid.1 e']at dq;grind
   rw[hl.EV id hn (out id hid.2) e,h.fresh id hid.1 e]
  obj:=λid o ho=>by
   unfold E_ at ho;split at ho<;>try exact hi.obj id o ho
   rename_i hc
   have hn:G.at id=ah:=by
    simp_all
   have hr:=λhx=>hc (.inr hx);refine(h.obj id o ho).keep hl.ext (λe=>hl.EV id hn (out id hr) e) λb hb=>?_;refine hl.frame b (h.iO id b hb) λbY mv=>.inr ?_;rw[h.inj bY id b mv hb];omega
  ext:=h.ext.trans hl.ext
  zM:=λb c hb=>(hl.zM b c hb).elim (λhb=>h.zM b c hb) λhb=>.inr (YE h.size hb)
  own:=λid b hb=>(hl.own id b hb).elim (λhb=>h.own id b hb) λhb=>.inr (YE h.size hb)
  EV:=λid hn hr e=>(hl.EV id (aal id (h.dead id hn hr)) (out id (Tf id hr)) e).trans (h.EV id hn hr e)
  dead:=λid hn hr=>by
   unfold E_;rw[aY]
   .exact h.dead id hn hr
   .rw[aal id (h.dead id hn hr)]
    grind
  BN:=λid hr hn=>by
   unfold E_;split<;>try exact h.BN id hr hn
   rename_i hc;have hs:=hc.resolve_right (Tf id (.inl hn));have⟨o,ho⟩:=Kv.1 hs;have aq:id<G.n:=Tp λhle=>by grind
   rw[hl.BN id (fP id hr hs) aq,ho,<-sub id o ho];exact h.BN id hr hn
  os:=hl.os.trans h.os
  tape:=hl.tape.trans h.tape
  output:=hl.output.trans h.output
  size:=YE h.size hl.size
  frame:=λb hb hc=>by
   rw[hl.frame b (Zu hb h.size) ?_,h.frame b hb hc];intro id hid;cases hs:G.at id with
   |none=>simp
   |some o=>
    have aq:id<G.n:=Tp λhle=>by grind
    rcases h.own id b hid with ho|ho
    .rcases hc id ho with hr|hd
     .grind
     .right
      have hr:id<fI.n\/nk<=id:=by
       by_cases h1:id<fI.n
       .omega
       .by_cases h2:id<nk
        .have⟨e,l,dq,_⟩:=ho
         grind
        omega
      have:=sub id o hs;rw[h.dead id hd hr]at this;grind
    .omega}
def Fa.fr{Fr':Nat->Prop}(h:Fa ro nk jj w0 fI Fr Z cur w)(hf:∀id,Fr' id->Fr id):Fa ro nk jj w0 fI Fr' Z cur w:=
 {h with fresh:=λid hid=>h.fresh id (hf id hid)}
def Fa.fin{t:T Ob}(h:Fa ro nk jj w0 fI Fr Z cur w)(hn:fI.n<=nk)(sE:∀id,nk<=id->id<N->Fr id)
 (sub:∀id o,t.get id=aa o->cur id=aa o)(wf:∀id,nk<=id->t.get id=ah)(hp:∀id,id<ro->id<fI.n->t.get id=fI.at id):
 Inv N Z ⟨nk,t⟩ w/\Le ro jj w0 fI Z w ⟨nk,t⟩:=by
 refine⟨h.toGn.inv sub sE wf,h.ext,h.own,h.EV,λid hn hr=>?_,hp,hn,h.os,h.tape,h.output,h.size,h.frame,h.zM⟩;have:=h.dead id hn hr;cases hs:t.get id with
 |none=>exact hs
 |some o=>grind
end Go.Ev

