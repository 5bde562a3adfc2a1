/- Lemmas over the model, without conditions. -/
import Derived.Test.YtabefplkfkfdfaaGreatPAc
open Nat renaming beq->awl,ble->axj,blt->aw6,rec->az0,beq_eq->awV,eq_of_beq_eq_true->awk,add_mul->awU,le_refl->awe,le_trans->awy,ble_eq->axS,mul_le_mul_right->awL,zero_mul->ay8,zero_add->axo,zero_le->aw5,sub_zero->azG
open List renaming replicate->awE,range->axt,getElem?_append_left->awp,getElem?_eq_some_iff->awa,getElem?_eq_getElem->av_,getElem?_map->awu,all_eq_true->awt,getElem?_of_mem->axG,mem_of_getElem?->awq,flatMap_cons->axP,getElem?_append_right->awD,length_append->awi,getElem?_set_ne->ayo,eq_nil_of_length_eq_zero->awG,append_nil->aww,getElem?_take->awR,getElem?_drop->axR,take_take->azi,getElem_mem->awd,getElem?_range->ax9,drop_of_length_le->awY,mem_append->awm,mem_of_mem_take->axv,mem_of_mem_drop->ayM,length_eq_one_iff->ay6,mem_flatMap->axq,all_append->azR,eq_of_mem_replicate->axl
open Go.Utf8 renaming decode->axU
open Go.IntKind renaming i64->awK
open Option renaming bind_eq_some_iff->awx,map_eq_some_iff->awj,bind_some->awc,getD_some->aw8,map_some->awQ
open Option.some renaming injEq->awf,inj->ayh
open Prod.mk renaming injEq->awM
open Bool renaming and_eq_true->awb,or_eq_true->awO,not_eq_true'->awX
open Go.Builtin renaming len->aA_,append->aAG
open Option renaming some->aa,none->ah
open Bool renaming true->ab,false->af
set_option linter.all false
namespace Go.Ev
section
inductive SE where
 |var (i:Nat)
 |i (n:Int)
 |k (k:IntKind) (n:Int)
 |b (t:Bool)
 |s (l:List UInt8)
 |raw (v:Value)
 |ok (e:SE)
 |lV (n:Nat) (e:SE)
 |aO (e:SE) (j:Nat)
 |idx (s:Nat) (e i:SE)
 |oY (s:Nat) (e i:SE) (j:Nat)
 |len (e:SE)
 |uy (e:SE)
 |an
 |ac (a r:SE)
 |tr (s:Nat) (r:SE)
 |tp (r:SE)
 |cat (s bytes:Nat) (e f:SE)
 |yV (s:Nat) (e i x:SE)
 |sub (s:Nat) (e lo hi:SE)
 |proj (e:SE) (j:Nat)
 |bin (op:BinOp) (t:TypeId) (a b:SE)
 |un (op:UnOp) (a:SE)
 |cv (src dst:TypeId) (a:SE)
 |mx (big:Bool) (a b:SE)
 |LW (e i:SE)
 |Kn (e lo hi:SE)
 |rw(e:SE)
 |rws (e:SE)
 |has (kt:TypeId) (m key:SE)
 |get (kt:TypeId) (m key z:SE)
 |ins (kt:TypeId) (m key x:SE)
 |dec (w:Nat) (a p:SE)
 deriving Inhabited
inductive aq where
 |fail (why:Nat)
 |ret (e:SE)
 |test (e:SE) (a b:aq)
 |bind (e:SE) (k:aq)
 |aE (e:SE) (k:aq)
 |call (f:FuncId) (new:Bool) (args:SE) (k:aq)
 |loop (init:SE) (body:aq)
 |pick (es x:SE) (a b:aq)
 |same (es x:SE) (k:aq)
 |uniq (k:aq)
 |tG (body:aq) (m:Nat) (cont:aq)
 |next (lv:Nat) (args:SE)
 |bad (d f id n0 nm:Nat) (hd:List (Nat×Nat×PV SE)) (hl:List (LO SE)) (g:List (Nat×Nat×PV SE)) (l:List (LO SE))
 deriving Inhabited
section eqs
def akj(a b:IntKind):Bool:=a==b
def kB{α:Type}(f:α->α->Bool):List α->List α->Bool
 |[],[]=>ab
 |a::as,b::bs=>f a b&&kB f as bs
 |_,_=>af
def SE.eq:SE->SE->Bool
 |.var x,.var y=>awl x y
 |.i x,.i y=>x==y
 |.k j x,.k j' y=>akj j j'&&x==y
 |.b x,.b y=>x==y
 |.s x,.s y=>kB (·==·) x y
 |.ok x,.ok y=>x.eq y
 |.aO e j,.aO f j'=>awl j j'&&e.eq f
 |.idx q e x,.idx q' e' x'=>awl q q'&&e.eq e'&&x.eq x'
 |.oY q e x j,.oY q' e' x' j'=>awl q q'&&awl j j'&&e.eq e'&&x.eq x'
 |.len e,.len f=>e.eq f
 |.uy e,.uy f=>e.eq f
 |.an,.an=>ab
 |.ac a r,.ac a' r'=>a.eq a'&&r.eq r'
 |.tr q r,.tr q' r'=>awl q q'&&r.eq r'
 |.tp r,.tp r'=>r.eq r'
 |.proj e j,.proj f j'=>awl j j'&&e.eq f
 |.bin op t x y,.bin op' t' x' y'=>op==op'&&awl t t'&&x.eq x'&&y.eq y'
 |.un op x,.un op' x'=>op==op'&&x.eq x'
 |.cv q d x,.cv q' d' x'=>awl q q'&&awl d d'&&x.eq x'
 |.mx t x y,.mx t' x' y'=>t==t'&&x.eq x'&&y.eq y'
 |.rw x,.rw y=>x.eq y
 |.LW e x,.LW e' x'=>e.eq e'&&x.eq x'
 |.dec w e x,.dec w' e' x'=>awl w w'&&e.eq e'&&x.eq x'
 |_,_=>af
end eqs
structure SS where
 g:List (Nat×Nat×PV SE)
 l:List (LO SE)
 n:Nat
 lv:Nat
 nt:Nat
 deriving Inhabited
def SS.ln(V:SS):Nat×Nat:=(V.lv,V.nt)
structure Hint where
 d:Nat
 f:Nat
 id:Nat
 LX:List (Nat×Nat×Nat)
 AO:List (Nat×Nat)
 drop:List (Nat×Nat)
 AP:List (Nat×Nat×Nat)
 deriving Inhabited
structure fe where
 pure:List Nat
 Zj:List Nat
 stop:List Nat
 hints:List Hint
 rows:List Nat
section run
variable(P:Program)(cfg:fe)
def fieldAt(s:TypeId)(f:Nat):Option (Nat×Nat):=
 match P.underlying s with
 |some (.struct fields)=>match fields[f]? with
  |some fd=>match aW P fd.type with
   |some sz=>aa (fd.offset,sz)
   |none=>ah
  |none=>ah
 |_=>ah
def elemOf(t:TypeId):Option TypeId:=
 match P.underlying t with
 |some (.slice e)=>aa e
 |_=>ah
def u6:Nat->TypeId->List TypeId
 |0,_=>[]
 |n+1,t=>match P.underlying t with
  |some (.struct fields)=>fields.toList.flatMap λf=>u6 n f.type
  |some (.array m e)=>(awE m (u6 n e)).flatten
  |_=>[t]
def IF(t:TypeId):Bool:=
 match P.underlying t with
 |some .bool|some (.int _)|some .string=>ab
 |_=>af
def AQ(t:TypeId):Value->Cl SE
 |.bool b=>.v (.b b)
 |.int .i64 n=>.v (.i n)
 |.int k n=>.v (.k k n)
 |.string b=>.v (.s b.data.toList)
 |.slice ah 0 0=>match(elemOf P t).bind (aW P)with
  |some s=>if awl s 0 then .v (.raw (.slice ah 0 0))else .nl ab s
  |none=>.v (.raw (.slice ah 0 0))
 |.agg _|.tuple _=>.un
 |v=>.v (.raw v)
def Zk{α β γ:Type}(f:α->β->γ):List α->List β->List γ
 |a::as,b::bs=>f a b::Zk f as bs
 |_,_=>[]
def NU(t:TypeId):Value->PV SE
 |.agg cs=>if awl (u6 P 9 t).length cs.toList.length then .ag (Zk (AQ P) (u6 P 9 t) cs.toList)else .one .un
 |v=>.one (AQ P t v)
def zeroCells(t:TypeId):List (Cl SE):=
 match cZ P t with
 |some z=>if awl (u6 P 9 t).length z.cells.toList.length then Zk (AQ P) (u6 P 9 t) z.cells.toList else z.cells.toList.map λ_=>.un
 |none=>[]
def isAgg(t:TypeId):Bool:=(sY P t)==aa ab
def bM(d:Nat)(V:SS)(t:TypeId):Operand->PV SE
 |.tmp x=>(ct d x V.g).getD (.one .un)
 |.const v=>NU P t v
 |.func f=>.one (.fn f [])
 |.global _=>.one .un
def ff{α:Type}:PV α->List (Cl α)
 |.one c=>[c]
 |.ag cs=>cs
 |.tu _=>[.un]
def vF:List (Cl SE)->Bool
 |[]=>ab
 |.un::_=>af
 |_::cs=>vF cs
def SS.bY(V:SS)(d:Nat)(dst:Option Nat)(pv:PV SE):SS:=
 match dst with
 |none=>V
 |some t=>{V with g:=NL d t pv V.g}
def SS.kM(V:SS)(d:Nat)(dst:Option Nat):SS:=
 match dst with
 |none=>V
 |some t=>{V with g:=EV d t V.g}
def SS.u7(V:SS)(k:Nat):SS:={V with g:=LR k V.g,l:=V.l.map (LO.drop k)}
def SS.setObj(V:SS)(k:Nat)(o:LO SE):SS:={V with l:=V.l.set k o}
def eR:List SE->SE
 |[]=>.an
 |a::as=>.ac a (eR as)
def nI(k:Nat)(V:SS):SS:=
 match V.l[k]? with
 |some (.row s af cut fr es)=>V.setObj k (.row s ab cut fr es)
 |_=>V
def zo(V:SS):Cl SE->Option (Bool×SE×SS)
 |.v z=>aa (ab,z,V)
 |.w fr z=>aa (fr,z,V)
 |.nl _ s=>aa (af,.tr s .an,V)
 |.sr k=>match V.l[k]? with
  |some (.row _ _ _ fr es)=>aa (fr,es,nI k V)
  |_=>ah
 |_=>ah
def wZ(V:SS):List (Cl SE)->Option (Bool×List SE×SS)
 |[]=>aa (af,[],V)
 |c::cs=>match zo V c with
  |some (f1,z,V)=>match wZ V cs with
   |some (f2,zs,V)=>aa (f1||f2,z::zs,V)
   |none=>ah
  |none=>ah
def vG(V:SS):PV SE->Option (Bool×SE×SS)
 |.one c=>zo V c
 |.ag cs=>match wZ V cs with
  |some (f,zs,V)=>aa (f,eR zs,V)
  |none=>ah
 |.tu vs=>match Ti V vs with
  |some (f,zs,V)=>aa (f,.tp (eR zs),V)
  |none=>ah
where Ti (V:SS):List (Bool×List (Cl SE))->Option (Bool×List SE×SS)
 |[]=>aa (af,[],V)
 |(a,cs)::vs=>match wZ V cs with
  |some (f1,zs,V)=>match Ti V vs with
   |some (f2,ys,V)=>match a,zs with
    |true,zs=>aa (f1||f2,eR zs::ys,V)
    |false,[z]=>aa (f1||f2,z::ys,V)
    |_,_=>ah
   |none=>ah
  |none=>ah
def w6:List (Cl SE)->Bool
 |[]=>ab
 |.v _::cs=>w6 cs
 |.nl _ _::cs=>w6 cs
 |_::_=>af
def qb:PV SE->Bool
 |.one c=>w6 [c]
 |.ag cs=>w6 cs
 |.tu _=>af
def ofType(t:TypeId)(e:SE):PV SE:=
 if isAgg P t then .ag ((axt ((aW P t).getD 0)).map λj=>.v (.aO e j))else .one (.v (.ok e))
def tO(t:TypeId)(e:SE)(k:aq):aq:=if isAgg P t then .aE (.lV ((aW P t).getD 0) e) k else .aE (.ok e) k
def Tj(e:SE):Nat->List TypeId->aq->aq
 |_,[],k=>k
 |j,t::ts,k=>tO P t (.proj e j) (Tj e (j+1) ts k)
def vk(e:SE)(V:SS)(k:PV SE->SS->aq):aq:=.aE e (k (.one (.v e)) V)
def NV(e:SE):Nat->List TypeId->List (Bool×List (Cl SE))
 |_,[]=>[]
 |j,t::ts=>(isAgg P t,ff (ofType P t (.proj e j)))::NV e (j+1) ts
def jX(d:Nat)(V:SS):List Operand->List TypeId->List (PV SE)
 |x::xs,t::ts=>bM P d V t x::jX d V xs ts
 |x::xs,[]=>bM P d V 0 x::jX d V xs []
 |[],_=>[]
def Tk(d:Nat)(V:SS):List Operand->Option (List (Nat×Nat))
 |[]=>aa []
 |x::xs=>match bM P d V 0 x with
  |.one (.pt k 0 ext)=>match Tk d V xs with
   |some l=>aa ((k,ext)::l)
   |none=>ah
  |_=>ah
def D0(cells:List (Cl SE))(off:Nat)(new:List (Cl SE)):List (Cl SE):=cells.take off++new++cells.drop (off+new.length)
def pe(get:Nat->Operand->List (Cl SE))(place:Nat->Option (Nat×Nat)):List (Nat×Operand)->List (Cl SE)->Option (List (Cl SE))
 |[],cs=>aa cs
 |(j,x)::ps,cs=>match place j with
  |some (off,sz)=>
   let new:=get j x
   if vF new&&awl new.length sz&&axj (off+sz) cs.length then pe get place ps (D0 cs off new)else ah
  |none=>ah
def akk(fields:Array Field)(j:Nat):TypeId:=((fields[j]?).map (·.type)).getD 0
def aif(fields:Array Field)(j:Nat):Option (Nat×Nat):=(fields[j]?).bind λf=>(aW P f.type).map λs=>(f.offset,s)
def Xf(s j:Nat):Option (Nat×Nat):=aa (j*s,s)
def LY:SE->Bool
 |.i _|.k _ _|.b _|.s _=>ab
 |_=>af
def rdT(V:SS)(c:Cl SE)(t:TypeId):Option (Bool×SE×SS×List SE):=
 match c with
 |.v z=>if IF P t then aa (af,z,V,if LY z then[]else[z])else aa (ab,z,V,[])
 |c=>match zo V c with
  |some (fr,z,V)=>aa (fr,z,V,[])
  |none=>ah
def NW(V:SS):List (Cl SE)->List TypeId->Option (Bool×List SE×SS×List SE)
 |[],_=>aa (af,[],V,[])
 |c::cs,t::ts=>match rdT P V c t with
  |some (f1,z,V,r1)=>match NW V cs ts with
   |some (f2,zs,V,r2)=>aa (f1||f2,z::zs,V,r1++r2)
   |none=>ah
  |none=>ah
 |_::_,[]=>ah
def AR(s:Nat):Nat->List SE->List SE
 |0,_=>[]
 |n+1,zs=>eR (zs.take s)::AR s n (zs.drop s)
def Tn(zero:List (Cl SE)):Nat->List (Cl SE)
 |0=>[]
 |n+1=>zero++Tn zero n
def abx(ts:List TypeId):Nat->List TypeId
 |0=>[]
 |n+1=>ts++abx ts n
def Zl:List SE->aq->aq
 |[],k=>k
 |e::es,k=>.aE (.rw e) (Zl es k)
def newVar(V:SS)(e:SE)(k:SE->SS->aq):aq:=.bind e (k (.var V.n) {V with n:=V.n+1})
def newObj(V:SS)(o:LO SE)(k:Nat->SS->aq):aq:=k V.l.length {V with l:=V.l++[o]}
def Zm(t:TypeId)(a:PV SE)(V:SS)(k:PV SE->SS->aq):aq:=
 let ag:=isAgg P t
 match aW P t,sY P t with
 |none,_=>.fail 1
 |_,ah=>.fail 1
 |some s,aa _=>
  let out (cs:List (Cl SE)):aq:=if ag then(if awl cs.length s then k (.ag cs) V else .fail 2)else match cs with
   |[c]=>k (.one c) V
   |_=>.fail 3
  match a with
  |.one (.pt j off ext)=>match V.l[j]? with
   |some (.var cs)=>if axj s ext&&axj (off+s) cs.length then out ((cs.drop off).take s)else .fail 4
   |_=>.fail 5
  |.one (.tp cs)=>if axj s cs.length then out (((cs.map .v).drop 0).take s)else .fail 4
  |.one (.tw fr cs)=>if axj s cs.length then out (((cs.map (.w fr)).drop 0).take s)else .fail 4
  |.one (.pr j i off ext)=>match V.l[j]? with
   |some (.row sz _ _ fr es)=>if axj s ext then out ((((axt sz).map λq=>.w fr (.oY sz es i q)).drop off).take s)else .fail 4
   |_=>.fail 6
  |_=>.fail 7
def D1(bytes:Nat)(s:Nat)(base:Cl SE)(fr:Bool)(es:SE)(V:SS)(k:PV SE->SS->aq):aq:=
 match base with
 |.nl _ s'=>if awl s s' then newVar V (.cat s bytes (.tr s .an) es) λz V=>newObj V (.row s af af fr z) λj V=>k (.one (.sr j)) V else .fail 10
 |.sr j=>match V.l[j]? with
  |some (.row s' st cut dk aT)=>
   if awl s s'&& !(st&&cut)then newVar V (.cat s bytes aT es) λz V=>k (.one (.sr j)) (((V.u7 j)).setObj j (.row s st cut (fr||dk) z))else .fail 11
  |_=>.fail 12
 |_=>.fail 13
def aon(j:Nat):Cl SE->Bool
 |.sr j'=> !awl j j'
 |_=>ab
def r9(V:SS)(et:TypeId)(s:Nat)(base:Cl SE):Cl SE->Option (Bool×SE×Bool)
 |.sr j=>match V.l[j]? with
  |some (.row s' _ _ fr es)=>if awl s s'&&aon j base then aa (fr,es,af)else ah
  |_=>ah
 |.nl _ _=>aa (af,.tr s .an,af)
 |.w fr z=>aa (fr,z,af)
 |.v z=>if(u6 P 9 et).all (IF P)then aa (af,z,ab)else aa (ab,z,af)
 |_=>ah
def Zn(o:Option (LO SE))(s:Nat)(cut fr:Bool)(es:SE):Bool:=
 match o with
 |some (.row s' af yW dk aT)=>awl s s'&&cut==yW&&fr==dk&&es.eq aT
 |_=>af
def E4(t:TypeId):Option SE:=
 match cZ P t with
 |some (.bool b)=>aa (.b b)
 |some (.int q n)=>aa (.k q n)
 |some (.string b)=>aa (.s b.data.toList)
 |_=>ah
def IG:List (Cl SE)->Option (List SE)
 |[]=>aa []
 |.v e::ds=>match IG ds with
  |some es=>aa (e::es)
  |none=>ah
 |_::_=>ah
def yv:List (Cl SE)->Option (List SE)
 |[]=>aa []
 |c::ds=>match c with
  |.v e|.w _ e=>(yv ds).map (e::·)
  |.nl _ s=>(yv ds).map (.tr s .an::·)
  |_=>ah
def Ko:PV SE->Option SE
 |.one (.v e)=>aa e
 |.one (.w _ e)=>aa e
 |.ag cs=>(yv cs).map eR
 |_=>ah
def NX(kt:TypeId)(m key x:PV SE)(V:SS)(k:PV SE->SS->aq):aq:=
 match m,Ko key,Ko x with
 |.one (.mp j),aa ke,aa xe=>match V.l[j]? with
  |some (.mp qy es)=>if awl kt qy&& !mO kt then newVar V (.ins kt es ke xe) λz V=>k (.one .un) (V.setObj j (.mp kt z))else .fail 63
  |_=>.fail 64
 |_,_,_=>.fail 65
def Xg(kt et:TypeId)(m key:PV SE)(ok:Bool)(V:SS)(k:PV SE->SS->aq):aq:=
 match m,Ko key,E4 P et with
 |.one (.mp j),aa ke,aa z0=>match V.l[j]? with
  |some (.mp qy es)=>if awl kt qy&& !mO kt then newVar V (.ok (.rw (.get kt es ke z0))) λr V=>
    if ok then newVar V (.has kt es ke) λh V=>k (.tu [(af,[.v r]),(af,[.v h])]) V else k (.one (.v r)) V
   else .fail 67
  |_=>.fail 68
 |_,_,_=>.fail 69
def Ry(t:TypeId):Bool:=
 match cZ P t with
 |some (.agg cs)=>cs.toList.isEmpty
 |_=>af
def NY(kt et:TypeId)(m key:PV SE)(ok:Bool)(V:SS)(k:PV SE->SS->aq):aq:=
 match m,Ko key,(match cZ P et with|some (.agg _)=>yv (zeroCells P et)|_=>ah),aW P et with
 |.one (.mp j),aa ke,aa zs,aa n=>match V.l[j]? with
  |some (.mp qy es)=>if awl kt qy&& !mO kt then newVar V (.lV n (.get kt es ke (eR zs))) λr V=>
    let cs:List (Cl SE):=(axt n).map λj=>.w ab (.aO r j)
    if ok then newVar V (.has kt es ke) λh V=>k (.tu [(ab,cs),(af,[.v h])]) V else k (.ag cs) V
   else .fail 67
  |_=>.fail 68
 |_,_,_,_=>.fail 70
def NZ(kt:TypeId)(m key:PV SE)(V:SS)(k:PV SE->SS->aq):aq:=
 match m,Ko key with
 |.one (.mp j),aa ke=>match V.l[j]? with
  |some (.mp qy es)=>if awl kt qy&& !mO kt then .aE (.lV 0 (.get kt es ke .an)) (newVar V (.has kt es ke) λh V=>k (.tu [(ab,[]),(af,[.v h])]) V)else .fail 67
  |_=>.fail 68
 |_,_=>.fail 69
def Kp(d:Nat)(V:SS)(Zo:SE):Option Operand->Option SE
 |none=>aa Zo
 |some o=>match bM P d V 3 o with
  |.one (.v e)=>aa e
  |_=>ah
def stood(V:SS):Cl SE->Bool
 |.sr j=>match V.l[j]? with
  |some (.row _ st _ _ _)=>st
  |_=>af
 |_=>af
def N0(d:Nat)(t:TypeId)(x:PV SE)(lo hi mx:Option Operand)(V:SS)(k:PV SE->SS->aq):aq:=
 match P.underlying t,x,mx with
 |some (.slice el),.one c,ah=>match aW P el with
  |some s=>match c,lo,hi,stood V c with
   |.sr j,aa l,ah,af=>match V.l[j]?,bM P d V 3 l with
    |some (.row s' af cut fr es),.one (.v e)=>if awl s s' then .aE (.sub s es e (.len es)) (k (.one (.sv j e)) V)else .fail 24
    |_,_=>.fail 25
   |c,lo,hi,_=>match(match c with|.v _|.nl _ _|.sr _=>zo V c|_=>ah)with
    |some (fr,z,V2)=>match Kp P d V (.i 0) lo,Kp P d V (.len z) hi with
     |some l,aa h=>newVar V2 (.sub s z l h) λy V=>k (.one (.w fr y)) V
     |_,_=>.fail 26
    |none=>.fail 27
  |none=>.fail 28
 |_,_,_=>.fail 29
def uz:PV SE->Option SE
 |.one (.v e)=>aa e
 |.one (.w _ e)=>aa e
 |_=>ah
def mxS(big:Bool)(da:List (PV SE))(V:SS)(k:PV SE->SS->aq):aq:=
 match da with
 |[a,b]=>match uz a,uz b with
  |some a,aa b=>vk (.ok (.rw (.mx big a b))) V k
  |_,_=>.fail 75
 |_=>.fail 76
def isStr(t:TypeId):Bool:=match P.underlying t with
 |some .string=>ab
 |_=>af
def Kq(d:Nat)(x:PV SE)(lo hi mx:Option Operand)(V:SS)(k:PV SE->SS->aq):aq:=
 match uz x,mx with
 |some a,ah=>match Kp P d V (.i 0) lo,Kp P d V (.uy a) hi with
  |some l,aa h=>newVar V (.Kn a l h) λz V=>k (.one (.v z)) V
  |_,_=>.fail 20
 |_,_=>.fail 21
def Zp(d:Nat)(t:TypeId)(l c:Operand)(V:SS)(k:PV SE->SS->aq):aq:=
 match P.underlying t,bM P d V 0 l,uz (bM P d V 0 c)with
 |some (.slice el),.one (.v (.i 0)),aa ce=>match aW P el,cZ P el,(P.info? el).map (·.bytes)with
  |some s,aa z,aa bytes=>if !awl s 0&&awl z.cells.size s&&axj bytes 1000000&&(z.cells.toList.map IV.raw).all Ev.ao then
    .aE (.dec 7 ce (.b ab)) (newObj V (.row s af af af (.tr s .an)) λj V=>k (.one (.sr j)) V)else .fail 202
  |_,_,_=>.fail 202
 |some (.slice el),pl,aa ce=>match uz pl,aW P el,cZ P el,E4 P el,(P.info? el).map (·.bytes)with
  |some le,aa s,aa z,aa ze,aa bytes=>if le.eq ce&&awl s 1&&axj bytes 1000000&&awl z.cells.size 1&&(z.cells.toList.map IV.raw).all Ev.ao then
    newVar V (.dec 10 ce ze) λe V=>newObj V (.row 1 af af af e) λj V=>k (.one (.sr j)) V else .fail 202
  |_,_,_,_,_=>.fail 202
 |_,_,_=>.fail 202
def Zq(t:TypeId)(e:SE):Bool×List (Cl SE):=
 if isAgg P t then(ab,(axt ((aW P t).getD 0)).map λj=>.w ab (.aO e j))else if IF P t then(af,[.v (.ok (.rw e))])else(af,[.w ab (.ok e)])
def LZ(t:TypeId)(e:SE)(k:aq):aq:=
 if isAgg P t then .aE (.lV ((aW P t).getD 0) e) k else if IF P t then .aE (.ok (.rw e)) k else .aE (.ok e) k
def aby(d:Nat)(it:Operand)(V:SS)(k:PV SE->SS->aq):aq:=
 match bM P d V 0 it with
 |.one (.mp j)=>match V.l[j]? with
  |some (.mp kt x)=>if axj 1000000 kt then(match V.l[kt % 1000000]?,P.underlying (kt/1000000- 1)with
   |some (.mp oZ es),aa (.map _ et)=>if mO oZ then .fail 191 else .same es x (LZ P oZ (.proj (.proj x 2) 0) (LZ P et (.proj (.proj x 2) 1) (k (.tu [Zq P oZ (.proj (.proj x 2) 0),Zq P et (.proj (.proj x 2) 1)]) V)))
   |_,_=>.fail 191)else .fail 191
  |_=>.fail 191
 |_=>.fail 191
def To(d:Nat)(t:TypeId)(x:PV SE)(lo hi mx:Option Operand)(V:SS)(k:PV SE->SS->aq):Option aq:=
 match P.underlying t,x,lo,hi,mx with
 |some (.slice el),.one c,ah,aa h,ah=>match bM P d V 3 h,aW P el,c with
  |.one (.v (.i 0)),aa s,.nl ab s'=>if awl s s' then aa (k (.one (.nl ab s)) V)else ah
  |.one (.v (.i 0)),aa s,.sr j=>match V.l[j]? with
   |some (.row s' af _ fr es)=>if awl s s' then aa (.aE (.idx s es (.i 0)) (k (.one (.sr j)) ((V.u7 j).setObj j (.row s af ab fr (.tr s .an)))))else ah
   |_=>ah
  |_,_,_=>ah
 |_,_,_,_,_=>ah
def i7(d:Nat)(o:Oper)(V:SS)(k:PV SE->SS->aq):aq:=
 match o.op with
 |.makeFunc (.func f) first cap=>if first.toList.isEmpty then match Tk P d V cap.toList with
   |some bs=>k (.one (.fn f bs)) V
   |none=>.fail 60
  else .fail 61
 |.makeMap t r=>match r,P.underlying t with
  |none,aa (.map kt _)=>if mO kt then .fail 76 else newObj V (.mp kt (.tp .an)) λj V=>k (.one (.mp j)) V
  |_,_=>.fail 62
 |.makeSlice t l c=>Zp P d t l c V k
 |.mapUpdate t m key x|.insert t m key x=>match P.underlying t with
  |some (.map kt et)=>NX kt (bM P d V t m) (bM P d V kt key) (bM P d V et x) V k
  |_=>.fail 66
 |.lookup t m key ok=>match P.underlying t with
  |some (.map kt et)=>if ok&&Ry P et then NZ kt (bM P d V t m) (bM P d V kt key) V k else if isAgg P et then NY P kt et (bM P d V t m) (bM P d V kt key) ok V k else Xg P kt et (bM P d V t m) (bM P d V kt key) ok V k
  |_=>.fail 70
 |.range t x=>match P.underlying t,uz (bM P d V t x)with
  |some .string,aa a=>.aE (.uy a) (newObj V (.mp 0 (.tp (.ac a (.ac (.i 0) .an)))) λj V=>k (.one (.mp j)) V)
  |some (.map _ _),_=>match bM P d V t x with
   |.one (.mp m)=>match V.l[m]? with
    |some (.mp kt es)=>if mO kt|| !aw6 m 1000000 then .fail 77 else .aE (.dec 9 es (.b ab)) (newObj V (.mp ((t+1)*1000000+m) (.tp (.ac es (.ac es .an)))) λj V=>k (.one (.mp j)) V)
    |_=>.fail 77
   |_=>.fail 77
  |_,_=>.fail 77
 |.next it ab=>match bM P d V 0 it with
  |.one (.mp j)=>match V.l[j]? with
   |some (.mp kt es)=>if awl kt 0 then .test (.dec 0 (.proj es 0) (.proj es 1))
     (newVar V (.tp (.ac (.proj es 0) (.ac (.dec 2 (.proj es 0) (.proj es 1)) .an))) λz V=>k (.tu [(af,[.v (.b ab)]),(af,[.v (.proj es 1)]),(af,[.v (.dec 1 (.proj es 0) (.proj es 1))])]) (V.setObj j (.mp 0 z)))
     (k (.tu [(af,[.v (.b af)])]) V)else .fail 78
   |_=>.fail 79
  |_=>.fail 79
 |.entry it=>aby P d it V k
 |.index t x ix=>match P.underlying t,uz (bM P d V t x),uz (bM P d V 0 ix)with
  |some .string,aa a,aa b=>vk (.LW a b) V k
  |_,_,_=>.fail 74
 |.slice t x lo hi mx=>match To P d t (bM P d V t x) lo hi mx V k with
  |some f=>f
  |none=>if isStr P t then Kq P d (bM P d V t x) lo hi mx V k else N0 P d t (bM P d V t x) lo hi mx V k
 |.call c=>match c.callee with
  |.builtin .cap=>match jX P d V c.args.toList c.argTypes.toList,(c.argTypes[0]?).bind P.underlying with
   |[.one (.nl ab _)],aa (.slice _)=>k (.one (.v (.i 0))) V
   |_,_=>.fail 207
  |.builtin .max=>mxS ab (jX P d V c.args.toList c.argTypes.toList) V k
  |_=>.fail 201
 |_=>.fail 200
def Zr(et t1:TypeId)(base x:Cl SE)(V:SS)(k:PV SE->SS->aq):aq:=
 match P.underlying t1,base,x with
 |some (.int _),.nl ab s,.v n=>match aW P et,cZ P et,E4 P et,(P.info? et).map (·.bytes)with
  |some s',aa z,aa ze,aa bytes=>if awl s 1&&awl s' 1&&axj bytes 1000000&&awl z.cells.size 1&&(z.cells.toList.map IV.raw).all Ev.ao then
    newVar V (.dec 8 n ze) λe V=>newObj V (.row 1 af af af e) λj V=>k (.one (.sr j)) V else .fail 208
  |_,_,_,_=>.fail 208
 |_,_,_=>.fail 208
def Tp(i:SE)(f:Nat->aq):Nat->Nat->aq
 |_,0=>.fail 85
 |c,m+1=>.test (.bin .lss 3 i (.i (c+1))) (f c) (Tp i f (c+1) m)
def Xh(i:SE)(f:Nat->aq)(n:Nat):aq:=.test (.bin .lss 3 i (.i 0)) (.fail 85) (Tp i f 0 n)
def gH(d:Nat)(o:Oper)(V:SS)(k:PV SE->SS->aq):aq:=
 let get (t:TypeId) (x:Operand):PV SE:=bM P d V t x
 match o.op with
 |.move x|.assign x=>k (get o.type x) V
 |.pick c a b=>match get 0 c with
  |.one (.v (.b ab))=>k (get o.type a) V
  |.one (.v (.b af))=>k (get o.type b) V
  |_=>.fail 40
 |.alloc t=>let cs:=zeroCells P t;if(cZ P t).isNone then .fail 38 else newObj V (.var cs) λj V=>k (.one (.pt j 0 cs.length)) V
 |.box t x=>let cs:=ff (get t x);if !vF cs then .fail 39 else newObj V (.var cs) λj V=>k (.one (.pt j 0 cs.length)) V
 |.load t a=>Zm P t (get 0 a) V k
 |.store t a x=>match get 0 a with
  |.one (.pt j off ext)=>match V.l[j]? with
   |some (.var cs)=>
    let new:=ff (get t x)
    if vF new&&axj new.length ext&&axj (off+new.length) cs.length&&(aW P t)==aa new.length then k (.one .un) (V.setObj j (.var (D0 cs off new)))else .fail 41
   |_=>.fail 42
  |.one (.pr j i off ext)=>match V.l[j]? with
   |some (.row s af cut fr es)=>
    let new:=ff (get t x)
    if awl off 0&&awl new.length s&&awl s ext&&aW P t==aa s&&vF new&&(isAgg P t||awl s 1)then
     match wZ V new with
     |some (f,zs,V2)=>if Zn V2.l[j]? s cut fr es then newVar V2 (.yV s es i (if isAgg P t then eR zs else zs.headD .an)) λz V=>k (.one .un) (V.setObj j (.row s af cut (fr||f) z))else .fail 43
     |none=>.fail 43
    else .fail 44
   |_=>.fail 45
  |_=>.fail 46
 |.nilCheck x=>match get 0 x with
  |.one (.pt a b c)=>k (.one (.pt a b c)) V
  |.one (.fn _ _)=>.fail 47
  |.one (.tp a)=>k (.one (.tp a)) V
  |_=>.fail 47
 |.binOp op t x y _=>match get t x,get t y with
  |.ag cs,.ag ds=>match wZ V cs,wZ V ds with
   |some (_,a,_),aa (_,b,_)=>vk (.ok (.bin op t (eR a) (eR b))) V k
   |_,_=>.fail 48
  |.one (.v a),.one (.v b)=>vk (.ok (.bin op t a b)) V k
  |.one (.w _ a),.one (.v b)=>vk (.ok (.bin op t a b)) V k
  |.one (.v a),.one (.w _ b)=>vk (.ok (.bin op t a b)) V k
  |.one (.w _ a),.one (.w _ b)=>vk (.ok (.bin op t a b)) V k
  |_,_=>.fail 50
 |.unOp op _ x=>match get 0 x with
  |.one (.v (.b t))=>match op with
   |.not=>k (.one (.v (.b (!t)))) V
   |_=>.fail 51
  |.one (.v a)=>vk (.ok (.un op a)) V k
  |.one (.w _ a)=>vk (.ok (.un op a)) V k
  |_=>.fail 52
 |.convert src dst x=>match get src x with
  |.one (.v a)=>vk (.ok (.cv src dst a)) V k
  |.one (.w _ a)=>vk (.ok (.cv src dst a)) V k
  |_=>.fail 53
 |.build t parts=>match P.underlying t with
  |some (.struct fields)=>
   if !(fields.all λf=>(aW P f.type).isSome)||(cZ P t).isNone then .fail 53 else
   match pe (λj x=>ff (bM P d V (akk fields j) x)) (aif P fields) parts.toList (zeroCells P t)with
   |some cs=>k (.ag cs) V
   |none=>.fail 54
  |some (.array _ et)=>match aW P et with
   |some s=>if(cZ P t).isNone then .fail 53 else
    match pe (λ_ x=>ff (bM P d V et x)) (Xf s) parts.toList (zeroCells P t)with
    |some cs=>k (.ag cs) V
    |none=>.fail 55
   |none=>.fail 56
  |_=>.fail 56
 |.buildSlice t len parts=>match elemOf P t with
  |some et=>match aW P et,cZ P et with
   |some s,aa z=>if awl s 0|| !awl z.cells.size s|| !axj (len*s) 1048576 then .fail 58 else
    if awl len 0 then(if parts.toList.isEmpty then k (.one (.nl af s)) V else .fail 58)else
    match pe (λ_ x=>ff (bM P d V et x)) (Xf s) parts.toList (Tn (zeroCells P et) len)with
    |some cs=>match NW P V cs (abx (u6 P 9 et) len)with
     |some (fr,zs,V,rws)=>if !(isAgg P et||awl s 1)then .fail 57 else
      Zl (if fr then[]else rws) (newObj V (.row s af af fr (.tr s (eR (if isAgg P et then AR s len zs else zs)))) λj V=>k (.one (.sr j)) V)
     |none=>.fail 57
    |none=>.fail 57
   |_,_=>.fail 58
  |none=>.fail 59
 |.fieldAddr s x f=>match fieldAt P s f with
  |some (fo,sz)=>if awl sz 0 then .fail 71 else match get 0 x with
   |.one (.pt j off ext)=>if axj (fo+sz) ext then k (.one (.pt j (off+fo) sz)) V else .fail 72
   |.one (.tp cs)=>if axj (fo+sz) cs.length then k (.one (.tp ((cs.drop fo).take sz))) V else .fail 73
   |.one (.tw fr cs)=>if axj (fo+sz) cs.length then k (.one (.tw fr ((cs.drop fo).take sz))) V else .fail 73
   |.one (.pr j i off ext)=>if axj (fo+sz) ext then k (.one (.pr j i (off+fo) sz)) V else .fail 74
   |_=>.fail 75
  |none=>.fail 76
 |.field t x f=>match get t x,fieldAt P t f with
  |.ag cs,aa (fo,sz)=>match P.underlying t with
   |some (.struct fields)=>
    if axj (fo+sz) cs.length&&(sY P ((fields[f]?).map (·.type)|>.getD 0)).isSome then
     if isAgg P ((fields[f]?).map (·.type)|>.getD 0)then(if awl ((cs.drop fo).take sz).length sz then k (.ag ((cs.drop fo).take sz)) V else .fail 77)else match(cs.drop fo).take sz with
     |[c]=>k (.one c) V
     |_=>.fail 78
    else .fail 79
   |_=>.fail 79
  |_,_=>.fail 80
 |.indexAddr t x ix=>match P.underlying t,get 3 ix,uz (get 3 ix)with
  |some (.slice et),_,aa i=>match aW P et with
   |some s=>match get t x with
    |.one (.v z)=>newVar V (.idx s z i) λe V=>tO P et e (k (.one (.tp (if isAgg P et then(axt s).map (λj=>.aO e j)else[.ok e]))) V)
    |.one (.w fr z)=>newVar V (.idx s z i) λe V=>tO P et e (k (.one (.tw fr (if isAgg P et then(axt s).map (λj=>.aO e j)else[.ok e]))) V)
    |.one (.sr j)=>match V.l[j]? with
     |some (.row s' _ _ _ es)=>if awl s s' then .aE (.idx s es i) (k (.one (.pr j i 0 s)) V)else .fail 81
     |_=>.fail 82
    |_=>.fail 83
   |none=>.fail 84
  |some (.array n et),.one (.v (.i i)),_=>match aW P et,get t x with
   |some s,.one (.pt j off ext)=>if !awl s 0&&decide (0<=i)&&aw6 i.toNat n&&axj (i.toNat*s+s) ext then k (.one (.pt j (off+i.toNat*s) s)) V else .fail 85
   |some s,.one (.tp cs)=>.fail 86
   |_,_=>.fail 87
  |some (.array n et),_,aa i=>match aW P et,get t x with
   |some s,.one (.pt j off ext)=>if !awl s 0&&axj (n*s) ext&&axj n 8 then Xh i (λc=>k (.one (.pt j (off+c*s) s)) V) n else .fail 85
   |_,_=>.fail 87
  |_,_,_=>.fail 88
 |.extract x i=>match get 0 x with
  |.tu vs=>match vs[i]? with
   |some (ab,cs)=>k (.ag cs) V
   |some (af,[c])=>k (.one c) V
   |_=>.fail 93
  |_=>.fail 94
 |.call c=>match c.callee with
  |.builtin b=>match b,jX P d V c.args.toList c.argTypes.toList with
   |.len,[pv]=>match(c.argTypes[0]?).bind P.underlying with
    |some .string=>match pv with
     |.one (.v z)=>vk (.uy z) V k
     |.one (.w _ z)=>vk (.uy z) V k
     |_=>.fail 96
    |some (.slice _)=>match pv with
     |.one (.v z)=>vk (.len z) V k
     |.one (.w _ z)=>vk (.len z) V k
     |.one (.nl _ _)=>k (.one (.v (.i 0))) V
     |.one (.sr j)=>match V.l[j]? with
      |some (.row _ _ _ _ es)=>vk (.len es) V k
      |_=>.fail 95
     |_=>.fail 96
    |some (.map _ _)=>match pv with
     |.one (.mp j)=>match V.l[j]? with
      |some (.mp kt es)=>if mO kt then .fail 95 else vk (.dec 9 es (.b ab)) V k
      |_=>.fail 95
     |_=>.fail 96
    |_=>.fail 96
   |.append,[.one base,.one x]=>match c.argTypes[0]?,c.argTypes[1]? with
    |some t0,aa t1=>match elemOf P t0,elemOf P t1 with
     |some et,aa _=>match aW P et,cZ P et,(P.info? et).map (·.bytes)with
      |some s,aa z,aa bytes=>if awl s 0|| !awl z.cells.size s then .fail 97 else
       match r9 P V et s base x with
       |some (fr,es,raw)=>if raw then .aE (.rws es) (D1 bytes s base fr es V k)else D1 bytes s base fr es V k
       |none=>.fail 98
      |_,_,_=>.fail 101
     |some et,ah=>Zr P et t1 base x V k
     |_,_=>.fail 102
    |_,_=>.fail 102
   |.len,_=>.fail 105
   |.append,_=>.fail 105
   |_,_=>i7 P d o V k
  |_=>.fail 106
 |_=>i7 P d o V k
inductive yw where
 |normal
 |exit (id:Nat)
 |ret
 |cd (t:TypeId) (pv:PV SE)
abbrev Kx:=TypeId->PV SE->SS->aq
inductive Want where
 |run|skip|test (t:Nat) (e:SE) (want:Bool)|fail
def vH(ops:Array Oper)(d:Nat)(V:SS)(o:Oper):Want:=
 match o.guard with
 |none=>.run
 |some (j,want)=>match(ops[j]?).bind (·.dst)with
  |some t=>if !aw6 t V.nt then .fail else match ct d t V.g with
   |some (.one (.v (.b x)))=>if x==want then .run else .skip
   |some (.one (.v e))=>.test t e want
   |some (.one (.w _ e))=>.test t e want
   |_=>.fail
  |none=>.fail
def D2(l:List (Nat×Nat×Nat))(d t j:Nat):Bool:=l.any λ(a,b,c)=>awl a d&&awl b t&&awl c j
def oG(l:List (Nat×Nat))(a b:Nat):Bool:=l.any λ(c,d)=>awl a c&&awl b d
def akl(ch:Bool)(mode:Nat)(c:Cl SE)(n:Nat)(init:List SE):Cl SE×Nat×List SE:=
 match mode,c with
 |1,.v z=>(.v (.var n),n+1,z::init)
 |1,.nl _ s=>(.v (.var n),n+1,.tr s .an::init)
 |2,.v z=>(.w ab (.var n),n+1,z::init)
 |2,.w _ z=>(.w ab (.var n),n+1,z::init)
 |2,.nl _ s=>(.w ab (.var n),n+1,.tr s .an::init)
 |_,c=>
  if ch then match c with
   |.v z=>(.v (.var n),n+1,z::init)
   |.w fr z=>(.w fr (.var n),n+1,z::init)
   |c=>(c,n,init)
  else(c,n,init)
def Rz(ch:Nat->Bool):Nat->List (Cl SE)->Nat->List SE->List (Cl SE)×Nat×List SE
 |_,[],n,init=>([],n,init)
 |j,c::cs,n,init=>
  let(c,n,init):=akl (ch j) 0 c n init
  let(cs,n,init):=Rz ch (j+1) cs n init
  (c::cs,n,init)
def abz(h:Hint)(d t:Nat):Nat:=if D2 h.AP d t 2 then 2 else if D2 h.AP d t 1 then 1 else 0
def agx(ch:Nat->Bool):Nat->List (Bool×List (Cl SE))->Nat->List SE->List (Bool×List (Cl SE))×Nat×List SE
 |_,[],n,init=>([],n,init)
 |j,(a,cs)::vs,n,init=>
  let(cs,n,init):=Rz ch j cs n init
  let(vs,n,init):=agx ch (j+cs.length) vs n init
  ((a,cs)::vs,n,init)
def N1(h:Hint):List (Nat×Nat×PV SE)->Nat->List SE->List (Nat×Nat×PV SE)×Nat×List SE
 |[],n,init=>([],n,init)
 |(d,t,pv)::g,n,init=>
  if oG h.drop d t then N1 h g n init else
  match pv with
  |.one c=>
   let(c,n,init):=akl (D2 h.LX d t 0) (abz h d t) c n init
   let(g,n,init):=N1 h g n init
   ((d,t,.one c)::g,n,init)
  |.ag cs=>
   let(cs,n,init):=Rz (D2 h.LX d t) 0 cs n init
   let(g,n,init):=N1 h g n init
   ((d,t,.ag cs)::g,n,init)
  |.tu vs=>
   let(vs,n,init):=agx (D2 h.LX d t) 0 vs n init
   let(g,n,init):=N1 h g n init
   ((d,t,.tu vs)::g,n,init)
def Am(d t:Nat)(V:SS):SS:=
 match ct d t V.g with
 |some (.one (.sr k))=>match V.l[k]? with
  |some (.row _ _ _ fr es)=>(nI k V).bY d (aa t) (.one (.w fr es))
  |_=>V
 |_=>V
def settle:List (Nat×Nat×Nat)->SS->SS
 |[],V=>V
 |(d,t,m)::ws,V=>settle ws (if awl m 2 then Am d t V else V)
def yx(L:List (LO SE)):List (Nat×Nat×PV SE)->SS->SS
 |[],W=>W
 |(d,t,.one (.sr k))::g,W=>yx L g (match L[k]? with
  |some (.row _ ab _ _ _)=>(match ct d t W.g with
   |some (.one (.sr k'))=>nI k' W
   |_=>W)
  |_=>W)
 |_::g,W=>yx L g W
def IH(ws:List (Nat×Nat×Nat))(H W:SS):SS:=yx H.l H.g (settle ws W)
def aef(h:Hint):Nat->List (LO SE)->Nat->List SE->List (LO SE)×Nat×List SE
 |_,[],n,init=>([],n,init)
 |k,o::l,n,init=>
  let(o,n,init):=(match o with
   |.var cs=>
    let(cs,n,init):=Rz (oG h.AO k) 0 cs n init
    (LO.var cs,n,init)
   |.row s st cut fr es=>if oG h.AO k 0 then(.row s (st||oG h.AO k 1) (cut||oG h.AO k 2) (fr||oG h.AO k 3) (.var n),n+1,es::init)else(.row s (st||oG h.AO k 1) (cut||oG h.AO k 2) (fr||oG h.AO k 3) es,n,init)
   |.mp kt es=>if oG h.AO k 0 then(.mp kt (.var n),n+1,es::init)else(.mp kt es,n,init)
   |.lp c st snap=>(.lp c st snap,n,init)
   |.dead=>(.dead,n,init):LO SE×Nat×List SE)
  let(l,n,init):=aef h (k+1) l n init
  (o::l,n,init)
def D3(d t j:Nat)(V:SS):SS:=
 match ct d t V.g with
 |some (.one (.nl _ s))=>if awl j 0 then{V with l:=V.l++[.row s af af af (.tr s .an)],g:=NL d t (.one (.sr V.l.length)) V.g}else V
 |some (.ag cs)=>match cs[j]? with
  |some (.nl _ s)=>{V with l:=V.l++[.row s af af af (.tr s .an)],g:=NL d t (.ag (cs.set j (.sr V.l.length))) V.g}
  |_=>V
 |_=>V
def D4(k j:Nat)(V:SS):SS:=
 match V.l[k]? with
 |some (.var cs)=>match cs[j]? with
  |some (.nl _ s)=>{V with l:=V.l.set k (.var (cs.set j (.sr V.l.length)))++[.row s af af af (.tr s .an)]}
  |_=>V
 |some (.row _ _ _ _ _)=>if awl j 1 then nI k V else V
 |_=>V
def w7(h:Hint):List (Nat×Nat×Nat)->SS->SS
 |[],V=>V
 |(d,t,j)::l,V=>w7 h l (if awl (abz h d t) 0 then D3 d t j V else V)
def w8:List (Nat×Nat)->SS->SS
 |[],V=>V
 |(k,j)::l,V=>w8 l (D4 k j V)
def w9(h:Hint)(V:SS):SS:=w8 h.AO.reverse (w7 h h.LX.reverse V)
def tP:Cl SE->List Nat
 |.pt k _ _|.sr k|.sv k _|.pr k _ _ _|.mp k|.yl k=>[k]
 |.fn _ bs=>bs.map (·.1)
 |_=>[]
def Hm:PV SE->List Nat
 |.one c=>tP c
 |.ag cs=>cs.flatMap tP
 |.tu vs=>vs.flatMap λp=>p.2.flatMap tP
def reach(l:List (LO SE)):Nat->List Nat->List Nat->List Nat
 |0,_,seen=>seen
 |_,[],seen=>seen
 |n+1,k::ks,seen=>if seen.any (awl k)then reach l n ks seen else
  match l[k]? with
  |some (.var cs)=>reach l n (cs.flatMap tP++ks) (k::seen)
  |some (.mp kt _)=>reach l n (if axj 1000000 kt then(kt % 1000000)::ks else ks) (k::seen)
  |some (.lp _ _ snap)=>reach l n (snap.flatMap (λq=>Hm q.2)++ks) (k::seen)
  |_=>reach l n ks (k::seen)
def marks(seen:List Nat):Nat->List (LO SE)->List (LO SE)
 |_,[]=>[]
 |k,o::os=>(if seen.any (awl k)then o else .dead)::marks seen (k+1) os
def RA:Nat->List (LO SE)->List Nat
 |_,[]=>[]
 |k,.lp _ st _::os=>if aw6 st 2 then k::RA (k+1) os else RA (k+1) os
 |k,_::os=>RA (k+1) os
def gcS(V:SS):SS:={V with l:=marks (reach V.l 2000 (RA 0 V.l++V.g.flatMap λp=>Hm p.2.2) []) 0 V.l}
def SE.zp(n:Nat):SE->Bool
 |.var x=>aw6 x n
 |.i _|.k _ _|.b _|.s _|.raw _|.an=>ab
 |.ok e|.lV _ e|.aO e _|.len e|.uy e|.tr _ e|.tp e|.proj e _|.un _ e|.cv _ _ e|.rw e|.rws e=>e.zp n
 |.idx _ e f|.oY _ e f _|.ac e f|.cat _ _ e f|.bin _ _ e f|.mx _ e f|.LW e f|.has _ e f|.dec _ e f=>e.zp n&&f.zp n
 |.yV _ e f g|.sub _ e f g|.Kn e f g|.ins _ e f g=>e.zp n&&f.zp n&&g.zp n
 |.get _ e f g=>e.zp n&&f.zp n&&g.zp n
structure Mt where
 args:List (Nat×SE)
 ef:List (Nat×Nat)
def uA{α:Type}(l:List (Nat×α))(k:Nat):Option α:=
 match l with
 |[]=>ah
 |(a,b)::l=>if awl a k then aa b else uA l k
def BY(n nm:Nat)(h e:SE)(m:Mt):Option Mt:=
 match h with
 |.var i=>if aw6 i n then(if h.eq e then aa m else ah)else if axj nm i then ah else(match uA m.args i with
  |some e'=>if e'.eq e then aa m else ah
  |none=>aa {m with args:=(i,e)::m.args})
 |h=>if h.zp n&&h.eq e then aa m else ah
def N2(h e:Nat)(m:Mt):Option Mt:=
 match uA m.ef h with
 |some e'=>if awl e e' then aa m else ah
 |none=>if m.ef.any (λp=>awl p.2 e)then ah else aa {m with ef:=(h,e)::m.ef}
def Tq(n nm:Nat):List SE->List SE->Mt->Option Mt
 |[],[],m=>aa m
 |a::as,b::bs,m=>match BY n nm a b m with
  |some m=>Tq n nm as bs m
  |none=>ah
 |_,_,_=>ah
def akm:List (Nat×Nat)->List (Nat×Nat)->Mt->Option Mt
 |[],[],m=>aa m
 |(a,x)::as,(b,y)::bs,m=>if awl x y then(match N2 a b m with
  |some m=>akm as bs m
  |none=>ah)else ah
 |_,_,_=>ah
def akn(n nm:Nat)(h e:Cl SE)(m:Mt):Option Mt:=
 match h,e with
 |.un,_=>aa m
 |.v a,.v b=>BY n nm a b m
 |.w f a,.w f' b=>if f|| !f' then BY n nm a b m else ah
 |.w f a,.v b=>if f then BY n nm a b m else ah
 |.v a,.nl _ s=>BY n nm a (.tr s .an) m
 |.w _ a,.nl _ s=>BY n nm a (.tr s .an) m
 |.nl a s,.nl b s'=>if a==b&&awl s s' then aa m else ah
 |.pt k o x,.pt k' o' x'=>if awl o o'&&awl x x' then N2 k k' m else ah
 |.tp a,.tp b=>Tq n nm a b m
 |.tw f a,.tw f' b=>if f|| !f' then Tq n nm a b m else ah
 |.sr k,.sr k'=>N2 k k' m
 |.mp k,.mp k'=>N2 k k' m
 |.yl k,.yl k'=>N2 k k' m
 |.fn f a,.fn f' b=>if awl f f' then akm a b m else ah
 |_,_=>ah
def RB(n nm:Nat):List (Cl SE)->List (Cl SE)->Mt->Option Mt
 |[],[],m=>aa m
 |a::as,b::bs,m=>match akn n nm a b m with
  |some m=>RB n nm as bs m
  |none=>ah
 |_,_,_=>ah
def agy(n nm:Nat):List (Bool×List (Cl SE))->List (Bool×List (Cl SE))->Mt->Option Mt
 |[],[],m=>aa m
 |(x,a)::as,(y,b)::bs,m=>if x==y then(match RB n nm a b m with
  |some m=>agy n nm as bs m
  |none=>ah)else ah
 |_,_,_=>ah
def agz(n nm:Nat)(h e:PV SE)(m:Mt):Option Mt:=
 match h,e with
 |.one a,.one b=>akn n nm a b m
 |.ag as,.ag bs=>RB n nm as bs m
 |.tu as,.tu bs=>agy n nm as bs m
 |_,_=>ah
def ako(n nm:Nat)(g:List (Nat×Nat×PV SE)):List (Nat×Nat×PV SE)->Mt->Option Mt
 |[],m=>aa m
 |(d,t,pv)::h,m=>match ct d t g with
  |some Gx=>match agz n nm pv Gx m with
   |some m=>ako n nm g h m
   |none=>ah
  |none=>ah
def agA(n nm:Nat):List (Nat×PV SE)->List (Nat×PV SE)->Mt->Option Mt
 |[],[],m=>aa m
 |p::ps,q::qs,m=>if awl p.1 q.1 then(match agz n nm p.2 q.2 m with
  |some m=>agA n nm ps qs m
  |none=>ah)else ah
 |_,_,_=>ah
def asb(n nm:Nat)(h e:LO SE)(m:Mt):Option Mt:=
 match h,e with
 |.var cs,.var ds=>RB n nm cs ds m
 |.row s st cut fr es,.row s' dj yW dk aT=>if awl s s'&&st==dj&&(cut|| !yW)&&(fr|| !dk)then BY n nm es aT m else ah
 |.mp kt es,.mp qy aT=>if awl kt qy then BY n nm es aT m else ah
 |.lp c st sn,.lp c' dj wI=>if awl c c'&&awl st dj then agA n nm sn wI m else ah
 |.dead,_=>aa m
 |_,_=>ah
def aeg(n nm:Nat)(l:List (LO SE)):Nat->List (LO SE)->Mt->Option Mt
 |_,[],m=>aa m
 |k,o::os,m=>
  match o with
  |.dead=>aeg n nm l (k+1) os m
  |o=>match N2 k ((uA m.ef k).getD k) m with
  |some m=>match l[(uA m.ef k).getD k]? with
   |some o'=>match asb n nm o o' m with
    |some m=>aeg n nm l (k+1) os m
    |none=>ah
   |none=>ah
  |none=>ah
def Ts(n:Nat)(m:Mt):Nat->List SE->Option (List SE)
 |0,acc=>aa acc
 |j+1,acc=>match uA m.args (n+j)with
  |some e=>Ts n m j (e::acc)
  |none=>ah
def isLive(l:List (LO SE))(k:Nat):Bool:=
 match l[k]? with
 |some .dead|none=>af
 |_=>ab
def akp(l:List (LO SE))(k:Nat):Bool:=
 match l[k]? with
 |some (.mp _ _)=>ab
 |_=>af
def Kr(H:SS):Bool:=
 (H.g.all λp=>(Hm p.2.2).all (isLive H.l))&&H.l.all λ|.var cs=>(cs.flatMap tP).all (isLive H.l)|.mp kt _=>aw6 kt 1000000||akp H.l (kt % 1000000)|.lp _ _ sn=>(sn.flatMap λq=>Hm q.2).all (isLive H.l)|_=>ab
def xG(n:Nat)(args:List SE)(h e:SE):Bool:=
 match h with
 |.var x=>if aw6 x n then h.eq e else(match args[x- n]? with
  |some a=>a.eq e
  |none=>af)
 |h=>h.zp n&&h.eq e
def E5(ef:List (Nat×Nat))(h e:Nat):Bool:=
 match uA ef h with
 |some e'=>awl e e'
 |none=>af
def rp(n:Nat)(args:List SE)(ef:List (Nat×Nat))(h e:Cl SE):Bool:=
 match h,e with
 |.un,_=>ab
 |.v a,.v b=>xG n args a b
 |.w f a,.w f' b=>(f|| !f')&&xG n args a b
 |.w f a,.v b=>f&&xG n args a b
 |.v a,.nl _ s=>xG n args a (.tr s .an)
 |.w _ a,.nl _ s=>xG n args a (.tr s .an)
 |.nl a s,.nl b s'=>a==b&&awl s s'
 |.pt k o x,.pt k' o' x'=>awl o o'&&awl x x'&&E5 ef k k'
 |.tp a,.tp b=>kB (xG n args) a b
 |.sr k,.sr k'=>E5 ef k k'
 |.mp k,.mp k'=>E5 ef k k'
 |.yl k,.yl k'=>E5 ef k k'
 |.fn f a,.fn f' b=>awl f f'&&kB (λ(p q:Nat×Nat)=>awl p.2 q.2&&E5 ef p.1 q.1) a b
 |_,_=>af
def II(n:Nat)(args:List SE)(ef:List (Nat×Nat))(h e:PV SE):Bool:=
 match h,e with
 |.one a,.one b=>rp n args ef a b
 |.ag as,.ag bs=>kB (rp n args ef) as bs
 |.tu as,.tu bs=>kB (λ(p q:Bool×List (Cl SE))=>p.1==q.1&&kB (rp n args ef) p.2 q.2) as bs
 |_,_=>af
def akq(n:Nat)(args:List SE)(ef:List (Nat×Nat))(g:List (Nat×Nat×PV SE))(h:List (Nat×Nat×PV SE)):Bool:=
 h.all λ(d,t,pv)=>match ct d t g with
  |some Gx=>II n args ef pv Gx
  |none=>af
def yX(n:Nat)(args:List SE)(ef:List (Nat×Nat))(h e:LO SE):Bool:=
 match h,e with
 |.var cs,.var ds=>kB (rp n args ef) cs ds
 |.row s st cut fr es,.row s' dj yW dk aT=>awl s s'&&st==dj&&(cut|| !yW)&&(fr|| !dk)&&xG n args es aT
 |.mp kt es,.mp qy aT=>awl kt qy&&xG n args es aT&&(aw6 kt 1000000||E5 ef (kt % 1000000) (kt % 1000000))
 |.lp c st sn,.lp c' dj wI=>awl c c'&&awl st dj&&kB (λ(p q:Nat×PV SE)=>awl p.1 q.1&&p.2.q_&&II n args ef p.2 q.2) sn wI
 |_,_=>af
def Tt(n:Nat)(args:List SE)(ef:List (Nat×Nat))(l:List (LO SE)):Nat->List (LO SE)->Bool
 |_,[]=>ab
 |k,o::os=>(match o with
  |.dead=>ab
  |o=>match uA ef k with
   |some k'=>match l[k']? with
    |some o'=>yX n args ef o o'
    |none=>af
   |none=>af)&&Tt n args ef l (k+1) os
def aeh(ef:List (Nat×Nat)):Bool:=ef.all λp=>ef.all λq=> !awl p.2 q.2||awl p.1 q.1
def inst(n m:Nat)(H V:SS):Option (List SE×List (Nat×Nat)):=
 if !Kr H then ah else match ako n (n+m) V.g H.g ⟨[],[]⟩with
 |some mt=>match aeg n (n+m) V.l 0 H.l mt with
  |some mt=>match Ts n mt m []with
   |some args=>if akq n args mt.ef V.g H.g&&Tt n args mt.ef V.l 0 H.l&&aeh mt.ef&&awl args.length m then aa (args,mt.ef)else ah
   |none=>ah
  |none=>ah
 |none=>ah
def An:Code->Nat
 |.region id _ _=>id
 |.seq a _=>An a
 |.block _ a=>An a
 |.loop a=>An a
 |.scope a=>An a
 |_=>0
abbrev nJ:=Bool->Nat->Nat->Code->SS->(yw->SS->aq)->aq
section step
variable(self:nJ)(kx:Kx)
def setArgs(d:Nat):Nat->List (PV SE)->List (Nat×Nat×PV SE)
 |_,[]=>[]
 |j,pv::da=>(d,j,pv)::setArgs d (j+1) da
def eE(d:Nat):List (Nat×Nat×PV SE)->List (Nat×Nat×PV SE)
 |[]=>[]
 |(d',t,pv)::g=>if awl d' d=ab then eE d g else(d',t,pv)::eE d g
def Tu(t:TypeId)(pa:PV SE)(V:SS):Option (PV SE):=
 match aW P t,sY P t,pa with
 |some s,aa _,.one (.pt j off ext)=>match V.l[j]? with
  |some (.var cs)=>if axj s ext&&axj (off+s) cs.length then(if isAgg P t then aa (.ag ((cs.drop off).take s))else match(cs.drop off).take s with
   |[c]=>aa (.one c)
   |_=>ah)else ah
  |_=>ah
 |_,_,_=>ah
def s9(d:Nat)(V:SS):List ResultVar->Option (List (PV SE))
 |[]=>aa []
 |.tmp t::rs=>match s9 d V rs with
  |some da=>aa ((ct d t V.g).getD (.one .un)::da)
  |none=>ah
 |.cell a t::rs=>match ct d a V.g with
  |some pa=>match Tu P t pa V,s9 d V rs with
   |some pv,aa da=>aa (pv::da)
   |_,_=>ah
  |none=>ah
def Hn(da:List (PV SE)):PV SE:=
 match da with
 |[]=>.one .un
 |[pv]=>pv
 |da=>.tu (da.map λpv=>match pv with
  |.one c=>(af,[c])
  |.ag cs=>(ab,cs)
  |.tu _=>(af,[.un]))
def oH(d f:Nat)(dst:Option Nat)(g:FuncId)(args:List (PV SE))(V:SS)(k:PV SE->SS->aq):aq:=
 match P.funcs[g]? with
 |some fn=>match fn.body with
  |some body=>
   if cfg.stop.any (awl g)then .fail 119 else if axj args.length fn.ntmps&&fn.name != "runtime.NumGoroutine" then
    self af (d+1) (f*1000+dst.getD 999+1) body {V with g:=setArgs (d+1) 0 args++eE (d+1) V.g,nt:=fn.ntmps} λex W=>match ex with
     |.exit _=>.fail 111
     |.cd t pv=>kx t pv {W with g:=eE (d+1) W.g,nt:=V.nt}
     |_=>match s9 P (d+1) W fn.results.toList with
      |some da=>k (Hn da) {W with g:=eE (d+1) W.g,nt:=V.nt}
      |none=>.fail 110
   else .fail 112
  |none=>.fail 113
 |none=>.fail 114
def rq:aq->Option (SS×SS)
 |.test _ a b=>match rq a with
  |some x=>aa x
  |none=>rq b
 |.bind _ k|.aE _ k|.call _ _ _ k|.loop _ k|.uniq k|.same _ _ k=>rq k
 |.pick _ _ a b=>match rq a with
  |some x=>aa x
  |none=>rq b
 |.tG a _ b=>match rq a with
  |some x=>aa x
  |none=>rq b
 |.bad 999999 n lv _ _ hg hl g l=>aa (⟨hg,hl,n,lv,0⟩,⟨g,l,n,lv,0⟩)
 |_=>ah
def guardOf(g:FuncId):Option TypeId:=(cfg.rows.find? λn=>axj 1000000 n&&awl (n % 1000000) g).map λn=>n/1000000- 1
def IJ(g:FuncId)(bs:List (Nat×Nat))(args:List (PV SE)):Option (TypeId×FuncId×List (Nat×Nat)):=
 match bs,args with
 |[],[.one (.fn c wJ)]=>(guardOf cfg g).map λt=>(t,c,wJ)
 |_,_=>ah
def Ho(d:Nat)(V:SS):Option Nat:=
 match ct d 2 V.g with
 |some (.one (.pt j 0 1))=>match V.l[j]? with
  |some (.var [.v (.i z)])=>if z==0 then aa j else ah
  |_=>ah
 |_=>ah
def L0(d f:Nat)(dst:Option Nat)(g:FuncId)(t:TypeId)(c:FuncId)(wJ:List (Nat×Nat))(V:SS)(k:PV SE->SS->aq):aq:=
 .call (3*P.funcs.size+g) ab (eR [.i t])<|
  oH P cfg self (λt' pv W=>match pv,Ho (d+1) W with
   |.ag [.v e],aa j=>if awl t' t then .aE (.rw e) (k (.one (.v e)) {W with g:=eE (d+1) W.g,nt:=V.nt,l:=((W.l++[LO.dead]).set W.l.length LO.dead).set j (.var [.v e])})else .fail 171
   |_,_=>.fail 172) (d+1) (f*1000+dst.getD 999+1) ah c (wJ.map λ(k,ext)=>.one (.pt k 0 ext))
   {V with n:=V.n+1,l:=V.l++[.var [.v (.i 0)]],g:=(d+1,2,.one (.pt V.l.length 0 1))::eE (d+1) V.g,nt:=3} λ_ W=>match Ho (d+1) W with
    |some j=>k (.one (.v (.i 0))) {W with g:=eE (d+1) W.g,nt:=V.nt,l:=W.l.set j (.var [.v (.i 0)])}
    |none=>.fail 173
def IK(d f:Nat)(dst:Option Nat)(g:FuncId)(args:List (PV SE))(V:SS)(k:PV SE->SS->aq):aq:=
 match IJ cfg g [] args with
 |some (t,c,wJ)=>match P.funcs[g]? with
  |some fn=>if fn.body.isSome&&fn.name != "runtime.NumGoroutine" then L0 P cfg self d f dst g t c wJ V k else .fail 18
  |none=>.fail 18
 |none=>oH P cfg self kx d f dst g args V k
def IL(d f:Nat)(dst:Option Nat)(g:FuncId)(args:List (PV SE))(V:SS)(k:SS->aq):aq:=
 let V1:SS:={V with lv:=V.lv+1}
 match rq (IK P cfg self (λ_ _ _=>.fail 0) d f dst g args V1 λpv W=>let W:=W.bY d dst pv;.bad 999999 W.n W.lv 0 0 W.g W.l W.g W.l)with
 |none=>.fail 150
 |some (V2,_)=>
  let h:=(cfg.hints.find? λh=>awl h.d d&&awl h.f f&&awl h.id (1000000+dst.getD 999)).getD ⟨d,f,1000000+dst.getD 999,[],[],[],[]⟩
  let Vg:=gcS (w9 h (settle h.AP V2))
  let(g',n,init):=N1 h Vg.g V.n []
  let(l',n,_):=aef h 0 Vg.l n init
  let H:SS:=⟨g',l',V.n+(n- V.n),V.lv,V.nt⟩
  .tG (IK P cfg self kx d f dst g args V1 λpv W=>
   let W:=w9 h (settle h.AP (W.bY d dst pv))
   match inst V.n (n- V.n) H W with
   |some (args,_)=>.next V.lv (eR args)
   |none=>.bad d f (1000000+dst.getD 999) V.n n H.g H.l W.g W.l) (n- V.n) (k H)
def yY(V:SS):List (PV SE)->Option (List SE×SS)
 |[]=>aa ([],V)
 |pv::da=>match vG V pv with
  |some (_,z,V)=>match yY V da with
   |some (zs,V)=>aa (z::zs,V)
   |none=>ah
  |none=>ah
def Ks:List (PV SE)->Bool
 |[]=>ab
 |.tu _::_=>af
 |_::l=>Ks l
def RC(fn:Func)(V:SS)(r:SE)(k:PV SE->SS->aq):aq:=
 match fn.resultTypes.toList with
 |[t]=>tO P t r (k (ofType P t r) V)
 |ts=>Tj P r 0 ts (k (.tu (NV P r 0 ts)) V)
def IM(g:FuncId)(zs:List SE)(j:Nat)(V:SS)(k:PV SE->SS->aq):aq:=
 match V.l[j]? with
 |some (.row s af af _ es)=>if aw6 g P.funcs.size then .aE (.rws es) (.call (P.funcs.size+g) ab (eR (es::zs)) (k (.one (.sr j)) ((({V with n:=V.n+1}:SS).u7 j).setObj j (.row s af af af (.var V.n)))))else .fail 13
 |_=>.fail 14
def u9:List (PV SE)->List (Nat×Nat)×List (PV SE)
 |.one (.pt k 0 ext)::r=>((k,ext)::(u9 r).1,(u9 r).2)
 |r=>([],r)
def AS(V:SS):List (Nat×Nat)->Option (List (List SE))
 |[]=>aa []
 |(k,n)::l=>match V.l[k]? with
  |some (.var ds)=>if awl ds.length n then(match IG ds,AS V l with
   |some es,aa r=>aa (es::r)
   |_,_=>ah)else ah
  |_=>ah
def distinct:List Nat->Bool
 |[]=>ab
 |k::l=> !(l.any (awl k))&&distinct l
def mW(y:SE):Nat->List (Nat×Nat)->List (LO SE)->List (LO SE)
 |_,[],L=>L
 |i,(k,n)::l,L=>mW y (i+1) l (L.set k (.var ((axt n).map λq=>.v (.aO (.proj y (i+1)) q))))
def aei(g:FuncId)(l:List (Nat×Nat))(rest:List (PV SE))(V:SS)(k:PV SE->SS->aq):aq:=
 match yY V rest,AS V l,P.funcs[g]? with
 |some (zs,_),aa Hp,aa fn=>if !rest.all qb then .fail 161 else if !distinct (l.map (·.1))then .fail 162 else match fn.resultTypes.toList with
  |[t]=>.call (2*P.funcs.size+g) ab (.ac (eR (Hp.map eR)) (eR zs)) (tO P t (.proj (.var V.n) 0) (k (ofType P t (.proj (.var V.n) 0)) {V with n:=V.n+1,l:=mW (.var V.n) 0 l V.l}))
  |_=>.fail 163
 |_,_,_=>.fail 164
def aej(g:FuncId)(args:List (PV SE))(V:SS)(k:PV SE->SS->aq):aq:=
 if !(u9 args).1.isEmpty then aei P g (u9 args).1 (u9 args).2 V k else
 match args with
 |.one c::rest=>match yY V rest with
  |some (zs,_)=>if !rest.all qb then .fail 16 else match c with
   |.sr j=>IM P g zs j V k
   |.nl _ s=>newObj V (.row s af af af (.tr s .an)) λj V=>IM P g zs j V k
   |_=>.fail 17
  |none=>.fail 15
 |_=>.fail 15
def w_(g:FuncId):Bool:=aw6 g 100000&&cfg.rows.any (awl (g+500000))
def xc:fe:={cfg with rows:=cfg.rows.filter λn=>aw6 n 500000||axj 600000 n}
def eo(g:FuncId):Nat:=
 match P.funcs[g]? with
 |some fn=>match fn.resultTypes.toList with
  |[t]=>match P.underlying t with
   |some (.slice el)=>(aW P el).getD 0
   |_=>0
  |_=>0
 |none=>0
def Tv(g:FuncId)(args:List (PV SE))(V:SS)(k:PV SE->SS->aq):aq:=
 match yY V args,P.funcs[g]? with
 |some (zs,V'),aa fn=>if Ks args&&(fn.body.isSome&&fn.name != "runtime.NumGoroutine")then
   .call (4*P.funcs.size+g) ab (eR zs) (k (.one (.sr V'.l.length)) {V' with n:=V'.n+1,l:=V'.l++[.row (eo P g) af af af (.var V'.n)]})else .fail 181
 |_,_=>.fail 181
def pT(d:Nat)(V:SS):List (Nat×PV SE):=V.g.filterMap λp=>if awl p.1 d then(match ct d p.2.1 V.g with
 |some pv=>if pv.q_ then aa (p.2.1,pv)else ah
 |none=>ah)else ah
def L4(d:Nat)(sn:List (Nat×PV SE)):List (Nat×Nat×PV SE):=sn.map λq=>(d,q.1,q.2)
def IN(d:Nat):List Tmp->List (PV SE)->List (Nat×Nat×PV SE)->List (Nat×Nat×PV SE)
 |p::ps,a::as,g=>IN d ps as (NL d p a g)
 |_,_,g=>g
def akr(j c:Nat)(sn:List (Nat×PV SE))(ex:yw)(W:SS)(k:PV SE->SS->aq):aq:=
 match ex with
 |.normal=>k (.one (.v (.b ab))) {W with l:=W.l.set j (.lp c 0 sn)}
 |.ret=>k (.one (.v (.b af))) {W with l:=W.l.set j (.lp c 2 [])}
 |.exit i=>k (.one (.v (.b af))) {W with l:=W.l.set j (.lp c (i+4) [])}
 |.cd _ _=>.fail 192
def Tw(pv:PV SE)(j:Nat):Bool:=
 match pv with
 |.one (.yl j')=>awl j j'
 |_=>af
def Tx(Cx:Cs)(d f:Nat)(dst:Option Nat)(fo:Operand)(j:Nat)(args:List (PV SE))(V:SS)(k:PV SE->SS->aq):aq:=
 match V.l[j]? with
 |some (.lp c 0 sn)=>match Cx[c]? with
  |some rc=>if awl args.length rc.ps.length&&rc.ps.all (λp=>aw6 p rc.n)then
    self ab (d+1) (f*1000+dst.getD 999+1) rc.gD {V with g:=IN (d+1) rc.ps args (L4 (d+1) sn++eE (d+1) V.g),nt:=rc.n} λex W=>match ex,W.l[j]? with
     |.normal,aa (.lp c1 0 sn1)=>if awl c c1&&Tw (bM P d W 0 fo) j then
       self ab (d+1) (f*1000+dst.getD 999+1) rc.bd {W with l:=W.l.set j (.lp c 1 sn1)} λex W=>match W.l[j]? with
        |some (.lp c2 1 sn2)=>if awl c c2&&Tw (bM P d W 0 fo) j then akr j c sn2 ex {W with g:=eE (d+1) W.g,nt:=V.nt} k else .fail 193
        |_=>.fail 193
      else .fail 194
     |_,_=>.fail 194
   else .fail 195
  |none=>.fail 195
 |_=>.fail 196
def asd:Bool:=cfg.hints.any λh=>awl h.d 999998
variable(Cx:Cs)
def Zs(d f0:Nat)(sM:Bool)(o:Oper)(c:Call)(V:SS)(k:PV SE->SS->aq):aq:=
 match c.callee with
 |.builtin _=>gH P d o V k
 |.value f=>match bM P d V 0 f with
  |.one (.fn g bs)=>
   let args:=jX P d V c.args.toList c.argTypes.toList
   match IJ cfg g bs args with
   |some (t,cf,wJ)=>match P.funcs[g]? with
    |some fn=>if !sM&&fn.body.isSome&&fn.name != "runtime.NumGoroutine" then L0 P cfg self d f0 o.dst g t cf wJ V k else .fail 18
    |none=>.fail 18
   |none=>
   if bs.isEmpty&&w_ cfg g then Tv P g args V k
   else if bs.isEmpty&&cfg.rows.any (awl g)then
    match P.funcs[g]? with
    |some fn=>if !sM&&fn.body.isSome&&fn.name != "runtime.NumGoroutine" then aej P g args V k else .fail 18
    |none=>.fail 18
   else if bs.isEmpty&&cfg.pure.any (awl g)then
    match yY V args,P.funcs[g]? with
    |some (zs,V'),aa fn=>if Ks args&&fn.body.isSome&&fn.name != "runtime.NumGoroutine" then .call g (!args.all qb) (eR zs) (RC P fn {V' with n:=V'.n+1} (.var V'.n) k)else .fail 115
    |_,_=>.fail 115
   else if sM then .fail 116 else oH P cfg self kx d f0 o.dst g (args++bs.map λ(k,ext)=>.one (.pt k 0 ext)) V k
  |.one (.yl j)=>if sM then .fail 116 else Tx P self Cx d f0 o.dst f j (jX P d V c.args.toList c.argTypes.toList) V k
  |_=>.fail 117
 |.invoke .. =>.fail 118
def L5(d f0:Nat)(sM:Bool)(o:Oper)(V:SS)(k:PV SE->SS->aq):aq:=
 match o.op with
 |.call c=>Zs P cfg self kx Cx d f0 sM o c V k
 |_=>gH P d o V k
def RD:SE->Option IV
 |.i n=>aa (.int n)
 |.b t=>aa (.bool t)
 |_=>ah
def agB:IV->Option SE
 |.raw (.int .i64 n)=>aa (.i n)
 |.raw (.bool b)=>aa (.b b)
 |_=>ah
def Ty(d:Nat)(V:SS)(o:Oper):Option (PV SE):=
 match o.op with
 |.binOp op t x y _=>match bM P d V t x,bM P d V t y with
  |.one (.v a),.one (.v b)=>match RD a,RD b with
   |some u,aa v=>((sZ P op t x y u v).bind agB).map λe=>.one (.v e)
   |_,_=>ah
  |_,_=>ah
 |.index t x ix=>match P.underlying t,bM P d V t x,bM P d V 0 ix with
  |some (.array n el),.ag cs,.one (.v (.i z))=>match aW P el,sY P el with
   |some s,aa _=>if 0<=z/\z<n/\z.toNat*s+s<=cs.length then(if isAgg P el then aa (.ag ((cs.drop (z.toNat*s)).take s))else match(cs.drop (z.toNat*s)).take s with
    |[c]=>aa (.one c)
    |_=>ah)else ah
   |_,_=>ah
  |_,_,_=>ah
 |_=>ah
def agC:Bool:=cfg.hints.any λh=>awl h.d 999999
def Zt(d:Nat)(V:SS)(o:Oper):Option (SE×Nat×Cl SE):=
 match o.op with
 |.call c=>match c.callee with
  |.builtin .append=>match jX P d V c.args.toList c.argTypes.toList with
   |[.one base,.one x]=>match c.argTypes[0]?,c.argTypes[1]? with
    |some t0,aa t1=>match elemOf P t0,elemOf P t1 with
     |some et,aa _=>match aW P et,cZ P et,(P.info? et).map (·.bytes)with
      |some s,aa z,aa bytes=>if awl s 0|| !awl z.cells.size s|| !axj bytes 1000000 then ah else
       match r9 P V et s base x,base with
       |some (_,es,_),.nl b w=>aa (es,s,.nl b w)
       |_,_=>ah
      |_,_,_=>ah
     |_,_=>ah
    |_,_=>ah
   |_=>ah
  |_=>ah
 |_=>ah
def L6(d:Nat)(V:SS)(o:Oper):Option (Nat×Nat×TypeId×SE×SE):=
 match o.op with
 |.next it af=>match bM P d V 0 it with
  |.one (.mp j)=>match V.l[j]? with
   |some (.mp kt x)=>if axj 1000000 kt then(match V.l[kt % 1000000]? with
    |some (.mp oZ es)=>if mO oZ then ah else aa (j,kt,oZ,es,x)
    |_=>ah)else ah
   |_=>ah
  |_=>ah
 |_=>ah
def Zu(j kt:Nat)(oZ:TypeId)(es x:SE)(V:SS)(k:PV SE->SS->aq):aq:=
 match P.underlying (kt/1000000- 1)with
 |some (.map _ _)=>.pick es x (k (.tu [(af,[.v (.b af)])]) V)
   (k (.tu [(af,[.v (.b ab)]),(af,[.un]),(af,[.un])]) {V with n:=V.n+2,l:=V.l.set j (.mp kt (.var (V.n+1)))})
 |_=>.fail 190
def E6(d f0:Nat)(sM:Bool)(o:Oper)(V:SS)(k:PV SE->SS->aq):aq:=
 match(if sM then ah else L6 P d V o)with
 |some (j,kt,oZ,es,x)=>Zu P j kt oZ es x V k
 |none=>match(if !sM&&asd cfg then Zt P d V o else ah)with
 |some (es,s,c)=>.aE (.sub s es (.len es) (.i 0)) (k (.one c) V)
 |none=>match(if !sM&&agC cfg then Ty P d V o else ah)with
  |some pv=>k pv V
  |none=>L5 P cfg self kx Cx d f0 sM o V k
def AT(d:Nat)(sM:Bool)(o:Oper)(V:SS):Option (FuncId×List (PV SE)):=
 if sM then ah else match o.op with
 |.call c=>match c.callee with
  |.value f=>match bM P d V 0 f with
   |.one (.fn g bs)=>if cfg.Zj.any (awl g)&& !(bs.isEmpty&&cfg.pure.any (awl g))then aa (g,jX P d V c.args.toList c.argTypes.toList++bs.map λ(k,ext)=>.one (.pt k 0 ext))else ah
   |_=>ah
  |_=>ah
 |_=>ah
def vI(sk:List Nat):Option Nat->List Nat
 |some t=>sk.filter λx=> !awl x t
 |none=>sk
def IP(sk:List Nat):Option Nat->List Nat
 |some t=>t::vI sk (aa t)
 |none=>sk
def oI(sk:List Nat)(ops:Array Oper)(o:Oper):Bool:=
 match o.guard with
 |some (j,_)=>match(ops[j]?).bind (·.dst)with
  |some t=>i5 sk t
  |none=>af
 |none=>af
def Kt(t:TypeId):Bool:=
 match P.underlying t with
 |some (.interface _)=>af
 |some _=>ab
 |none=>af
def Zv(d:Nat)(V:SS)(o:Oper)(rest:List Oper):Option (TypeId×PV SE):=
 match o.op,rest with
 |.makeInterface t x,[p]=>match p.op,o.dst,o.guard,p.guard with
  |.panic (.tmp a),aa b,ah,ah=>if awl a b&&Kt P t then aa (t,bM P d V t x)else ah
  |_,_,_,_=>ah
 |_,_=>ah
def gO(d f0:Nat)(sM:Bool)(ops:Array Oper):List Nat->List Oper->SS->(SS->aq)->aq
 |_,[],V,k=>k V
 |sk,o::rest,V,k=>
  if !(match o.dst with|some t=>aw6 t V.nt|none=>ab)then .fail 121 else
  match(if sM then ah else Zv P d V o rest)with
  |some (t,pv)=>kx t pv (V.kM d o.dst)
  |none=>
  let run (V:SS):aq:=match AT P cfg d sM o V with
   |some (g,args)=>IL P cfg self kx d f0 o.dst g args V λV=>gO d f0 sM ops (vI sk o.dst) rest V k
   |none=>E6 P cfg self kx Cx d f0 sM o V λpv V=>gO d f0 sM ops (vI sk o.dst) rest (V.bY d o.dst pv) k
  let skip (V:SS):aq:=gO d f0 sM ops (IP sk o.dst) rest (V.kM d o.dst) k
  match(if oI sk ops o then .skip else vH ops d V o)with
  |.run=>run V
  |.skip=>skip V
  |.test t e want=>.test e ((if want then run else skip) (V.bY d (aa t) (.one (.v (.b ab))))) ((if want then skip else run) (V.bY d (aa t) (.one (.v (.b af)))))
  |.fail=>.fail 120
def uB(d:Nat)(V:SS):fU:=⟨V.nt,(V.g.filterMap λ(d',t,_)=>if awl d d' then aa t else ah).filter (λt=>match ct d t V.g with
 |some (.one (.pt _ _ _))=>ab
 |some (.one (.tp _))=>ab
 |_=>af),[],V.g.filterMap λ(d',t,_)=>if awl d d' then(match ct d t V.g with
  |some (.one (.pt k _ _))=>aa (t,k)
  |_=>ah)else ah,[],(V.g.filterMap λ(d',t,_)=>if awl d d' then aa t else ah).filter (λt=>match ct d t V.g with
 |some (.one (.v _))=>ab
 |some (.one (.w _ _))=>ab
 |_=>af),[],[],[],V.g.filterMap λ(d',t,_)=>if awl d d' then(match ct d t V.g with
  |some (.one (.mp k))=>(match V.l[k]? with
   |some (.mp kt _)=>if mO kt then ah else aa (t,k)
   |_=>ah)
  |_=>ah)else ah⟩
def aoo(d:Nat)(a:Code)(V:SS):Option Nat:=
 match a with
 |.seq (.region _ ops af) _=>match ops.toList with
  |[o]=>match o.op with
   |.binOp .lss _ (.tmp i) (.const (.int .i64 n)) _=>match ct d i V.g with
    |some (.one (.v (.i z)))=>if z==0&&decide (0<=n)&&decide (n<=4)then aa (n.toNat+1)else ah
    |_=>ah
   |_=>ah
  |_=>ah
 |_=>ah
def Xi:Code->Bool
 |.seq a _=>Xi a
 |.region _ ops _=>ops.toList.any λo=>match o.op with
  |.next _ af=>ab
  |_=>af
 |_=>af
def N3(jk:Bool)(d f:Nat)(a:Code)(k:yw->SS->aq):Nat->SS->aq
 |0,_=>.fail 180
 |n+1,V=>self jk d f a V λex W=>match ex with
  |.normal=>N3 jk d f a k n W
  |ex=>k ex W
def BZ(c j:Nat):Nat->List (LO SE)->Bool
 |_,[]=>ab
 |k,.lp c' st _::os=>(awl k j||axj 2 st||aw6 c' c)&&BZ c j (k+1) os
 |k,_::os=>BZ c j (k+1) os
def aks(j c st:Nat)(W:SS)(k:yw->SS->aq):aq:=
 match st with
 |0=>k .normal {W with l:=W.l.set j (.lp c 3 [])}
 |1=>.fail 136
 |2=>k .ret {W with l:=W.l.set j (.lp c 2 [])}
 |3=>.fail 136
 |i+4=>k (.exit i) {W with l:=W.l.set j (.lp c (i+4) [])}
def aop:Bool:=cfg.hints.any λh=>awl h.d 999997
def Wn(ops:Array Oper)(f:Operand):Operand:=
 match f with
 |.tmp t=>match ops.toList.find? λo=>match o.dst with|some t'=>awl t t'|none=>af with
  |some o=>match o.op with
   |.move x=>x
   |_=>f
  |none=>f
 |f=>f
def aih(d:Nat)(V:SS)(ops:Array Oper)(o:Oper):Bool:=
 match o.op with
 |.call c=>match c.callee with
  |.value f=>match bM P d V 0 (Wn ops f)with
   |.one (.yl _)=>ab
   |.one (.fn g bs)=>aop cfg&& !(bs.isEmpty&&(w_ cfg g||cfg.pure.any (awl g)))
   |_=>af
  |_=>af
 |_=>af
def cutAt(d:Nat)(V:SS)(ops:Array Oper):Option Nat:=ops.toList.findIdx? (aih P cfg d V ops)
variable(i9:Cs->nJ)
def nK:nJ:=λjk d f c V k=>
 match c with
 |.skip|.label _=>k .normal V
 |.region _ ops draw=>
  if draw then match cutAt P cfg d V ops with
   |some j=>if Rw ops j&&(bP (ops.extract 0 j)).ok&&(zC (ops.extract 0 j) (bP (ops.extract 0 j))||i6 P (bP (ops.extract 0 j)) (ops.extract 0 j).toList.zipIdx (uB d V))then
     gO P (if i6 P (bP (ops.extract 0 j)) (ops.extract 0 j).toList.zipIdx (uB d V)then cfg else xc cfg) (i9 Cx) (λt pv V=>k (.cd t pv) V) Cx d f ab (ops.extract 0 j) [] (ops.extract 0 j).toList V λV=>gO P cfg (i9 Cx) (λt pv V=>k (.cd t pv) V) Cx d f af ops [] (ops.toList.drop j) V λV=>k .normal V
    else .fail 130
   |none=>(if(bP ops).ok&&(zC ops (bP ops)||i6 P (bP ops) ops.toList.zipIdx (uB d V))then gO P (if i6 P (bP ops) ops.toList.zipIdx (uB d V)then cfg else xc cfg) (i9 Cx) (λt pv V=>k (.cd t pv) V) Cx d f ab ops [] ops.toList V λV=>k .normal V else .fail 130)
  else gO P cfg (i9 Cx) (λt pv V=>k (.cd t pv) V) Cx d f af ops [] ops.toList V λV=>k .normal V
 |.seq a b=>i9 Cx jk d f a V λex V=>match ex with
  |.normal=>i9 Cx jk d f b V k
  |ex=>k ex V
 |.cond c a b=>match bM P d V 0 c with
  |.one (.v (.b ab))=>i9 Cx jk d f a V k
  |.one (.v (.b af))=>i9 Cx jk d f b V k
  |.one (.v e)=>match c with
   |.tmp t=>if !aw6 t V.nt then .fail 131 else .test e (i9 Cx jk d f a (V.bY d (aa t) (.one (.v (.b ab)))) k) (i9 Cx jk d f b (V.bY d (aa t) (.one (.v (.b af)))) k)
   |_=>.fail 131
  |.one (.w _ e)=>match c with
   |.tmp t=>if !aw6 t V.nt then .fail 131 else .test e (i9 Cx jk d f a (V.bY d (aa t) (.one (.v (.b ab)))) k) (i9 Cx jk d f b (V.bY d (aa t) (.one (.v (.b af)))) k)
   |_=>.fail 131
  |_=>.fail 132
 |.block id a=>i9 Cx jk d f a V λex V=>match ex with
  |.exit bt=>if awl id bt then k .normal V else k (.exit bt) V
  |ex=>k ex V
 |.loop a=>match(if agC cfg then aoo d a V else ah)with
  |some n=>N3 (i9 Cx) jk d f a k n V
  |none=>
  let id:=An a
  let h:=(cfg.hints.find? λh=>awl h.d d&&awl h.f f&&awl h.id id).getD ⟨d,f,id,[],[],[],[]⟩
  let V0:=w9 h (settle h.AP V)
  let Vg:=gcS {V0 with g:=V0.g.filter λp=> !oG h.drop p.1 p.2.1}
  let(g,n,init):=N1 h Vg.g Vg.n []
  let(l,n,_):=aef h 0 Vg.l n init
  let H:SS:=⟨g,l,V0.n+(n- V0.n),V.lv+1,V.nt⟩
  match inst V0.n (n- V0.n) H V0 with
  |some (args,_)=>(if Xi a then aq.uniq else λk=>k)<|.loop (eR args) (i9 Cx jk d f a H λex W=>match ex with
   |.normal=>match inst V0.n (n- V0.n) H (IH h.AP H W)with
    |some (args,_)=>.next V.lv (eR args)
    |none=>.bad d f id V0.n n H.g H.l W.g W.l
   |ex=>k ex W)
  |none=>.bad d f id V0.n n H.g H.l V0.g V0.l
 |.scope a=>i9 Cx jk d f a V k
 |.exit id=>k (.exit id) V
 |.ret=>k .ret V
 |.rangeFunc g params assign body=>if jk then .fail 134 else match bM P d V 0 g with
  |.one (.fn F bs)=>
   oH P cfg (i9 (Cx++[⟨params.toList,assign,body,V.nt⟩])) (λ_ _ _=>.fail 135) (d+1) (f*1000+800+An body % 190) ah F (.one (.yl V.l.length)::bs.map λ(k,ext)=>.one (.pt k 0 ext))
    {V with g:=(d+1,0,.one (.yl V.l.length))::eE (d+1) V.g,l:=V.l++[.lp Cx.length 0 (pT d V)],nt:=1} λ_ W=>match ct (d+1) 0 W.g,W.l[V.l.length]? with
     |some (.one (.yl j)),aa (.lp c' st _)=>if awl j V.l.length&&awl c' Cx.length&&BZ Cx.length V.l.length 0 W.l then aks V.l.length Cx.length st {W with g:=eE (d+1) W.g,nt:=V.nt} k else .fail 137
     |_,_=>.fail 137
  |_=>.fail 138
 |_=>.fail 133
end step
def exec(n:Nat):Cs->nJ:=az0 (λ_ _ _ _ _ _ _=>.fail 140) (λ_ s Cx=>nK P cfg Cx s) n
def gY:Nat->List TypeId->List (PV SE)
 |_,[]=>[]
 |j,t::ts=>ofType P t (.var j)::gY (j+1) ts
def yy:Nat->List TypeId->aq->aq
 |_,[],k=>k
 |j,t::ts,k=>tO P t (.var j) (yy (j+1) ts k)
def aQ(n:Nat)(new:Bool)(f:FuncId):aq:=
 match P.funcs[f]? with
 |some fn=>match fn.body with
  |some c=>
   if axj fn.params.size fn.ntmps then
    yy P 0 fn.params.toList<|exec P cfg n [] af 0 f c ⟨setArgs 0 0 (gY P 0 fn.params.toList),[],fn.params.size,0,fn.ntmps⟩ λex V=>match ex with
     |.exit _=>.fail 141
     |.cd _ _=>.fail 146
     |_=>match s9 P 0 V fn.results.toList with
      |some da=>match vG V (Hn da)with
       |some (fr,z,_)=>.ret (if new&&fr then .rw z else z)
       |none=>.fail 142
      |none=>.fail 110
   else .fail 143
  |none=>.fail 144
 |none=>.fail 145
end run
variable(P:Program)
def vJ(z:IV):Option IV:=if ao z then aa z else ah
def aN:IV->Bool
 |.raw _=>ab
 |_=>af
def ie:IV->Option Int
 |.raw (.int _ n)=>aa n
 |_=>ah
def dc(op:BinOp)(t:TypeId)(a b:IV):Option IV:=
 match lr a,lr b with
 |some .nilIface,_=>ah
 |some _,aa _=>sZ P op t (.func 0) (.func 0) a b
 |_,_=>ah
def RE(op:UnOp):IV->Option IV
 |.raw v=>(aH P (Op.unary op v)).map lift
 |_=>ah
def L7(src dst:TypeId):IV->Option IV
 |.raw (.string s)=>match P.underlying src,P.underlying dst with
  |some _,aa .string=>aa (.raw (.string s))
  |_,_=>ah
 |.raw v=>(aH P (convert src dst v)).map lift
 |_=>ah
def cq(s:Nat):IV->IV->Option IV
 |.tree s' es,i=>match ie i with
  |some n=>if s'=s/\0<=n then match es[n.toNat]? with
   |some x=>if(cellsOf x).length=s then aa x else ah
   |none=>ah
   else ah
  |none=>ah
 |_,_=>ah
def fV(s:Nat)(es:List IV):Bool:=es.all λe=>(cellsOf e).length==s&&(cellsOf e).all ao
def dg(s bytes:Nat):IV->IV->Option IV
 |.tree s1 es,.tree s2 fs=>if s1=s/\s2=s/\0<s/\fV s fs=ab/\(4*(es.length+fs.length)+4096)*bytes<=2 ^47/\es.length+fs.length<=2 ^40 then aa (.tree s (es++fs))else ah
 |_,_=>ah
def yz(s:Nat):IV->IV->IV->Option IV
 |.tree s1 es,i,x=>match ie i with
  |some n=>if s1=s/\0<=n/\n.toNat<es.length/\(cellsOf x).length=s then aa (.tree s (es.set n.toNat x))else ah
  |none=>ah
 |_,_,_=>ah
def pU(s:Nat):IV->IV->IV->Option IV
 |.tree s1 es,lo,hi=>match ie lo,ie hi with
  |some l,aa h=>if s1=s/\0<=l/\l.toNat<=h.toNat/\0<=h/\h.toNat<=es.length then aa (.tree s ((es.take h.toNat).drop l.toNat))else ah
  |_,_=>ah
 |_,_,_=>ah
def Hq:IV->Option IV
 |.tree _ es=>aa (.int es.length)
 |_=>ah
def Ao:IV->Option IV
 |.raw (.string b)=>aa (.int b.size)
 |_=>ah
def uC:List IV->Option (List Value)
 |[]=>aa []
 |c::cs=>match c with
  |.raw (.int q n)=>(uC cs).map (Value.int q n::·)
  |.raw (.string q)=>(uC cs).map (Value.string q::·)
  |.raw (.bool q)=>(uC cs).map (Value.bool q::·)
  |_=>ah
def keyOf:IV->Option Value
 |.raw (.int q n)=>aa (.int q n)
 |.raw (.string q)=>aa (.string q)
 |.agg cs=>(uC cs).map λvs=>.agg vs.toArray
 |_=>ah
def mf:List IV->Option (List Value)
 |[]=>aa []
 |d::ds=>match d with
  |.aF [k,_]=>match keyOf k,mf ds with
   |some v,aa vs=>aa (v::vs)
   |_,_=>ah
  |_=>ah
def nowAt(kd:TypeDesc)(k:Value):List Value->Nat->Option (Option Nat)
 |[],_=>aa ah
 |e::es,n=>match Instr.sameNow kd k e with
  |some ab=>aa (aa n)
  |some af=>nowAt kd k es (n+1)
  |none=>ah
def xf(kt:TypeId):Option TypeDesc:=
 match P.underlying kt with
 |some (.int q)=>aa (.int q)
 |some .string=>aa .string
 |_=>ah
def D5(kt:TypeId)(ks:List Value)(k:Value):Option (Option Nat):=
 match fy P ab kt k (ks.map λe=>(e,.undef,0)),fy P af kt k (ks.map λe=>(e,.undef,0))with
 |some q,aa q'=>if q=q' then(match q with
  |none=>aa ah
  |some j=>match ks[j]? with
   |some e=>if Instr.sameBits 10000 e k then aa (aa j)else ah
   |none=>ah)else ah
 |_,_=>ah
def eZ(kt:TypeId)(ds:List IV)(key:IV):Option (Option Nat):=
 match xf P kt,mf ds,keyOf key with
 |some kd,aa ks,aa k=>nowAt kd k ks 0
 |none,aa ks,aa k=>D5 P kt ks k
 |_,_,_=>ah
def jK(w:Nat):IV->IV->Option IV
 |.raw (.string s),.raw (.int .i64 p)=>if 0<=p then(match w with
  |0=>aa (.raw (.bool (decide (p.toNat<s.size))))
  |1=>aa (.raw (.int .i32 (axU s p.toNat).1))
  |2=>aa (.raw (.int .i64 ((p.toNat+(axU s p.toNat).2:Nat))))
  |_=>ah)else ah
 |.raw (.int q c),p=>if w=7/\0<=c/\c<=1000000 then aa (.raw (.int q c))
  else if w=8/\1<=c/\c<=1000000/\(q==awK)=ab/\(cellsOf p).length=1 then aa (.tree 1 (awE c.toNat p))
  else if w=10/\0<=c/\c<=1000000/\(cellsOf p).length=1 then aa (.tree 1 (awE c.toNat p))else ah
 |.aF ds,_=>if w=9 then aa (.int ds.length)else ah
 |.raw (.slice ah 0 0),_=>if w=11 then aa (.raw (.bool ab))else ah
 |_,_=>ah
def SE.den(O:List IV):SE->Option IV
 |.var x=>O[x]?
 |.i n=>aa (.raw (.int .i64 n))
 |.k q n=>aa (.raw (.int q n))
 |.b t=>aa (.raw (.bool t))
 |.s l=>aa (.raw (.string ⟨l.toArray⟩))
 |.raw v=>aa (.raw v)
 |.ok e=>(e.den O).bind vJ
 |.lV n e=>(e.den O).bind λ|.agg cs=>if cs.length=n/\cs.all ao then aa (.agg cs)else ah|_=>ah
 |.aO e j=>(e.den O).bind λ|.agg cs=>(cs[j]?).bind vJ|_=>ah
 |.idx q e x=>(e.den O).bind λa1=>(x.den O).bind λb1=>cq q a1 b1
 |.oY q e x j=>(e.den O).bind λa1=>(x.den O).bind λb1=>(cq q a1 b1).bind λy=>((cellsOf y)[j]?).bind vJ
 |.len e=>(e.den O).bind Hq
 |.uy e=>(e.den O).bind Ao
 |.an=>aa (.agg [])
 |.ac a r=>(a.den O).bind λx=>(r.den O).bind λ|.agg cs=>aa (.agg (x::cs))|_=>ah
 |.tr q r=>(r.den O).bind λ|.agg cs=>if 0<q/\cs.all (λe=>(cellsOf e).length==q)then aa (.tree q cs)else ah|_=>ah
 |.tp r=>(r.den O).bind λ|.agg cs=>aa (.aF cs)|_=>ah
 |.cat q bytes e f=>(e.den O).bind λa1=>(f.den O).bind λb1=>dg q bytes a1 b1
 |.yV q e x y=>(e.den O).bind λa1=>(x.den O).bind λb1=>(y.den O).bind λc1=>yz q a1 b1 c1
 |.sub q e lo hi=>(e.den O).bind λa1=>(lo.den O).bind λb1=>(hi.den O).bind λc1=>pU q a1 b1 c1
 |.proj e j=>(e.den O).bind λ|.aF cs=>cs[j]? |_=>ah
 |.bin op t a2 b2=>(a2.den O).bind λx1=>(b2.den O).bind λy1=>dc P op t x1 y1
 |.un op a=>(a.den O).bind (RE P op)
 |.cv q d a=>(a.den O).bind (L7 P q d)
 |.mx big a2 b2=>(a2.den O).bind λx1=>(b2.den O).bind λy1=>if big then Nq P [x1,y1]else ah
 |.LW e x=>(e.den O).bind λa1=>(x.den O).bind λb1=>match a1,b1 with
  |.raw (.string q),.raw (.int _ n)=>if 0<=n then(q.data.toList[n.toNat]?).map λc=>.raw (.int .u8 c.toNat)else ah
  |_,_=>ah
 |.Kn e lo hi=>(e.den O).bind λa1=>(lo.den O).bind λb1=>(hi.den O).bind λc1=>match a1,ie b1,ie c1 with
  |.raw (.string q),aa l,aa h=>if 0<=l/\l.toNat<=h.toNat/\0<=h/\h.toNat<=q.size then aa (.raw (.string ⟨((q.data.toList.drop l.toNat).take (h.toNat- l.toNat)).toArray⟩))else ah
  |_,_,_=>ah
 |.dec w a p=>(a.den O).bind λa1=>(p.den O).bind λb1=>jK w a1 b1
 |.rw e=>(e.den O).bind λz=>if aN z then aa z else ah
 |.rws e=>(e.den O).bind λ|.tree q es=>if es.all (λe=>(cellsOf e).all aN)then aa (.tree q es)else ah|_=>ah
 |.has kt m key=>(m.den O).bind λa1=>(key.den O).bind λk1=>match a1 with
  |.aF ds=>(eZ P kt ds k1).map λr=>.bool r.isSome
  |_=>ah
 |.get kt m key z=>(m.den O).bind λa1=>(key.den O).bind λk1=>(z.den O).bind λd1=>match a1 with
  |.aF ds=>match eZ P kt ds k1 with
   |some (aa j)=>match ds[j]? with
    |some (.aF [_,y1])=>aa y1
    |_=>ah
   |some ah=>aa d1
   |none=>ah
  |_=>ah
 |.ins kt m key x=>(m.den O).bind λa1=>(key.den O).bind λk1=>(x.den O).bind λy1=>match a1 with
  |.aF ds=>match eZ P kt ds k1 with
   |some (aa j)=>aa (.aF (ds.set j (.aF [k1,y1])))
   |some ah=>aa (.aF (ds++[.aF [k1,y1]]))
   |none=>ah
  |_=>ah
def SE.dw{O I:List IV}:∀(e:SE) {z:IV},e.den P O=aa z->e.den P (O++I)=aa z:=by
 have hb:∀{o o':Option IV} {f:IV->Option IV} {z:IV},(∀y,o=aa y->o'=aa y)->o.bind f=aa z->o'.bind f=aa z:=by
  intro o o' f z h hz;cases o with
  |none=>cases hz
  |some y=>rw[h y rfl];exact hz
 intro e;induction e with
 |var x=>intro z h;simp only[SE.den]at h⊢;rw[awp (awa.1 h).1];exact h
 |i n=>intro z h;exact h
 |k q n=>intro z h;exact h
 |b t=>intro z h;exact h
 |s l=>intro z h;exact h
 |raw v=>intro z h;exact h
 |an=>intro z h;exact h
 |ok e ih=>intro z h;exact hb (λy=>ih) h
 |lV n e ih=>intro z h;exact hb (λy=>ih) h
 |aO e j ih=>intro z h;exact hb (λy=>ih) h
 |uy e ih=>intro z h;exact hb (λy=>ih) h
 |len e ih=>intro z h;exact hb (λy=>ih) h
 |tr q r ih=>intro z h;exact hb (λy=>ih) h
 |tp r ih=>intro z h;exact hb (λy=>ih) h
 |proj e j ih=>intro z h;exact hb (λy=>ih) h
 |un op a ih=>intro z h;exact hb (λy=>ih) h
 |cv q d a ih=>intro z h;exact hb (λy=>ih) h
 |rw e ih=>intro z h;exact hb (λy=>ih) h
 |rws e ih=>intro z h;exact hb (λy=>ih) h
 |idx q e x gI fL|oY q e x j gI fL|ac a r gI fL|cat q by' e f gI fL|bin op t a b gI fL|mx big a b gI fL|LW e x gI fL|has kt m key gI fL|dec w a p gI fL=>
  intro z h;simp only[SE.den,awx]at h⊢;obtain⟨a,h1,b,h2,h3⟩:=h;exact⟨a,gI h1,b,fL h2,h3⟩
 |yV q e x y gI fL Hr|sub q e lo hi gI fL Hr|Kn e lo hi gI fL Hr|ins kt m key x gI fL Hr|get kt m key z' gI fL Hr=>
  intro z h;simp only[SE.den,awx]at h⊢;obtain⟨a,h1,b,h2,c,h3,h4⟩:=h;exact⟨a,gI h1,b,fL h2,c,Hr h3,h4⟩
abbrev Cr:=FuncId->Bool->List IV->IV->Prop
def jL(O:List IV)(e:SE):Option (List IV):=
 match e.den P O with
 |some (.agg cs)=>aa cs
 |_=>ah
def aq.sat(C:Cr)(Q:IV->Prop):aq->List (List IV->Prop)->List IV->Prop
 |.fail _,_,_=>False
 |.ret e,_,O=>∃z,e.den P O=aa z/\Q z
 |.test e a b,K,O=>(e.den P O=aa (.bool ab)/\a.sat C Q K O)\/(e.den P O=aa (.bool af)/\b.sat C Q K O)
 |.bind e k,K,O=>∃z,e.den P O=aa z/\k.sat C Q K (O++[z])
 |.aE e k,K,O=>(∃z,e.den P O=aa z)/\k.sat C Q K O
 |.call f new args k,K,O=>∃xs z,jL P O args=aa xs/\C f new xs z/\k.sat C Q K (O++[z])
 |.pick es x a b,K,O=>∃ds rem,es.den P O=aa (.aF ds)/\(∃r,x.den P O=aa (.aF (.aF ds::.aF rem::r)))/\(rem=[]->a.sat C Q K O)/\∀i y,rem[i]?=aa y->b.sat C Q K (O++[y,.aF [.aF ds,.aF (rem.eraseIdx i),y]])
 |.same es x k,K,O=>∃ds r,es.den P O=aa (.aF ds)/\x.den P O=aa (.aF (.aF ds::r))/\k.sat C Q K O
 |.uniq k,K,O=>k.sat C Q K O
 |.loop init body,K,O=>∃vs,jL P O init=aa vs/\∃m:Nat,(az0 (motive:=λ_=>List IV->Prop) (λ_=>False) (λ_ ih vs=>body.sat C Q (K++[ih]) (O++vs)) m) vs
 |.tG body m cont,K,O=>body.sat C Q (K++[λvs=>vs.length=m/\cont.sat C Q K (O++vs)]) O
 |.next lv args,K,O=>∃vs p,jL P O args=aa vs/\K[lv]?=aa p/\p vs
 |.bad ..,_,_=>False
abbrev Hs(K K':List (List IV->Prop)):Prop:=All2 (λp q=>∀vs,p vs->q vs) K K'
def Hs.snoc{K K':List (List IV->Prop)}(h:Hs K K'){p q:List IV->Prop}(hp:∀vs,p vs->q vs):Hs (K++[p]) (K'++[q]):=h.app ⟨hp,trivial⟩
theorem Hs.refl:∀(K:List (List IV->Prop)),Hs K K
 |[]=>trivial
 |_::K=>⟨λ_ h=>h,Hs.refl K⟩
theorem aq.iA{C:Cr}:∀(f:aq) {Q Q':IV->Prop} {K K':List (List IV->Prop)} {O:List IV},(∀z,Q z->Q' z)->Hs K K'->f.sat P C Q K O->f.sat P C Q' K' O
 |.fail _,_,_,_,_,_,_,_,h=>h
 |.bad ..,_,_,_,_,_,_,_,h=>h
 |.ret _,_,_,_,_,_,hq,_,⟨z,h1,h2⟩=>⟨z,h1,hq z h2⟩
 |.test _ a b,_,_,_,_,_,hq,hk,h=>h.imp (λh=>⟨h.1,iA a hq hk h.2⟩) (λh=>⟨h.1,iA b hq hk h.2⟩)
 |.bind _ k,_,_,_,_,_,hq,hk,⟨z,h1,h2⟩=>⟨z,h1,iA k hq hk h2⟩
 |.aE _ k,_,_,_,_,_,hq,hk,⟨h1,h2⟩=>⟨h1,iA k hq hk h2⟩
 |.call _ _ _ k,_,_,_,_,_,hq,hk,⟨xs,z,h1,h2,h3⟩=>⟨xs,z,h1,h2,iA k hq hk h3⟩
 |.pick _ _ a b,_,_,_,_,_,hq,hk,⟨ds,rem,h1,h2,h3,h4⟩=>⟨ds,rem,h1,h2,λhe=>iA a hq hk (h3 he),λi y hy=>iA b hq hk (h4 i y hy)⟩
 |.same _ _ k,_,_,_,_,_,hq,hk,⟨ds,r,h1,h2,h3⟩=>⟨ds,r,h1,h2,iA k hq hk h3⟩
 |.uniq k,_,_,_,_,_,hq,hk,h=>iA k hq hk h
 |.next lv _,_,_,_,_,_,_,hk,⟨vs,p,h1,h2,h3⟩=>by
  have rj:=av_ (by rw[<-hk.len];exact(awa.1 h2).1);exact⟨vs,_,h1,rj,hk.get h2 rj vs h3⟩
 |.tG a m b,_,_,_,_,_,hq,hk,h=>iA a hq (hk.snoc λ_ hv=>⟨hv.1,iA b hq hk hv.2⟩) h
 |.loop _ b,Q,Q',K,K',O,hq,hk,⟨vs,h1,m,hm⟩=>by
  have key:∀(m:Nat) (vs:List IV),(az0 (motive:=λ_=>List IV->Prop) (λ_=>False) (λ_ ih vs=>b.sat P C Q (K++[ih]) (O++vs)) m) vs->(az0 (motive:=λ_=>List IV->Prop) (λ_=>False) (λ_ ih vs=>b.sat P C Q' (K'++[ih]) (O++vs)) m) vs:=by
   intro m;induction m with
   |zero=>intro vs h;exact h
   |succ m ih=>intro vs h;exact iA b hq (hk.snoc ih) h
  exact⟨vs,h1,m,key m vs hm⟩
end
section
variable{Cx:Cs}
variable{P:Program}{N:Nat}{G au:St}{R R':Rs}{X aU:Ph}{E:Nat->Env}{O:List IV}
abbrev ax(P:Program)(O:List IV):SE->Option IV:=λe=>e.den P O
def bytes_eta(b:ByteArray):(⟨b.data.toList.toArray⟩:ByteArray)=b:=by cases b;simp
variable{L:List (LO SE)}{Γ:Gm SE}
def P_(t:TypeId)(v:Value):cR (ax P O) R X L G (.raw v) (AQ P t v):=by
 have raw:∀u:Value,(∀c,u≠.agg c)->(∀c,u≠.tuple c)->cR (ax P O) R X L G (.raw u) (.v (.raw u)):=λu h1 h2=>by
  refine⟨.raw u,rfl,.raw u,?_⟩;cases u<;>first|rfl|exact absurd rfl (h1 _)|exact absurd rfl (h2 _)
 unfold AQ;split
 .exact⟨_,rfl,.raw _,rfl⟩
 .exact⟨_,rfl,.raw _,rfl⟩
 .exact⟨_,rfl,.raw _,rfl⟩
 .rename_i b;refine⟨.raw (.string b),?_,.raw _,rfl⟩;show aa (IV.raw (.string ⟨b.data.toList.toArray⟩))=_;rw[bytes_eta]
 .split
  .rename_i s hs;split
   .exact raw _ ay ay
   .rename_i h;have:s≠0:=by simpa[awV]using h
    exact⟨by omega,rfl⟩
  .exact raw _ ay ay
 .trivial
 .trivial
 .exact raw _ (λc hc=>by subst hc;simp_all) (λc hc=>by subst hc;simp_all)
theorem E7:∀(ts:List TypeId) (vs:List Value),ts.length=vs.length->All2 (cR (ax P O) R X L G) (vs.map .raw) (Zk (AQ P) ts vs)
 |[],[],_=>trivial
 |t::ts,v::vs,h=>⟨P_ t v,E7 ts vs (by simpa using h)⟩
 |[],_::_,h=>by simp at h
 |_::_,[],h=>by simp at h
def Zw(t:TypeId)(v:Value):VR (ax P O) R X L G (lift v) (NU P t v):=by
 have key:cR (ax P O) R X L G (.raw v) (AQ P t v):=P_ t v;cases v with
 |agg cs=>
  simp only[NU,lift];split
  .rename_i h;exact⟨_,rfl,E7 _ _ (awk h)⟩
  .trivial
 |_=>exact key
def ry{t:TypeId}{z:Value}(h:cZ P t=aa z):All2 (cR (ax P O) R X L G) (z.cells.toList.map .raw) (zeroCells P t):=by
 unfold zeroCells;rw[h];simp only;split
 .rename_i hh;exact E7 _ _ (awk hh)
 .refine .mk ay λi a b h1 h2=>?_;rw[awu]at h2;obtain⟨_,_,rfl⟩:=awj.1 h2;trivial
def bw{V:SS}(h:J Cx (ax P O) R X V.g V.l E G)(d:Nat)(t:TypeId)(x:Operand):VR (ax P O) R X V.l G (aB (E d) x) (bM P d V t x):=by
 cases x with
 |tmp y=>
  show VR _ _ _ _ _ ((E d).at y) ((ct d y V.g).getD (.one .un));cases hg:ct d y V.g with
  |none=>trivial
  |some pv=>exact h.slot d y pv hg
 |const v=>exact Zw t v
 |func f=>exact .inl ⟨rfl,rfl⟩
 |global g=>trivial
theorem bx.ao{fr:Bool}{x y:IV}(h:bx fr R G x y)(hy:Ev.ao y=ab):Ev.ao x=ab:=by
 cases h<;>first|exact hy|rfl|(simp[Ev.ao]at hy;done)
def bx.aii{fr:Bool}{x y:IV}(h:bx fr R G x y)(hx:Ev.ao x=ab):Ev.ao y=ab:=by
 cases h<;>first|exact hx|rfl|(simp[Ev.ao]at hx;done)
theorem cR.ao{x:IV}{c:Cl SE}(h:cR (ax P O) R X L G x c)(hn:c≠.un):Ev.ao x=ab:=by
 cases c with
 |un=>exact absurd rfl hn
 |v z=>obtain⟨y,_,h1,h2⟩:=h;exact h1.ao h2
 |w fr z=>obtain⟨y,_,h1,h2⟩:=h;exact h1.ao h2
 |pt k off ext=>obtain⟨id,cs,_,_,rfl⟩:=h;rfl
 |tp cs=>obtain⟨ds,rfl,_⟩:=h;rfl
 |tw fr cs=>obtain⟨_,⟨_,ds,rfl,_⟩|⟨id,off,ep,m,cS,aD,mn,_,_,_,_,rfl,_⟩⟩:=h<;>rfl
 |sr k=>obtain⟨s,st,cut,fr,z,es,_,_,⟨_,_,rfl|rfl⟩|⟨id,cs,aD,mn,cap,_,_,rfl,_⟩⟩:=h<;>rfl
 |sv k lo=>obtain⟨s,st,cut,fr,z,es,y,n,_,_,_,_,_,(⟨_,_,rfl|rfl⟩|⟨id,cs,aD,mn,cap,_,_,rfl,_⟩)|⟨_,rfl⟩⟩:=h<;>rfl
 |pr k i off ext=>obtain⟨s,st,cut,fr,z,es,y,n,id,cs,aD,mn,_,_,_,_,_,_,_,_,rfl⟩:=h;rfl
 |mp k=>obtain⟨id,kt,es,_,_,rfl⟩:=h;split<;>rfl
 |yl k=>obtain⟨id,c,st,sn,_,_,rfl⟩:=h;rfl
 |nl b s=>obtain⟨_,rfl⟩:=h;cases b<;>rfl
 |fn f bs=>obtain⟨_,rfl⟩|⟨ys,rfl,_⟩:=h<;>rfl
theorem Ku:∀{cs:List (Cl SE)},vF cs=ab->∀c∈cs,c≠.un
 |[],_,c,hc=>by cases hc
 |d::cs,h,c,hc=>by
  have hd:d≠.un/\vF cs=ab:=by
   cases d<;>simp_all[vF]
  rcases List.mem_cons.1 hc with rfl|hc
  .exact hd.1
  .exact Ku hd.2 c hc
def vK{xs:List IV}{cs:List (Cl SE)}(h:All2 (cR (ax P O) R X L G) xs cs)(hn:vF cs=ab):xs.all Ev.ao=ab:=by
 rw[awt];intro x hx;obtain⟨i,hi⟩:=axG hx;have hl:i<cs.length:=by rw[<-h.len];exact(awa.1 hi).1
 have hc:cs[i]?=aa cs[i]:=av_ hl;exact(h.get hi hc).ao (Ku hn _ (awq hc))
def B8{x:IV}{pv:PV SE}(h:VR (ax P O) R X L G x pv)(hn:vF (ff pv)=ab):All2 (cR (ax P O) R X L G) (cellsOf x) (ff pv):=by
 cases pv with
 |one c=>
  have a_:=cR.ao (c:=c) h (Ku hn c (by simp[ff]))
  have:cellsOf x=[x]:=by
   cases x<;>first|rfl|(simp[Ev.ao]at a_;done)
  rw[this];exact⟨h,trivial⟩
 |ag cs=>obtain⟨xs,rfl,h2⟩:=h;exact h2
 |tu vs=>simp[ff,vF]at hn
def Kv{s:Nat}:∀{es:List IV} (_:∀e∈es,(cellsOf e).length=s) {i j:Nat} {e d:IV},es[i]?=aa e->(cellsOf e)[j]?=aa d->(flat es)[i*s+j]?=aa d:=by
 intro es;induction es with
 |nil=>intro _ i j e d h;simp at h
 |cons a es ih=>
  intro bD i j e d he hd;have ha:(cellsOf a).length=s:=bD a ay;unfold flat;rw[axP];cases i with
  |zero=>
   simp at he;subst he;rw[awp (by have:=(awa.1 hd).1;omega)];simpa using hd
  |succ i=>
   simp at he;rw[awU,awD aj,ha];have:=ih (λe he=>bD e (by simp[he])) he hd;rw[show i*s+1*s+j- s=i*s+j by omega];exact this
def uD{s:Nat}:∀{es:List IV} (_:∀e∈es,(cellsOf e).length=s),(flat es).length=es.length*s:=by
 intro es;induction es with
 |nil=>intro _;simp[flat]
 |cons a es ih=>
  intro bD;have:=ih (λe he=>bD e (by simp[he]));unfold flat at this⊢;rw[axP,awi,this,bD a ay,List.length_cons,awU];omega
def Zx(V:SS)(k:Nat)(o:LO SE):(V.setObj k o).l=V.l.set k o:=rfl
def aek{V:SS}{k s:Nat}{cut fr:Bool}{z:SE}(h:J Cx (ax P O) R X V.g V.l E G)(hk:V.l[k]?=aa (.row s af cut fr z)):
 ∃R',kL (ax P O) (ax P O) R X V.l G R' X (V.l.set k (.row s ab cut fr z)) G (λ_=>False)/\J Cx (ax P O) R' X V.g (V.l.set k (.row s ab cut fr z)) E G:=by
 obtain⟨cj,es,he,bD,Qa⟩:=h.obj k _ hk;have eX:=c7 hk;have bE:(V.l.set k (.row s ab cut fr z))[k]?=aa (.row s ab cut fr z):=by simp[eX]
 have bg:∀j,j≠k->(V.l.set k (.row s ab cut fr z))[j]?=V.l[j]? :=λj hj=>ayo (λhc=>hj hc.symm)
 have agD:∀R',iZ R G R' G->kL (ax P O) (ax P O) R X V.l G R' X (V.l.set k (.row s ab cut fr z)) G (λ_=>False):=λR' hg=>by
  refine .mk' (λ_ _ h=>h) hg (λj cs hj=>?_) (λj kt es hj=>?_) (λj s' st yW dk z' hj _=>?_) (λj c st snap hj=>?_)
  .by_cases bz:j=k
   .subst bz;rw[hk]at hj;cases hj
   .exact⟨⟨cs,by rw[bg j bz];exact hj⟩,rfl⟩
  .by_cases bz:j=k
   .subst bz;rw[hk]at hj;cases hj
   .exact⟨⟨es,by rw[bg j bz];exact hj⟩,rfl⟩
  .by_cases bz:j=k
   .subst bz;rw[hk]at hj;cases hj;exact⟨⟨ab,bE⟩,rfl,λ_ _=>rfl⟩
   .exact⟨⟨st,by rw[bg j bz];exact hj⟩,rfl,λ_ _=>rfl⟩
  .have bz:j≠k:=λhc=>by subst hc;rw[hk]at hj;cases hj
   exact⟨⟨c,st,snap,by rw[bg j bz];exact hj⟩,rfl⟩
 rcases Qa with⟨h1,h2⟩|⟨id,cs,aD,mn,h1,h2,h3,h4,h5,h6,h7⟩
 .have hs:=agD R (iZ.refl h.fits);refine⟨R,hs,{h with slot:=λd t pv hg=>(h.slot d t pv hg).step hs pv.aZ,obj:=λj o hj=>?_,lt:=λj id hj=>by simpa using h.lt j id hj}⟩;by_cases bz:j=k
  .subst bz;rw[bE]at hj;cases hj;exact⟨cj,es,he,bD,.inl ⟨h1,h2⟩⟩
  .rw[bg j bz]at hj;exact(h.obj j o hj).step hs rfl (λ_ _=>⟨rfl,rfl⟩) o.aZ
 .let R':Rs:=λi=>if i=id then aa (es.length*s)else R i
  have E8:R id=ah:=by simpa using h5
  have hg:iZ R G R' G:=by
   refine⟨λi m hm=>⟨m,?_,awe _⟩,λi m bG ko tD hm aM=>⟨bG,ko,aM,awe _,λ_ _=>rfl⟩,λi m bG ko tD hm aM=>?_⟩
   .have:i≠id:=λhc=>by rw[hc,E8]at hm;cases hm
    simp[R',this,hm]
   .simp only[R']at hm;split at hm
    .rename_i hc;subst hc;cases hm;rw[h2]at aM;cases aM;exact h4
    .exact h.fits i m bG ko tD hm aM
  have hs:=agD R' hg;refine⟨R',hs,{h with slot:=λd t pv Sn=>(h.slot d t pv Sn).step hs pv.aZ,obj:=λj o hj=>?_,lt:=λj id hj=>by simpa using h.lt j id hj,qz:=λi m hm=>?_,fits:=hg.fits}⟩
  .by_cases bz:j=k
   .subst bz;rw[bE]at hj;cases hj;exact⟨cj,es,he,bD,.inr ⟨id,cs,aD,mn,h1,h2,h3,h4,by simp[R'],h6,λj x d hx hd=>(h7 j x d hx hd).mono hg⟩⟩
   .rw[bg j bz]at hj;refine(h.obj j o hj).step hs rfl (λi hi=>⟨rfl,?_⟩) o.aZ;have:i≠id:=λhc=>bz (h.inj j k id (by rw[<-hc];exact hi) h1);simp[R',this]
  .simp only[R']at hm;split at hm
   .rename_i hc;subst hc;exact(h.lt _ _ h1).2
   .exact h.qz i m hm
def Tz{x:IV}{k s:Nat}{cut fr:Bool}{z:SE}(h:J Cx (ax P O) R X Γ L E G)(hk:L[k]?=aa (.row s ab cut fr z))(hx:cR (ax P O) R X L G x (.sr k)):
 ∃y,z.den P O=aa y/\bx fr R G x y/\ao y=ab:=by
 obtain⟨cj,es,he,bD,Qa⟩:=h.obj k _ hk;obtain⟨s',dj,yW,dk,z',aT,h1,h2,wC⟩:=hx;rw[hk]at h1;cases h1;rw[he]at h2;cases h2;refine⟨_,he,?_,rfl⟩;rcases wC with⟨h3,h4,h5⟩|⟨id,cs,aD,mn,cap,h3,h4,rfl,h5,h6,h7⟩
 .have:es=[]:=awG h4;subst this;rcases h5 with rfl|rfl
  .exact .nil s cj
  .exact .emp s cj
 .rcases Qa with⟨h8,_⟩|⟨bt,bG,ko,tD,h8,h9,S0,S1,h12,h13,h14⟩
  .rw[h3]at h8;cases h8
  .rw[h3]at h8;cases h8;rw[h4]at h9;cases h9;refine .sl id (0*s) (es.length- 0) cap aD s (es.length*s) cs aD mn es (by simpa using h12) h4 S0 (awe _) cj rfl ay S1 bD λi e j c d he hd hc=>?_;refine h14 (i*s+j) c d (by simpa using hc) (Kv bD he hd)
def jq(P:Program)(O:List IV)(R:Rs)(X:Ph)(V:SS)(G:St)(R':Rs)(V':SS):Prop:=
 V'.g=V.g/\V'.n=V.n/\V'.ln=V.ln/\kL (ax P O) (ax P O) R X V.l G R' X V'.l G (λ_=>False)
theorem kL.trans{α:Type}{ev:α->Option IV}{R1 R2 R3:Rs}{eg B9 φ3:Ph}{L1 L2 L3:List (LO α)}{av cK lS:St}(h:kL ev ev R1 eg L1 av R2 B9 L2 cK (λ_=>False))(k:kL ev ev R2 B9 L2 cK R3 φ3 L3 lS (λ_=>False)):
 kL ev ev R1 eg L1 av R3 φ3 L3 lS (λ_=>False):=by
 refine⟨λ_ _ h=>h,⟨λid m hm=>?_,λid m cs aD mn hm aM=>?_,k.grow.fits⟩,λj cs hj=>?_,λj kt es hj=>?_,λj s st cut fr z hj hb=>?_,λj c st snap hj=>?_⟩
 .obtain⟨m1,h1,h2⟩:=h.grow.le id m hm;obtain⟨m2,h3,h4⟩:=k.grow.le id m1 h1;exact⟨m2,h3,awy h2 h4⟩
 .obtain⟨rz,E9,h1,h2,h3⟩:=h.grow.vj id m cs aD mn hm aM;obtain⟨m1,h4,h5⟩:=h.grow.le id m hm;obtain⟨TA,vL,h6,h7,h8⟩:=k.grow.vj id m1 rz E9 mn h4 h1;exact⟨TA,vL,h6,awy h2 h7,λj hj=>by rw[h8 j aj,h3 j hj]⟩
 .obtain⟨⟨bG,h1⟩,h2⟩:=h.var j cs hj;obtain⟨h3,h4⟩:=k.var j bG h1;exact⟨h3,h4.trans h2⟩
 .obtain⟨⟨aT,h1⟩,h2⟩:=h.map j kt es hj;obtain⟨h3,h4⟩:=k.map j kt aT h1;exact⟨h3,h4.trans h2⟩
 .obtain⟨⟨m5,wK,z1,h1,dh⟩,h2,h3⟩:=h.row j _ _ _ _ _ hj hb;obtain⟨⟨st2,fr2,z2,h4,h4'⟩,h5,h6⟩:=k.row j _ _ _ _ _ h1 hb;refine⟨⟨st2,fr2,z2,h4,λes he=>?_⟩,h5.trans h2,λid cs aD mn hid aM=>?_⟩
  .obtain⟨gu,a1,a2⟩:=dh es he;obtain⟨lg,b1,b2⟩:=h4' gu a1;exact⟨lg,b1,b2.trans a2⟩
  .obtain⟨rz,D6,a1,a2,a3⟩:=h3 id cs aD mn hid aM;obtain⟨TA,GB,b1,b2,b3⟩:=h6 id rz aD D6 (by rw[h2];exact hid) a1;exact⟨TA,GB,b1,b2.trans a2,λh=>b3 (a3 h)⟩
 .obtain⟨⟨c1,m5,avw,h1⟩,h2⟩:=h.lp j c st snap hj;obtain⟨h3,h4⟩:=k.lp j _ _ _ h1;exact⟨h3,h4.trans h2⟩
theorem jq.refl{V:SS}(h:J Cx (ax P O) R X V.g V.l E G):jq P O R X V G R V:=
 ⟨rfl,rfl,rfl,.mk' (λ_ _ h=>h) (iZ.refl h.fits) (λk cs hk=>⟨⟨cs,hk⟩,rfl⟩) (λk kt es hk=>⟨⟨es,hk⟩,rfl⟩) (λk s st cut fr z hk _=>⟨⟨st,hk⟩,rfl,λ_ _=>rfl⟩) (λk c st snap hk=>⟨⟨c,st,snap,hk⟩,rfl⟩)⟩
theorem jq.trans{V V1 V2:SS}{R1 R2:Rs}(h:jq P O R X V G R1 V1)(k:jq P O R1 X V1 G R2 V2):jq P O R X V G R2 V2:=
 ⟨k.1.trans h.1,k.2.1.trans h.2.1,k.2.2.1.trans h.2.2.1,h.2.2.2.trans k.2.2.2⟩
def jq.TB{V V1:SS}{R1:Rs}(h:jq P O R X V G R1 V1){x:IV}{c:Cl SE}(hx:cR (ax P O) R X V.l G x c):cR (ax P O) R1 X V1.l G x c:=hx.step h.2.2.2 c.aZ
def jq.vr{V V1:SS}{R1:Rs}(h:jq P O R X V G R1 V1){x:IV}{c:PV SE}(hx:VR (ax P O) R X V.l G x c):VR (ax P O) R1 X V1.l G x c:=hx.step h.2.2.2 c.aZ
def xH{V:SS}(h:J Cx (ax P O) R X V.g V.l E G)(k:Nat):∃R',jq P O R X V G R' (nI k V)/\J Cx (ax P O) R' X (nI k V).g (nI k V).l E G/\
 (∀s st cut fr z,V.l[k]?=aa (.row s st cut fr z)->(nI k V).l[k]?=aa (.row s ab cut fr z)):=by
 unfold nI;split
 .rename_i s cut fr es hk;obtain⟨R',h1,h2⟩:=aek h hk;refine⟨R',⟨rfl,rfl,rfl,h1⟩,h2,λs' dj yW dk z' cH=>?_⟩;rw[hk]at cH;cases cH;simp[Zx,c7 hk]
 .rename_i hn;refine⟨R,.refl h,h,λs st cut fr z hk=>?_⟩;cases st with
  |true=>exact hk
  |false=>exact absurd hk (hn _ _ _ _)
def Ht{V V':SS}{c:Cl SE}{fr:Bool}{z:SE}(h:J Cx (ax P O) R X V.g V.l E G)(hr:zo V c=aa (fr,z,V')):
 ∃R',jq P O R X V G R' V'/\J Cx (ax P O) R' X V'.g V'.l E G/\∀x,cR (ax P O) R X V.l G x c->∃y,z.den P O=aa y/\bx fr R' G x y/\ao y=ab:=by
 cases c with
 |v z'=>
  simp only[zo,awf,awM]at hr;obtain⟨rfl,rfl,rfl⟩:=hr;refine⟨R,.refl h,h,λx ⟨y,h1,h2,h3⟩=>⟨y,h1,?_,h3⟩⟩;have hg:iZ (λ_=>ah) ⟨0,.lf⟩ R G:=⟨λ_ _ h=>(by cases h),λ_ _ _ _ _ h=>(by cases h),h.fits⟩;exact h2.mono hg
 |w f z'=>
  simp only[zo,awf,awM]at hr;obtain⟨rfl,rfl,rfl⟩:=hr;exact⟨R,.refl h,h,λx hx=>hx⟩
 |nl b s=>
  simp only[zo,awf,awM]at hr;obtain⟨rfl,rfl,rfl⟩:=hr;refine⟨R,.refl h,h,λx ⟨h1,h2⟩=>⟨.tree s [],?_,?_,rfl⟩⟩
  .simp[SE.den,h1]
  .subst h2;cases b
   .exact .emp s h1
   .exact .nil s h1
 |sr k=>
  simp only[zo]at hr;split at hr
  .rename_i s st cut dk es hk;simp only[awf,awM]at hr;obtain⟨rfl,rfl,rfl⟩:=hr;obtain⟨R',h1,h2,h3⟩:=xH h k;exact⟨R',h1,h2,λx hx=>Tz h2 (h3 _ _ _ _ _ hk) (h1.TB hx)⟩
  .cases hr
 |un|pt|tp|tw|sv|pr|mp|fn|yl=>simp[zo]at hr
theorem Ap:∀{cs:List (Cl SE)} {V V':SS} {R:Rs} {fr:Bool} {zs:List SE},J Cx (ax P O) R X V.g V.l E G->wZ V cs=aa (fr,zs,V')->
 ∃R',jq P O R X V G R' V'/\J Cx (ax P O) R' X V'.g V'.l E G/\zs.length=cs.length/\∀xs,All2 (cR (ax P O) R X V.l G) xs cs->∃ys,All2 (λ(z:SE) y=>z.den P O=aa y) zs ys/\All2 (bx fr R' G) xs ys/\ys.all Ev.ao=ab
 |[],V,V',R,fr,zs,h,hr=>by
  simp only[wZ,awf,awM]at hr;obtain⟨rfl,rfl,rfl⟩:=hr;refine⟨R,.refl h,h,rfl,λxs hx=>⟨[],trivial,?_,rfl⟩⟩;cases xs with
  |nil=>trivial
  |cons=>exact hx.elim
 |c::cs,V,V',R,fr,zs,h,hr=>by
  simp only[wZ]at hr;split at hr
  .rename_i f1 z V1 h1;split at hr
   .rename_i f2 zs' V2 h2;simp only[awf,awM]at hr;obtain⟨rfl,rfl,rfl⟩:=hr;obtain⟨R1,a1,a2,a3⟩:=Ht h h1;obtain⟨R2,b1,b2,bl,b3⟩:=Ap a2 h2;refine⟨R2,a1.trans b1,b2,by simp[bl],λxs hx=>?_⟩;cases xs with
    |nil=>exact hx.elim
    |cons x xs=>
     obtain⟨y,c1,c2,c3⟩:=a3 x hx.1;obtain⟨ys,d1,d2,d3⟩:=b3 xs (hx.2.mono λ_ _ b_=>a1.TB b_);exact⟨y::ys,⟨c1,d1⟩,⟨(c2.mono b1.2.2.2.grow).wide (λh=>by simp[h]),d2.mono λ_ _ b_=>b_.wide (λh=>by simp[h])⟩,by simp[c3,d3]⟩
   .cases hr
  .cases hr
theorem gy:∀{zs:List SE} {ys:List IV},All2 (λ(z:SE) y=>z.den P O=aa y) zs ys->(eR zs).den P O=aa (.agg ys)
 |[],[],_=>rfl
 |z::zs,y::ys,h=>by simp[eR,SE.den,h.1,gy h.2]
 |[],_::_,h=>h.elim
 |_::_,[],h=>h.elim
variable{C:Cr}{Q:IV->Prop}{K:List (List IV->Prop)}{V:SS}{d:Nat}{o:Oper}{k:PV SE->SS->aq}
def cA{fr:Bool}{x:IV}{v:Value}(h:bx fr R G x (.raw v)):x=.raw v:=by cases h<;>rfl
theorem TC{fr:Bool}:∀{cs ds:List IV} {us:List Value},kR ds=aa us->cs.length=ds.length->(∀(i:Nat) c e,cs[i]?=aa c->ds[i]?=aa e->bx fr R G c e)->cs=ds
 |[],[],_,_,_,_=>rfl
 |c::cs,e::ds,us,hr,hl,h=>by
  simp only[kR]at hr;split at hr
  .rename_i v;split at hr
   .rename_i vs dP;have h0:=cA (h 0 c (.raw v) rfl rfl);have h1:cs=ds:=TC dP (by simpa using hl) λi c e h1 h2=>h (i+1) c e (by simpa using h1) (by simpa using h2);rw[h0,h1]
   .cases hr
  .cases hr
 |[],_::_,_,_,hl,_=>by simp at hl
 |_::_,[],_,_,hl,_=>by simp at hl
def Qb{fr:Bool}{x a:IV}{u:Value}(h:bx fr R G x a)(ha:qV a=aa u):x=a:=by
 cases h with
 |raw v=>rfl
 |agg cs ds hl hh=>
  simp only[qV]at ha;split at ha
  .rename_i vs dP;rw[TC dP hl hh]
  .cases ha
 |pure x hf hp=>rfl
 |nil|emp|dK|aF|sl=>simp[qV]at ha
def E_{fr:Bool}{x a:IV}{u:Value}(h:bx fr R G x a)(ha:lr a=aa u):x=a:=by
 cases h with
 |dK t x y hh=>
  simp only[lr]at ha;split at ha
  .rename_i hu;rw[Qb hh hu]
  .cases ha
 |raw v=>rfl
 |agg cs ds hl hh=>exact Qb (.agg cs ds hl hh) ha
 |pure x hf hp=>rfl
 |nil|emp|aF|sl=>simp[lr,qV]at ha
def Kw{y:IV}{n:Int}(h:ie y=aa n):∃q,y=.raw (.int q n):=by
 unfold ie at h;split at h
 .cases h;exact⟨_,rfl⟩
 .cases h
def J.B_(h:J Cx (ax P O) R X Γ L E G):iZ (λ_=>ah) ⟨0,.lf⟩ R G:=⟨λ_ _ h=>(by cases h),λ_ _ _ _ _ h=>(by cases h),h.fits⟩
def dm(Cx:Cs)(P:Program)(C:Cr)(Q:IV->Prop)(K:List (List IV->Prop))(O:List IV)(E:Nat->Env)(lv:Nat×Nat)(k:PV SE->SS->aq)(res:IV->St->Prop):Prop:=
 ∃x av R1 eg pv V1 I,res x av/\J Cx (ax P (O++I)) R1 eg V1.g V1.l E av/\VR (ax P (O++I)) R1 eg V1.l av x pv/\(O++I).length=V1.n/\V1.ln=lv/\(k pv V1).sat P C Q K (O++I)
def dm.here{x:IV}{av:St}{pv:PV SE}{V1:SS}{lv:Nat×Nat}{res:IV->St->Prop}(h1:res x av)(h2:J Cx (ax P O) R X V1.g V1.l E av)(h3:VR (ax P O) R X V1.l av x pv)(h4:O.length=V1.n)(h5:V1.ln=lv)
 (h6:(k pv V1).sat P C Q K O):dm Cx P C Q K O E lv k res:=
 ⟨x,av,R,X,pv,V1,[],h1,by rw[aww];exact h2,by rw[aww];exact h3,by rw[aww];exact h4,h5,by rw[aww];exact h6⟩
def dm.at{x:IV}{av:St}{c:Cl SE}{V1:SS}{lv:Nat×Nat}{res:IV->St->Prop}(h6:(k (.one c) V1).sat P C Q K O)(h2:J Cx (ax P O) R X V1.g V1.l E av)(h4:O.length=V1.n)(h5:V1.ln=lv)(h3:cR (ax P O) R X V1.l av x c)(h1:res x av):
 dm Cx P C Q K O E lv k res:=.here (pv:=.one c) h1 h2 h3 h4 h5 h6
abbrev bQ(P:Program)(E:Nat->Env)(d:Nat)(o:Oper)(G:St):IV->St->Prop:=λx av=>aA P 0 (aB (E d)) o G=aa (.val x av)
variable(hJ:J Cx (ax P O) R X V.g V.l E G)(hn:O.length=V.n)
include hJ hn
theorem abA{x:Operand}(ho:o.op=.move x\/o.op=.assign x)(hs:(gH P d o V k).sat P C Q K O):dm Cx P C Q K O E V.ln k (bQ P E d o G):=by
 have bp:(k (bM P d V o.type x) V).sat P C Q K O:=by
  rcases ho with ho|ho<;>(unfold gH at hs;rw[ho]at hs;exact hs)
 refine .here (x:=aB (E d) x) (av:=G) ?_ hJ (bw hJ d o.type x) hn rfl bp;rcases ho with ho|ho<;>simp[bQ,aA,ho,ret]
theorem TD{x:IV}{t:Bool}(hx:VR (ax P O) R X V.l G x (.one (.v (.b t)))):x=.raw (.bool t):=by
 obtain⟨y,h1,h2,_⟩:=hx;simp only[ax,SE.den,awf]at h1;subst h1;exact cA h2
theorem ael{c a b:Operand}(ho:o.op=.pick c a b)(hs:(gH P d o V k).sat P C Q K O):dm Cx P C Q K O E V.ln k (bQ P E d o G):=by
 unfold gH at hs;rw[ho]at hs;simp only at hs;have hc:=bw hJ d 0 c;split at hs
 .rename_i hh;rw[hh]at hc;have:=TD hJ hn hc;refine .here (x:=aB (E d) a) (av:=G) ?_ hJ (bw hJ d o.type a) hn rfl hs;simp[bQ,aA,ho,this,ret]
 .rename_i hh;rw[hh]at hc;have:=TD hJ hn hc;refine .here (x:=aB (E d) b) (av:=G) ?_ hJ (bw hJ d o.type b) hn rfl hs;simp[bQ,aA,ho,this,ret]
 .exact hs.elim
theorem Qc{cs:List (Cl SE)}{cS:List IV}(hc:All2 (cR (ax P O) R X V.l G) cS cs):
 J Cx (ax P O) R (bT X V.l.length G.n) V.g (V.l++[.var cs]) E (G.add (.cells cS 0 0))/\VR (ax P O) R (bT X V.l.length G.n) (V.l++[.var cs]) (G.add (.cells cS 0 0)) (.ptr G.n 0 0 cS.length) (.one (.pt V.l.length 0 cs.length)):=by
 have hs:=DY hJ (.cells cS 0 0) (.var cs);refine⟨hJ.yS (.cells cS 0 0) (.var cs) ⟨G.n,cS,by simp[bT],hJ.ra,by simp,hc.mono λ_ _ b_=>b_.step hs (Cl.aZ _)⟩,⟨G.n,cs,by simp[bT],by simp,by rw[hc.len]⟩⟩
theorem abB{t:TypeId}(ho:o.op=.alloc t)(hs:(gH P d o V k).sat P C Q K O):dm Cx P C Q K O E V.ln k (bQ P E d o G):=by
 unfold gH at hs;rw[ho]at hs;simp only at hs;split at hs
 .exact hs.elim
 .rename_i hz;cases tH:cZ P t with
  |none=>rw[tH]at hz;simp at hz
  |some z=>
   have hc:=ry (O:=O) (R:=R) (X:=X) (L:=V.l) (G:=G) tH;obtain⟨h1,h2⟩:=Qc hJ hn hc;refine .here (V1:={V with l:=V.l++[.var (zeroCells P t)]}) ?_ h1 h2 hn rfl hs;simp[bQ,aA,ho,tH,ret]
theorem aij{t:TypeId}{x:Operand}(ho:o.op=.box t x)(hs:(gH P d o V k).sat P C Q K O):dm Cx P C Q K O E V.ln k (bQ P E d o G):=by
 unfold gH at hs;rw[ho]at hs;simp only at hs;split at hs
 .exact hs.elim
 .rename_i hu;have Gr:vF (ff (bM P d V t x))=ab:=by simpa using hu
  have hc:=B8 (bw hJ d t x) Gr;obtain⟨h1,h2⟩:=Qc hJ hn hc;refine .here (V1:={V with l:=V.l++[.var (ff (bM P d V t x))]}) ?_ h1 h2 hn rfl hs;have:=vK hc Gr;simp only[bQ,aA,ho,ret,this,if_true]
theorem TE{x:Operand}(ho:o.op=.nilCheck x)(hs:(gH P d o V k).sat P C Q K O):dm Cx P C Q K O E V.ln k (bQ P E d o G):=by
 unfold gH at hs;rw[ho]at hs;simp only at hs;have hc:=bw hJ d 0 x;split at hs
 .rename_i hh;rw[hh]at hc;refine .here (x:=aB (E d) x) (av:=G) ?_ hJ hc hn rfl hs;obtain⟨id,cs,_,_,h3⟩:=hc;simp[bQ,aA,ho,h3,ret]
 .rename_i hh;exact hs.elim
 .rename_i hh;rw[hh]at hc;refine .here (x:=aB (E d) x) (av:=G) ?_ hJ hc hn rfl hs;obtain⟨ds,h3,_⟩:=hc;simp[bQ,aA,ho,h3,ret]
 .exact hs.elim
end
section
variable{Cx:Cs}
variable{P:Program}{N:Nat}{G au:St}{R R':Rs}{X aU:Ph}{E:Nat->Env}{O:List IV}
variable{C:Cr}{Q:IV->Prop}{K:List (List IV->Prop)}{V:SS}{d:Nat}{o:Oper}{k:PV SE->SS->aq}
def Zy{t:TypeId}(h:isAgg P t=ab):sY P t=aa ab:=by simpa[isAgg]using h
def Wo{t:TypeId}{b:Bool}(h:isAgg P t=af)(hb:sY P t=aa b):sY P t=aa af:=by
 cases b
 .exact hb
 .simp[isAgg,hb]at h
def D7{t:TypeId}{s off:Nat}{cs:List IV}(hs:aW P t=aa s)(hg:sY P t=aa ab)(hle:off+s<=cs.length):partOf P t cs off=aa (.agg ((cs.drop off).take s)):=by
 simp[partOf,hs,hg,hle]
def N4{t:TypeId}{off:Nat}{cs:List IV}(hs:aW P t=aa 1)(hg:sY P t=aa af):partOf P t cs off=cs[off]? :=by
 simp[partOf,hs,hg]
def u_{L:List (LO SE)}{t:TypeId}{s off:Nat}{b:Bool}{cS:List IV}{cs:List (Cl SE)}{pv:PV SE}(hs:aW P t=aa s)(hb:sY P t=aa b)(hc:All2 (cR (ax P O) R X L G) cS cs)(hle:off+s<=cs.length)
 (sN:if isAgg P t=ab then pv=.ag ((cs.drop off).take s)else∃c,(cs.drop off).take s=[c]/\pv=.one c):∃x,partOf P t cS off=aa x/\VR (ax P O) R X L G x pv:=by
 have hl:=hc.len;split at sN
 .rename_i ha;subst sN;exact⟨_,D7 hs (Zy ha) aj,_,rfl,(hc.drop off).take s⟩
 .rename_i ha;obtain⟨c,h1,rfl⟩:=sN
  have hlen:s=1:=by
   have:=congrArg List.length h1;simp at this;omega
  subst hlen
  have h2:cs[off]?=aa c:=by
   have:((cs.drop off).take 1)[0]?=aa c:=by rw[h1];rfl
   simpa using this
  obtain⟨x,hx,hr⟩:=hc.Db h2;exact⟨x,by rw[N4 hs (Wo (by simpa using ha) hb),hx],hr⟩
def L8{t:TypeId}{s:Nat}{cs:List (Cl SE)}(hs:((if isAgg P t=ab then(if awl cs.length s=ab then k (.ag cs) V else .fail 2)else match cs with|[c]=>k (.one c) V|_=>.fail 3):aq).sat P C Q K O):
 ∃pv,(k pv V).sat P C Q K O/\if isAgg P t=ab then pv=.ag cs else∃c,cs=[c]/\pv=.one c:=by
 split at hs
 .rename_i ha;split at hs
  .exact⟨_,hs,by rw[if_pos ha]⟩
  .exact hs.elim
 .rename_i ha;split at hs
  .exact⟨_,hs,by rw[if_neg ha];exact⟨_,rfl,rfl⟩⟩
  .exact hs.elim
variable(hJ:J Cx (ax P O) R X V.g V.l E G)(hn:O.length=V.n)
include hJ hn
theorem aem{t:TypeId}{pa:PV SE}{x:IV}(hx:VR (ax P O) R X V.l G x pa)(hs:(Zm P t pa V k).sat P C Q K O):
 dm Cx P C Q K O E V.ln k (λv av=>av=G/\(∀d a,aB (E d) a=x->∀o:Oper,o.op=.load t a->aA P 0 (aB (E d)) o G=aa (.val v G))):=by
 unfold Zm at hs;split at hs
 .exact hs.elim
 .exact hs.elim
 .rename_i s b bf xg;simp only at hs;split at hs
  .rename_i j off ext;obtain⟨id,sI,h1,h2,rfl⟩:=hx;split at hs
   .rename_i cs hj;rw[hj]at h2;cases h2;split at hs
    .rename_i hle;simp only[awb,axS]at hle;obtain⟨pv,hk,sN⟩:=L8 hs;obtain⟨bt,cS,h3,h4,h5,h6⟩:=hJ.obj j _ hj;rw[h1]at h3;cases h3;obtain⟨v,hv,hr⟩:=u_ bf xg h6 hle.2 sN;refine .here (x:=v) (av:=G) ⟨rfl,λd a ha o ho=>?_⟩ hJ hr hn rfl hk;simp[aA,ho,ha,bf,h5,hle.1,hv,ret]
    .exact hs.elim
   .exact hs.elim
  .rename_i cs;obtain⟨ds,rfl,h1⟩:=hx;split at hs
   .rename_i hle;rw[axS]at hle;obtain⟨pv,hk,sN⟩:=L8 hs;have hc:All2 (cR (ax P O) R X V.l G) ds (cs.map .v):=h1.map (f:=Cl.v) λ_ _ b_=>b_;obtain⟨v,hv,hr⟩:=u_ (off:=0) bf xg hc (by simpa using hle) sN;refine .here (x:=v) (av:=G) ⟨rfl,λd a ha o ho=>?_⟩ hJ hr hn rfl hk;simp[aA,ho,ha,hv,ret]
   .exact hs.elim
  .rename_i fr cs;split at hs
   .rename_i hle;rw[axS]at hle;obtain⟨pv,hk,sN⟩:=L8 hs;obtain⟨a_,⟨hf,ds,rfl,h1⟩|⟨id,off,ep,m,cS,aD,mn,h1,h2,h3,h4,rfl,h6,h7,h8⟩⟩:=hx
    .have hc:All2 (cR (ax P O) R X V.l G) ds (cs.map (.w fr)):=by
      refine(h1.Ak (r':=λd c=>cR (ax P O) R X V.l G d (.w fr c)) λd c hc ⟨y,yp,vB⟩=>?_).map (f:=Cl.w fr) λ_ _ b_=>b_;obtain⟨y',JE,hy4⟩:=a_ c hc;rw[yp]at JE;cases JE;exact⟨y,yp,hf▸vB.mono hJ.B_,hy4⟩
     obtain⟨v,hv,hr⟩:=u_ (off:=0) bf xg hc (by simpa using hle) sN;refine .here (x:=v) (av:=G) ⟨rfl,λd a ha o ho=>?_⟩ hJ hr hn rfl hk;simp[aA,ho,ha,hv,ret]
    .have hc:All2 (cR (ax P O) R X V.l G) ((cS.drop off).take cs.length) (cs.map (.w fr)):=by
      refine .mk (by simp;omega) λi a b ha hb=>?_;rw[awu]at hb;obtain⟨c,hc,rfl⟩:=awj.1 hb;have hi:=(awa.1 hc).1;rw[awR,if_pos hi,axR]at ha;obtain⟨y,yp,vB⟩:=h8 i a c hc ha;obtain⟨y',JE,hy4⟩:=a_ c (awq hc);have aen:c.den P O=aa y:=yp;have akt:c.den P O=aa y':=JE;rw[aen]at akt;cases akt;exact⟨y,yp,vB,hy4⟩
     obtain⟨v,hv,hr⟩:=u_ (off:=0) bf xg hc (by simpa using hle) sN
     have Jo:partOf P t cS off=aa v:=by
      have hlen:s<=((cS.drop off).take cs.length).length:=by simp;omega
      cases b with
      |true=>
       rw[D7 bf xg (by simpa using hlen)]at hv;rw[D7 bf xg aj,<-hv];simp[azi,hle]
      |false=>
       have h1s:s=1:=by
        unfold partOf at hv;rw[xg,bf]at hv;simp only at hv;split at hv
        .assumption
        .cases hv
       subst h1s;rw[N4 bf xg]at hv⊢;rw[awR,if_pos aj,axR]at hv;exact hv
     refine .here (x:=v) (av:=G) ⟨rfl,λd a ha o ho=>?_⟩ hJ hr hn rfl hk;simp[aA,ho,ha,bf,h2,hle,h3,h4,Jo,ret]
   .exact hs.elim
  .rename_i j i off ext;split at hs
   .rename_i sz st cut fr es hj;split at hs
    .rename_i hle;rw[axS]at hle;obtain⟨pv,hk,sN⟩:=L8 hs;obtain⟨s',dj,yW,dk,z',aT,y,n,id,cs,aD,mn,h1,h2,h3,h4,h5,h6,h7,h8,rfl⟩:=hx;rw[hj]at h1;cases h1;obtain⟨cj,lg,g1,g2,g3⟩:=hJ.obj j _ hj;have wH:es.den P O=aa (.tree sz aT):=h2;have rA:es.den P O=aa (.tree sz lg):=g1;rw[wH]at rA;cases rA;rcases g3 with⟨g3,_⟩|⟨bt,bG,ko,tD,g3,g4,g5,g6,g7,g8,g9⟩
     .rw[h7]at g3;cases g3
     .rw[h7]at g3;cases g3;rw[h8]at g4;cases g4;have he:aT[n]?=aa aT[n]:=av_ h5;have oF:=g2 _ (awd h5)
      have ase:cq sz (.tree sz aT) y=aa aT[n]:=by
       have hy:ie y=aa (n:Int):=by
        unfold nat? at h4;split at h4
        .split at h4
         .rename_i hq;cases h4;simp[ie];omega
         .cases h4
        .cases h4
       simp[cq,hy,he,oF]
      have Jp:n*sz+sz<=aT.length*sz:=by
       have:(n+1)*sz<=aT.length*sz:=awL sz h5;rw[awU]at this;omega
      have hc:All2 (cR (ax P O) R X V.l G) ((cs.drop (n*sz)).take sz) ((axt sz).map λq=>.w fr (.oY sz es i q)):=by
       refine .mk (by simp;omega) λq a b ha hb=>?_;rw[awu]at hb;obtain⟨q',hq,rfl⟩:=awj.1 hb;have BB:q<sz:=by have:=(awa.1 hq).1;simpa using this
       have:q'=q:=by rw[ax9 BB]at hq;cases hq;rfl
       subst this;rw[awR,if_pos BB,axR]at ha;have hd:(cellsOf aT[n])[q']?=aa (cellsOf aT[n])[q']:=av_ aj;have hr:=g9 (n*sz+q') a _ ha (Kv g2 he hd)
       have Hu:Ev.ao a=ab:=by
        rw[awt]at g8;exact g8 a (awq ha)
       have a_:=hr.aii Hu;refine⟨_,?_,hr,a_⟩;have JF:i.den P O=aa y:=h3;simp[ax,SE.den,wH,JF,ase,hd,vJ,a_]
      obtain⟨v,hv,hr⟩:=u_ (off:=off) bf xg hc (by simp;omega) sN
      have Jo:partOf P t cs (n*sz+off)=aa v:=by
       cases b with
       |true=>
        rw[D7 bf xg (by simp;omega)]at hv;rw[D7 bf xg aj,<-hv]
        congr 2
        rw[List.drop_take,List.drop_drop,azi]
        congr 1;omega
       |false=>
        have h1s:s=1:=by
         unfold partOf at hv;rw[xg,bf]at hv;simp only at hv;split at hv
         .assumption
         .cases hv
        subst h1s;rw[N4 bf xg]at hv⊢;rw[awR,if_pos aj,axR]at hv;exact hv
      refine .here (x:=v) (av:=G) ⟨rfl,λd a ha o ho=>?_⟩ hJ hr hn rfl hk;simp[aA,ho,ha,bf,h8,hle,g5,Jo,ret]
    .exact hs.elim
   .exact hs.elim
  .exact hs.elim
theorem aeo{t:TypeId}{a:Operand}(ho:o.op=.load t a)(hs:(gH P d o V k).sat P C Q K O):dm Cx P C Q K O E V.ln k (bQ P E d o G):=by
 unfold gH at hs;rw[ho]at hs;simp only at hs;obtain⟨x,av,R1,eg,pv,V1,I,h0,h2⟩:=aem hJ hn (bw hJ d 0 a) hs;obtain⟨e0,h1⟩:=h0;subst e0;exact⟨x,av,R1,eg,pv,V1,I,h1 d a rfl o ho,h2⟩
end
section
variable{Cx:Cs}
variable{P:Program}{N:Nat}{G au:St}{R R':Rs}{X aU:Ph}{E:Nat->Env}{O:List IV}
variable{C:Cr}{Q:IV->Prop}{K:List (List IV->Prop)}{V:SS}{d:Nat}{o:Oper}{k:PV SE->SS->aq}
def Qd{r:IV->Cl SE->Prop}{cS xs:List IV}{cs new:List (Cl SE)}(off:Nat)(h:All2 r cS cs)(k:All2 r xs new):All2 r (eG cS off xs) (D0 cs off new):=by
 unfold eG D0;rw[k.len];exact((h.take off).app k).app (h.drop _)
def J.aku{L:List (LO SE)}{Γ:Gm SE}(h:J Cx (ax P O) R X Γ L E G){k id s aD mn:Nat}{cut fr dk:Bool}{z z':SE}{cs bG es aT:List IV}(hid:X k=aa id)(hk:L[k]?=aa (.row s af cut fr z))(aM:G.at id=aa (.cells cs aD mn))
 (hl:bG.length=cs.length)(hz:z.den P O=aa (.tree s es))(rB:z'.den P O=aa (.tree s aT))(hle:aT.length=es.length)(bD:∀e∈aT,(cellsOf e).length=s)(a_:bG.all Ev.ao=ab)
 (hc:∀(j:Nat) x d,bG[j]?=aa x->(flat aT)[j]?=aa d->bx dk R G x d):
 J Cx (ax P O) R X Γ (L.set k (.row s af cut dk z')) E (G.put id (.cells bG aD aD)):=by
 have eX:=c7 hk;have bg:∀j,j≠k->(L.set k (.row s af cut dk z'))[j]?=L[j]? :=λj hj=>ayo (λhc=>hj hc.symm);have bE:(L.set k (.row s af cut dk z'))[k]?=aa (.row s af cut dk z'):=by simp[eX]
 have NM:∀j bt,j≠k->X j=aa bt->bt≠id:=λj bt hj nW hc=>hj (h.inj j k id (by rw[<-hc];exact nW) hid);obtain⟨cj,lg,g1,g2,g3⟩:=h.obj k _ hk
 have E8:R id=ah/\es.length*s<=cs.length/\mn<=aD:=by
  rcases g3 with⟨g3,_⟩|⟨bt,TA,vL,GB,g3,g4,g5,g6,g7,_⟩
  .rw[hid]at g3;cases g3
  .rw[hid]at g3;cases g3;rw[aM]at g4;cases g4;have rA:z.den P O=aa (.tree s lg):=g1;rw[hz]at rA;cases rA;exact⟨by simpa using g7,g6,g5⟩
 have r8:iZ R G R (G.put id (.cells bG aD aD)):=by
  refine⟨λ_ m hm=>⟨m,hm,awe _⟩,λbt m rz E9 D6 hm o_=>?_,λbt m rz E9 D6 hm o_=>?_⟩
  .have:id≠bt:=λhc=>by rw[<-hc,E8.1]at hm;cases hm
   exact⟨rz,E9,by rw[St.cW,if_neg this];exact o_,awe _,λ_ _=>rfl⟩
  .have:id≠bt:=λhc=>by rw[<-hc,E8.1]at hm;cases hm
   rw[St.cW,if_neg this]at o_;exact h.fits bt m rz E9 D6 hm o_
 have hs:kL (ax P O) (ax P O) R X L G R X (L.set k (.row s af cut dk z')) (G.put id (.cells bG aD aD)) (λ_=>False):=by
  refine⟨λ_ _ h=>h,r8,λj rz hj=>?_,λj kt gu hj=>?_,λj s1 m5 xh wK z1 hj _=>?_,λj c m5 snap hj=>?_⟩
  .by_cases bz:j=k
   .subst bz;rw[hk]at hj;cases hj
   .exact⟨⟨rz,by rw[bg j bz];exact hj⟩,rfl⟩
  .by_cases bz:j=k
   .subst bz;rw[hk]at hj;cases hj
   .exact⟨⟨gu,by rw[bg j bz];exact hj⟩,rfl⟩
  .by_cases bz:j=k
   .subst bz;rw[hk]at hj;cases hj;refine⟨⟨af,dk,z',bE,λgu kZ=>⟨aT,rB,?_⟩⟩,rfl,λid1 rz E9 D6 Zz o_=>?_⟩
    .have TF:z.den P O=aa (.tree s gu):=kZ;rw[hz]at TF;cases TF;exact hle
    .rw[hid]at Zz;cases Zz;rw[aM]at o_;cases o_;exact⟨bG,aD,by rw[St.cW,if_pos rfl],hl,λ_=>rfl⟩
   .refine⟨⟨m5,wK,z1,by rw[bg j bz];exact hj,λgu kZ=>⟨gu,kZ,rfl⟩⟩,rfl,λid1 rz E9 D6 Zz o_=>⟨rz,D6,?_,rfl,λh=>h⟩⟩;rw[St.cW,if_neg (λhc=>NM j id1 bz Zz hc.symm)];exact o_
  .have bz:j≠k:=λhc=>by subst hc;rw[hk]at hj;cases hj
   exact⟨⟨c,m5,snap,by rw[bg j bz];exact hj⟩,rfl⟩
 refine⟨λd t pv hg=>(h.slot d t pv hg).step hs pv.aZ,λj o hj=>?_,h.inj,λj bt hj=>by simpa[St.put]using h.lt j bt hj,h.qz,r8.fits,h.wf.set _ _,λbt h_=>?_⟩
 .by_cases bz:j=k
  .subst bz;rw[bE]at hj;cases hj;refine⟨cj,aT,rB,bD,.inr ⟨id,bG,aD,aD,hid,by rw[St.cW,if_pos rfl],awe _,by rw[hl,hle];exact E8.2.1,by simpa using E8.1,a_,λj x d hx hd=>(hc j x d hx hd).mono r8⟩⟩
  .rw[bg j bz]at hj;exact(h.obj j o hj).step hs rfl (λbt h_=>⟨by rw[St.cW,if_neg (λhc=>NM j bt bz h_ hc.symm)],rfl⟩) o.aZ
 .have:=(h.lt _ _ hid).2;have Rt:G.n<=bt:=h_;rw[St.cW,if_neg aj];exact h.top bt Rt
def aep{s:Nat}{x:IV}:∀{es:List IV} (_:∀e∈es,(cellsOf e).length=s) {n:Nat},n<es.length->(cellsOf x).length=s->flat (es.set n x)=eG (flat es) (n*s) (cellsOf x):=by
 intro es;induction es with
 |nil=>intro _ n hn;simp at hn
 |cons a es ih=>
  intro bD n hn hx;have ha:(cellsOf a).length=s:=bD a ay;unfold eG;cases n with
  |zero=>
   simp only[List.set_cons_zero,flat,axP,ay8,List.take_zero,List.nil_append,axo];rw[hx,List.drop_append_of_le_length aj,awY (by omega:(cellsOf a).length<=s)];simp
  |succ n=>
   have:=ih (λe he=>bD e (by simp[he])) (n:=n) (by simpa using hn) hx;simp only[List.set_cons_succ];unfold flat at this⊢;rw[axP,this];unfold eG
   rw[axP,hx,awU,Nat.one_mul,List.take_append,List.drop_append,ha,
    List.take_of_length_le (by omega:(cellsOf a).length<=n*s+s),awY (by omega:(cellsOf a).length<=n*s+s+s),
    show n*s+s- s=n*s by omega,show n*s+s+s- s=n*s+s by omega]
   simp
def r_{α:Type}{cs new:List IV}{off j:Nat}(h:off+new.length<=cs.length):(eG cs off new)[j]?=if off<=j/\j<off+new.length then new[j- off]? else cs[j]? :=by
 unfold eG;have h1:(cs.take off).length=off:=by simp;omega
 rw[List.append_assoc];by_cases ha:j<off
 .rw[awp aj,awR,if_pos ha,if_neg aj]
 .rw[awD aj,h1];by_cases hb:j<off+new.length
  .rw[awp aj,if_pos ⟨by omega,hb⟩]
  .rw[awD aj,if_neg aj,axR]
   congr 1;omega
def zH{cs new:List IV}{off:Nat}(h:off+new.length<=cs.length):(eG cs off new).length=cs.length:=by
 unfold eG;simp;omega
def Fa{cs new:List IV}{off:Nat}{f:IV->Bool}(h1:cs.all f=ab)(h2:new.all f=ab):(eG cs off new).all f=ab:=by
 rw[awt]at h1 h2⊢;intro x hx;unfold eG at hx;rcases awm.1 hx with hx|hx
 .rcases awm.1 hx with hx|hx
  .exact h1 x (axv hx)
  .exact h2 x hx
 .exact h1 x (ayM hx)
variable(hJ:J Cx (ax P O) R X V.g V.l E G)(hn:O.length=V.n)
include hJ hn
theorem ZB{t:TypeId}{a x:Operand}{j off ext:Nat}{cs:List (Cl SE)}(ho:o.op=.store t a x)(ha:bM P d V 0 a=.one (.pt j off ext))(hj:V.l[j]?=aa (.var cs))
 (h1:vF (ff (bM P d V t x))=ab)(h2:(ff (bM P d V t x)).length<=ext)(h3:off+(ff (bM P d V t x)).length<=cs.length)(h4:aW P t=aa (ff (bM P d V t x)).length)
 (hs:(k (.one .un) (V.setObj j (.var (D0 cs off (ff (bM P d V t x)))))).sat P C Q K O):dm Cx P C Q K O E V.ln k (bQ P E d o G):=by
 have oJ:=bw hJ d 0 a;rw[ha]at oJ;obtain⟨id,sI,g1,g2,g3⟩:=oJ;obtain⟨bt,cS,g4,g5,g6,g7⟩:=hJ.obj j _ hj;rw[g1]at g4;cases g4;have hc:=B8 (bw hJ d t x) h1;have g_:=hc.len;have zk:=g7.len
 obtain⟨fq,bH⟩:=hJ.tE (R':=R) (bad:=λ_=>False) (kq:=.var (D0 cs off (ff (bM P d V t x)))) (fp:=.cells (eG cS off (cellsOf (aB (E d) x))) 0 0) g1 hj (λ_ _=>rfl)
  (λm hm=>by rw[g5]at hm;cases hm) (λm _ _ _ hm=>by rw[g5]at hm;cases hm) (λm _ _ _ hm=>by rw[g5]at hm;cases hm)
  (λ_ _=>⟨_,rfl⟩) (λ_ _ h=>by cases h) (λ_ _ _ _ _ h=>by cases h) (λ_ _ pv _=>pv.aZ) (λ_ o _ _=>o.aZ)
  (λfq=>⟨id,_,g1,g5,by rw[St.cW,if_pos rfl],(Qd off g7 hc).mono λ_ _ b_=>b_.step fq (Cl.aZ _)⟩)
 refine .here (x:=.undef) (V1:=V.setObj j _) (pv:=.one .un) ?_ bH trivial hn rfl hs;have iR:=vK hc h1;simp only[bQ,aA,ho,g3,h4,g6,g_,ret];rw[if_pos ⟨aw5 _,trivial,h2,trivial,by omega,iR⟩]
end
section
variable{Cx:Cs}
variable{P:Program}{N:Nat}{G au:St}{R R':Rs}{X aU:Ph}{E:Nat->Env}{O:List IV}
variable{C:Cr}{Q:IV->Prop}{K:List (List IV->Prop)}{V:SS}{d:Nat}{o:Oper}{k:PV SE->SS->aq}
def aik{y:IV}{n:Nat}(h:nat? y=aa n):∃q,y=.raw (.int q n):=by
 unfold nat? at h;split at h
 .split at h
  .rename_i q m hq;cases h;exact⟨q,by simp;omega⟩
  .cases h
 .cases h
def JG{s:TypeId}{f off sz:Nat}(h:fieldAt P s f=aa (off,sz)):∃fields fd,P.underlying s=aa (.struct fields)/\fields[f]?=aa fd/\aW P fd.type=aa sz/\fd.offset=off:=by
 unfold fieldAt at h;split at h
 .rename_i fields hu;split at h
  .rename_i fd hf;split at h
   .rename_i sz' hs;cases h;exact⟨fields,fd,hu,hf,hs,rfl⟩
   .cases h
  .cases h
 .cases h
theorem Qe{α:Type}{f:α->α->Bool}(h:∀a b,f a b=ab->a=b):∀{as bs:List α},kB f as bs=ab->as=bs
 |[],[],_=>rfl
 |a::as,b::bs,hh=>by
  simp only[kB,awb]at hh;rw[h a b hh.1,Qe h hh.2]
 |[],_::_,hh=>by cases hh
 |_::_,[],hh=>by cases hh
def SE.eq_eq:∀{a b:SE},a.eq b=ab->a=b:=by
 intro a;induction a with
 |var x=>intro c h;cases c<;>simp_all[SE.eq]
 |i x=>intro c h;cases c<;>simp_all[SE.eq]
 |k q x=>intro c h;cases c<;>simp_all[SE.eq,akj]
 |b x=>intro c h;cases c<;>simp_all[SE.eq]
 |s x=>intro c h;cases c<;>first|(simp[SE.eq]at h;done)|(simp only[SE.eq]at h;rw[Qe (λa b h=>by simpa using h) h])
 |an=>intro c h;cases c<;>simp_all[SE.eq]
 |raw v=>intro c h;cases c<;>simp[SE.eq]at h
 |ok e ih=>intro c h;cases c<;>first|(simp[SE.eq]at h;done)|(simp only[SE.eq]at h;rw[ih h])
 |len e ih=>intro c h;cases c<;>first|(simp[SE.eq]at h;done)|(simp only[SE.eq]at h;rw[ih h])
 |uy e ih=>intro c h;cases c<;>first|(simp[SE.eq]at h;done)|(simp only[SE.eq]at h;rw[ih h])
 |tp e ih=>intro c h;cases c<;>first|(simp[SE.eq]at h;done)|(simp only[SE.eq]at h;rw[ih h])
 |rw e ih=>intro c h;cases c<;>first|(simp[SE.eq]at h;done)|(simp only[SE.eq]at h;rw[ih h])
 |aO e j ih=>intro c h;cases c<;>first|(simp[SE.eq]at h;done)|(simp only[SE.eq,awb,awV]at h;rw[h.1,ih h.2])
 |proj e j ih=>intro c h;cases c<;>first|(simp[SE.eq]at h;done)|(simp only[SE.eq,awb,awV]at h;rw[h.1,ih h.2])
 |tr q e ih=>intro c h;cases c<;>first|(simp[SE.eq]at h;done)|(simp only[SE.eq,awb,awV]at h;rw[h.1,ih h.2])
 |un op e ih=>intro c h;cases c<;>first|(simp[SE.eq]at h;done)|(simp only[SE.eq,awb,beq_iff_eq]at h;rw[h.1,ih h.2])
 |cv p q e ih=>intro c h;cases c<;>first|(simp[SE.eq]at h;done)|(simp only[SE.eq,awb,awV]at h;rw[h.1.1,h.1.2,ih h.2])
 |idx q e x gI fL=>intro c h;cases c<;>first|(simp[SE.eq]at h;done)|(simp only[SE.eq,awb,awV]at h;rw[h.1.1,gI h.1.2,fL h.2])
 |oY q e x j gI fL=>intro c h;cases c<;>first|(simp[SE.eq]at h;done)|(simp only[SE.eq,awb,awV]at h;rw[h.1.1.1,h.1.1.2,gI h.1.2,fL h.2])
 |ac e x gI fL=>intro c h;cases c<;>first|(simp[SE.eq]at h;done)|(simp only[SE.eq,awb]at h;rw[gI h.1,fL h.2])
 |bin op t e x gI fL=>intro c h;cases c<;>first|(simp[SE.eq]at h;done)|(simp only[SE.eq,awb,awV,beq_iff_eq]at h;rw[h.1.1.1,h.1.1.2,gI h.1.2,fL h.2])
 |mx q e x gI fL=>intro c h;cases c<;>first|(simp[SE.eq]at h;done)|(simp only[SE.eq,awb,beq_iff_eq]at h;rw[h.1.1,gI h.1.2,fL h.2])
 |LW e x gI fL=>intro c h;cases c<;>first|(simp[SE.eq]at h;done)|(simp only[SE.eq,awb]at h;rw[gI h.1,fL h.2])
 |dec q e x gI fL=>intro c h;cases c<;>first|(simp[SE.eq]at h;done)|(simp only[SE.eq,awb,awV]at h;rw[h.1.1,gI h.1.2,fL h.2])
 |lV|rws|cat|has|yV|sub|Kn|ins|get=>intro c h;cases c<;>simp[SE.eq]at h
def aeq{o:Option (LO SE)}{s:Nat}{cut fr:Bool}{es:SE}(h:Zn o s cut fr es=ab):o=aa (.row s af cut fr es):=by
 unfold Zn at h;split at h
 .simp only[awb,awV,beq_iff_eq]at h;rw[h.1.1.1,h.1.1.2,h.1.2,SE.eq_eq h.2]
 .cases h
def rC{e:SE}{z:IV}(h:(SE.ok e).den P O=aa z):e.den P O=aa z/\Ev.ao z=ab:=by
 simp only[SE.den,awx]at h;obtain⟨y,h1,h2⟩:=h;unfold vJ at h2;split at h2
 .cases h2;exact⟨h1,by assumption⟩
 .cases h2
variable(hJ:J Cx (ax P O) R X V.g V.l E G)(hn:O.length=V.n)
include hJ hn
theorem ZC{t:TypeId}{a x:Operand}{j s off ext:Nat}{i es:SE}{cut fr f:Bool}{zs:List SE}{V2:SS}(ho:o.op=.store t a x)(ha:bM P d V 0 a=.one (.pr j i off ext))(hj:V.l[j]?=aa (.row s af cut fr es))
 (h0:off=0)(h2:(ff (bM P d V t x)).length=s)(h3:s=ext)(bf:aW P t=aa s)(hnu:vF (ff (bM P d V t x))=ab)(eQ:wZ V (ff (bM P d V t x))=aa (f,zs,V2))(BE:V2.l[j]?=aa (.row s af cut fr es))
 (JH:isAgg P t=ab\/s=1)
 (hs:(newVar V2 (.yV s es i (if isAgg P t then eR zs else zs.headD .an)) λz V=>k (.one .un) (V.setObj j (.row s af cut (fr||f) z))).sat P C Q K O):dm Cx P C Q K O E V.ln k (bQ P E d o G):=by
 subst h0 h3;obtain⟨R',cy,fg,hzl,TG⟩:=Ap hJ eQ;have oJ:=bw hJ d 0 a;rw[ha]at oJ;have asf:=cy.TB (x:=aB (E d) a) (c:=.pr j i 0 s) oJ;obtain⟨s',dj,yW,dk,z',aT,y,n,id,cs,aD,mn,a1,a2,a3,a4,a5,a6,a7,a8,a9⟩:=asf;rw[BE]at a1;cases a1;obtain⟨cj,lg,g1,g2,g3⟩:=fg.obj j _ BE;have AU:es.den P O=aa (.tree s aT):=a2;have rA:es.den P O=aa (.tree s lg):=g1;rw[AU]at rA;cases rA;rcases g3 with⟨g3,_⟩|⟨bt,bG,ko,tD,g3,g4,g5,g6,g7,g8,g9⟩
 .rw[a7]at g3;cases g3
 rw[a7]at g3;cases g3;rw[a8]at g4;cases g4;have hc:=B8 (bw hJ d t x) hnu;obtain⟨ys,b1,b2,b3⟩:=TG _ hc;have hxl:(cellsOf (aB (E d) x)).length=s:=by rw[hc.len,h2]
 have GC:ys.length=s:=by rw[<-b1.len,hzl,h2]
 obtain⟨ze,hze,hzc⟩:∃ze,(if isAgg P t=ab then eR zs else zs.headD .an).den P O=aa ze/\cellsOf ze=ys:=by
  split
  .exact⟨_,gy b1,rfl⟩
  .rename_i hna;have fq:s=1:=JH.resolve_left hna;have akv:ys.length=1:=aj;obtain⟨y0,rfl⟩:=ay6.1 akv;obtain⟨z0,rfl⟩:=ay6.1 (b1.len.trans akv);refine⟨y0,b1.1,?_⟩;have:Ev.ao y0=ab:=by simpa using b3
   cases y0<;>first|rfl|(simp[Ev.ao]at this;done)
 obtain⟨av1,ZD,hk⟩:=hs
 have Dd:(SE.yV s es i (if isAgg P t=ab then eR zs else zs.headD .an)).den P O=aa (.tree s (aT.set n ze)):=by
  simp only[SE.den,awx]at ZD⊢;have a3':i.den P O=aa y:=a3;refine⟨_,AU,y,a3',ze,hze,?_⟩;obtain⟨q,rfl⟩:=aik a4;simp[yz,ie,a5,hzc,GC]
 rw[Dd]at ZD;cases ZD
 have adL:n*s+s<=aT.length*s:=by
  have:(n+1)*s<=aT.length*s:=awL s a5;rw[awU]at this;omega
 have vM:=fg.up (jj:=ax P (O++[.tree s (aT.set n ze)])) (λe z h=>SE.dw P e h)
 have oK:(SE.var V2.n).den P (O++[.tree s (aT.set n ze)])=aa (.tree s (aT.set n ze)):=by
  have:V2.n=O.length:=by rw[hn];exact cy.2.1
  simp[SE.den,this]
 have hJ4:=vM.aku (dk:=fr||f) (z':=.var V2.n) (bG:=eG cs (n*s) (cellsOf (aB (E d) x))) a7 BE a8 (zH aj) (SE.dw P es AU) oK ay
  (λe he=>by
   rcases List.mem_or_eq_of_mem_set he with he|rfl
   .exact g2 e he
   .rw[hzc,GC])
  (Fa g8 (vK hc hnu))
  (λq u v hu hv=>by
   rw[aep g2 a5 (by rw[hzc,GC])]at hv;rw[r_ (α:=IV) aj]at hu;rw[r_ (α:=IV) (by rw[uD g2,hzc,GC];exact adL)]at hv;rw[hxl]at hu;rw[hzc,GC]at hv;by_cases hq:n*s<=q/\q<n*s+s
   .rw[if_pos hq]at hu hv;exact(b2.get hu hv).wide (λh=>by simp[h])
   .rw[if_neg hq]at hu hv;exact(g9 q u v hu hv).wide (λh=>by simp[h]))
 refine⟨.undef,G.put id (.cells (eG cs (n*s) (cellsOf (aB (E d) x))) aD aD),R',X,.one .un,({V2 with n:=V2.n+1}:SS).setObj j (.row s af cut (fr||f) (.var V2.n)),[.tree s (aT.set n ze)],?_,hJ4,trivial,?_,cy.2.2.1,hk⟩
 .have iR:=vK hc hnu;simp only[bQ,aA,ho,a9,bf,a8,hxl,ret,Nat.add_zero];rw[if_pos ⟨aw5 _,trivial,awe _,trivial,by omega,iR⟩]
 .show(O++[_]).length=V2.n+1;simp[hn,cy.2.1]
theorem abC{t:TypeId}{a x:Operand}(ho:o.op=.store t a x)(hs:(gH P d o V k).sat P C Q K O):dm Cx P C Q K O E V.ln k (bQ P E d o G):=by
 unfold gH at hs;rw[ho]at hs;simp only at hs;split at hs
 .rename_i j off ext ha;split at hs
  .rename_i cs hj;split at hs
   .rename_i hc;simp only[awb,axS,beq_iff_eq]at hc;exact ZB hJ hn ho ha hj hc.1.1.1 hc.1.1.2 hc.1.2 hc.2 hs
   .exact hs.elim
  .exact hs.elim
 .rename_i j i off ext ha;split at hs
  .rename_i s cut fr es hj;split at hs
   .rename_i hc;simp only[awb,awV,beq_iff_eq,awO]at hc;split at hs
    .rename_i f zs V2 eQ;split at hs
     .rename_i BE;obtain⟨⟨⟨⟨⟨c1,c2⟩,c3⟩,c4⟩,c5⟩,c6⟩:=hc;exact ZC hJ hn ho ha hj c1 c2 c3 c4 c5 eQ (aeq BE) c6 hs
     .exact hs.elim
    .exact hs.elim
   .exact hs.elim
  .exact hs.elim
 .exact hs.elim
theorem Ri{s:TypeId}{x:Operand}{f:Nat}(ho:o.op=.fieldAddr s x f)(hs:(gH P d o V k).sat P C Q K O):dm Cx P C Q K O E V.ln k (bQ P E d o G):=by
 unfold gH at hs;rw[ho]at hs;simp only at hs;have hx:=bw hJ d 0 x;split at hs
 .rename_i fo sz hf;obtain⟨fields,fd,h1,h2,h3,rfl⟩:=JG hf;split at hs
  .exact hs.elim
  .rename_i hz;have rB:sz≠0:=by simpa[awV]using hz
   split at hs
   .rename_i j off ext hh;split at hs
    .rename_i hle;rw[axS]at hle;rw[hh]at hx;obtain⟨id,cs,g1,g2,g3⟩:=hx;exact .at hs hJ hn rfl ⟨id,cs,g1,g2,rfl⟩ (by simp[bQ,aA,ho,g3,h1,h2,h3,rB,hle,ret])
    .exact hs.elim
   .rename_i cs hh;split at hs
    .rename_i hle;rw[axS]at hle;rw[hh]at hx;obtain⟨ds,g1,g2⟩:=hx;have hl:=g2.len;exact .at hs hJ hn rfl ⟨_,rfl,(g2.drop _).take _⟩ (by simp[bQ,aA,ho,g1,h1,h2,h3,rB,hl,hle,ret])
    .exact hs.elim
   .rename_i fr cs hh;split at hs
    .rename_i hle;rw[axS]at hle;rw[hh]at hx;obtain⟨g0,⟨hf1,ds,g1,g2⟩|⟨id,off,ep,m,cS,aD,mn,a1,a2,a3,a4,a5,a6,a7,a8⟩⟩:=hx
     .have hl:=g2.len;exact .at hs hJ hn rfl ⟨λc hc=>g0 c (ayM (axv hc)),.inl ⟨hf1,_,rfl,(g2.drop _).take _⟩⟩ (by simp[bQ,aA,ho,g1,h1,h2,h3,rB,hl,hle,ret])
     .have hlen:((cs.drop fd.offset).take sz).length=sz:=by simp;omega
      refine .at (x:=.ptr id (off+fd.offset) ep sz) hs hJ hn rfl ⟨λc hc=>g0 c (ayM (axv hc)),.inr ⟨id,off+fd.offset,ep,m,cS,aD,mn,a1,a2,a3,a4,by rw[hlen],by rw[hlen];omega,a7,λj c e he hc=>?_⟩⟩ (by simp[bQ,aA,ho,a5,h1,h2,h3,rB,hle,ret]);rw[awR]at he;split at he
      .rw[axR]at he;exact a8 _ c e he (by rw[show off+(fd.offset+j)=off+fd.offset+j by omega];exact hc)
      .cases he
    .exact hs.elim
   .rename_i j i off ext hh;split at hs
    .rename_i hle;rw[axS]at hle;rw[hh]at hx;obtain⟨s',dj,yW,dk,z',aT,y,n,id,cs,aD,mn,a1,a2,a3,a4,a5,a6,a7,a8,a9⟩:=hx;exact .at hs hJ hn rfl ⟨s',dj,yW,dk,z',aT,y,n,id,cs,aD,mn,a1,a2,a3,a4,a5,by omega,a7,a8,rfl⟩ (by simp[bQ,aA,ho,a9,h1,h2,h3,rB,hle,ret,Nat.add_assoc])
    .exact hs.elim
   .exact hs.elim
 .exact hs.elim
end
section
variable{Cx:Cs}
variable{P:Program}{N:Nat}{G au:St}{R R':Rs}{X aU:Ph}{E:Nat->Env}{O:List IV}
variable{C:Cr}{Q:IV->Prop}{K:List (List IV->Prop)}{V:SS}{d:Nat}{o:Oper}{k:PV SE->SS->aq}
def AV(P:Program)(t:TypeId)(s:Nat)(e:SE):List (SE):=if isAgg P t then(axt s).map (λj=>.aO e j)else[.ok e]
def Dg{z:IV}(h:Ev.ao z=ab):cellsOf z=[z]:=by
 cases z<;>first|rfl|(simp[Ev.ao]at h;done)
def TH{t:TypeId}{s:Nat}{e:SE}{z:IV}{f:aq}(bf:aW P t=aa s)(hz:e.den P O=aa z)(hs:(tO P t e f).sat P C Q K O):
 f.sat P C Q K O/\All2 (λy (c:SE)=>c.den P O=aa y/\Ev.ao y=ab) (cellsOf z) (AV P t s e)/\(isAgg P t=ab->∃ys,z=.agg ys):=by
 unfold tO at hs;unfold AV;split at hs
 .rename_i ha;rw[if_pos ha];obtain⟨⟨y,hy⟩,hk⟩:=hs;refine⟨hk,?_⟩;simp only[SE.den,hz,bf,awc,aw8]at hy;split at hy
  .rename_i cs;split at hy
   .rename_i hc;refine⟨.mk (by simp[cellsOf,hc.1]) λi a b h1 h2=>?_,λ_=>⟨cs,rfl⟩⟩;have hi:=(awa.1 h1).1;have cw:i<cs.length:=hi;rw[awu,ax9 aj]at h2;simp only[awQ,awf]at h2;subst h2;have a_:Ev.ao a=ab:=(awt.1 hc.2) a (awq h1);have dh:cs[i]?=aa a:=h1;exact⟨by simp[SE.den,hz,dh,vJ,a_],a_⟩
   .cases hy
  .cases hy
 .rename_i ha;rw[if_neg ha];obtain⟨⟨y,hy⟩,hk⟩:=hs;obtain⟨h1,h2⟩:=rC hy;rw[hz]at h1;cases h1;rw[Dg h2];exact⟨hk,⟨⟨hy,h2⟩,trivial⟩,λh=>absurd h ha⟩
def N5{s:Nat}{z i:SE}{e:IV}(h:(SE.idx s z i).den P O=aa e):∃es y n,z.den P O=aa (.tree s es)/\i.den P O=aa y/\(∃q,y=.raw (.int q (n:Nat)))/\es[n]?=aa e/\(cellsOf e).length=s:=by
 simp only[SE.den,awx]at h;obtain⟨a,h1,b,h2,h3⟩:=h;unfold cq at h3;split at h3
 .rename_i s' es;split at h3
  .rename_i n hn;split at h3
   .rename_i hc;split at h3
    .rename_i x hx;split at h3
     .rename_i hl;cases h3;obtain⟨rfl,h0⟩:=hc;obtain⟨q,rfl⟩:=Kw hn;exact⟨es,_,n.toNat,h1,h2,⟨q,by simp;omega⟩,hx,hl⟩
     .cases h3
    .cases h3
   .cases h3
  .cases h3
 .cases h3
def abD{x:IV}{s:Nat}{es:List IV}(h:jJ x (.tree s es))(bg:es≠[]):x=.tree s es/\Pure x:=by
 cases h with
 |nil=>exact absurd rfl bg
 |emp=>exact absurd rfl bg
 |pure _ _ hp=>exact⟨rfl,hp⟩
 |sl _ _ _ _ _ _ _ _ _ _ _ hR=>cases hR
def akw{α:Type}{l:List α}{i:Nat}{a:α}(h:l[i]?=aa a):l≠[]:=by intro hl;rw[hl]at h;simp at h
def Qf{α β:Type}{r:α->β->Prop}{q:α->β->Prop}{as:List α}{bs:List β}(h:All2 r as bs)(hq:∀a b,a∈as->r a b->q a b):All2 q as bs:=
 .mk h.len λ_ a b h1 h2=>hq a b (awq h1) (h.get h1 h2)
def aer{P:Program}{t:TypeId}{x y:Operand}{k:IntKind}{c:Int}{u:Value}(h:∀k n,u≠.int k n):aH P (do eqGuard .lss t x y u (.int k c);binOp .lss t u (.int k c))=ah:=by
 cases u with
 |int k n=>exact absurd rfl (h k n)
 |pointer p=>cases p<;>rfl
 |_=>rfl
def abE{x:IV}{k:IntKind}{n:Int}(h:lr x=aa (.int k n)):x=.raw (.int k n):=by
 unfold lr at h;split at h
 .split at h<;>cases h
 .unfold qV at h;split at h<;>simp_all;split at h<;>cases h
def akx{P:Program}{t:TypeId}{x:IV}{c:Int}{z:IV}(h:dc P .lss t x (.int c)=aa z):∃n,x=.int n/\z=.bool (decide (n<c)):=by
 by_cases hx:∃k n,x=.raw (.int k n)
 .obtain⟨k,n,rfl⟩:=hx;cases k<;>first|exact⟨n,rfl,(ayh h).symm⟩|exact by cases h
 .unfold dc at h;split at h
  .cases h
  .rename_i u v _ h1 h2;unfold sZ at h;split at h<;>first|(rename_i h3;simp at h3;done)|skip
   all_goals first|(simp[IV.int]at*;done)|skip
   split at h
   .rename_i u' v' h3 h4;cases h4;rw[aer λk n hu=>hx ⟨k,n,abE (by rw[h3,hu])⟩]at h;cases h
   .split at h
    .rename_i hn;simp[h1]at*
    .simp_all
  .cases h
def Xj{P:Program}{O:List IV}{i:SE}{c:Int}{z:IV}(h:(SE.bin .lss 3 i (.i c)).den P O=aa z):∃n,i.den P O=aa (.int n)/\z=.bool (decide (n<c)):=by
 simp only[SE.den]at h;obtain⟨x,h1,h2⟩:=awx.1 h;obtain⟨n,rfl,h3⟩:=akx h2;exact⟨n,h1,h3⟩
theorem L9{P:Program}{C:Cr}{Q:IV->Prop}{K:List (List IV->Prop)}{O:List IV}{i:SE}{f:Nat->aq}{n:Int}(hi:i.den P O=aa (.int n)):∀(m c:Nat),(c:Int)<=n->(Tp i f c m).sat P C Q K O->∃k:Nat,n=k/\k<c+m/\(f k).sat P C Q K O
 |0,_,_,h=>h.elim
 |m+1,c,hc,h=>by
  rcases h with⟨h1,h2⟩|⟨h1,h2⟩
  all_goals
   obtain⟨n',g1,g2⟩:=Xj h1;rw[hi]at g1;cases g1;injection g2 with g2;injection g2 with g2
  .have:n<c+1:=by simpa using g2.symm
   exact⟨c,by omega,by omega,h2⟩
  .have:¬n<c+1:=by simpa using g2.symm
   obtain⟨k,a,b,c⟩:=L9 hi m (c+1) aj h2;exact⟨k,a,by omega,c⟩
def Wp{P:Program}{C:Cr}{Q:IV->Prop}{K:List (List IV->Prop)}{O:List IV}{i:SE}{f:Nat->aq}{m:Nat}(h:(Xh i f m).sat P C Q K O):∃k:Nat,i.den P O=aa (.int k)/\k<m/\(f k).sat P C Q K O:=by
 rcases h with⟨_,h2⟩|⟨h1,h2⟩
 .exact h2.elim
 .obtain⟨n,g1,g2⟩:=Xj h1;injection g2 with g2;injection g2 with g2
  have:¬n<0:=by simpa using g2.symm
  obtain⟨k,rfl,b,c⟩:=L9 g1 m 0 aj h2;exact⟨k,g1,by omega,c⟩
def Xk(hJ:J Cx (ax P O) R X V.g V.l E G){x:IV}{pv:PV SE}{e:SE}(hx:VR (ax P O) R X V.l G x pv)(h:uz pv=aa e):∃y,e.den P O=aa y/\bx ab R G x y/\True:=by
 unfold uz at h;split at h<;>try (cases h;done)
 .cases h;obtain⟨y,h1,h2,_⟩:=hx;exact⟨y,h1,h2.mono hJ.B_,trivial⟩
 .cases h;obtain⟨y,h1,h2,_⟩:=hx;exact⟨y,h1,h2.cG,trivial⟩
variable(hJ:J Cx (ax P O) R X V.g V.l E G)(hn:O.length=V.n)
include hJ hn
theorem vN{e:SE}{f:SE->SS->aq}(hs:(newVar V e f).sat P C Q K O):∃z,e.den P O=aa z/\(f (.var V.n) {V with n:=V.n+1}).sat P C Q K (O++[z])/\(SE.var V.n).den P (O++[z])=aa z/\J Cx (ax P (O++[z])) R X V.g V.l E G/\(O++[z]).length=V.n+1:=by
 obtain⟨z,h1,h2⟩:=hs;exact⟨z,h1,h2,by simp[SE.den,<-hn],hJ.up λe z h=>SE.dw P e h,by simp[hn]⟩
theorem Rj{t:TypeId}{x ix:Operand}(ho:o.op=.indexAddr t x ix)(hs:(gH P d o V k).sat P C Q K O):dm Cx P C Q K O E V.ln k (bQ P E d o G):=by
 unfold gH at hs;rw[ho]at hs;simp only at hs;have hx:=bw hJ d t x;have hi:=bw hJ d 3 ix;split at hs
 .rename_i et i hu JI;replace hi:=Xk hJ hi JI;split at hs
  .rename_i s bf;split at hs
   .rename_i z hh;rw[hh]at hx;obtain⟨e,h1,h2,hv,JJ,oX⟩:=vN hJ hn hs;obtain⟨es,y,n,g1,g2,⟨q,rfl⟩,g4,g5⟩:=N5 h1;obtain⟨y',a1,a2,a3⟩:=hx;have zq:z.den P O=aa y':=a1;rw[g1]at zq;cases zq;obtain⟨DZ,hp⟩:=abD a2 (akw g4);obtain⟨yi,b1,b2,b3⟩:=hi;have zr:i.den P O=aa yi:=b1;rw[g2]at zr;cases zr;have yu:=cA b2;obtain⟨hk,jw,_⟩:=TH bf hv h2
    have yk:∀c∈cellsOf e,Pure c:=by
     rw[DZ]at hp;cases hp with|tree _ _ hh=>exact hh e (awq g4)
    refine⟨.mS (cellsOf e),G,R,X,.one (.tp (AV P et s (.var V.n))),{V with n:=V.n+1},[e],?_,JJ,⟨_,rfl,Qf jw λa b ha b_=>⟨a,b_.1,.pure a rfl (yk a ha),b_.2⟩⟩,oX,rfl,hk⟩;simp[bQ,aA,ho,hu,DZ,yu,bf,g4,g5,ret]
   .rename_i fr z hh;rw[hh]at hx;obtain⟨e,h1,h2,hv,JJ,oX⟩:=vN hJ hn hs;obtain⟨es,y,n,g1,g2,⟨q,rfl⟩,g4,g5⟩:=N5 h1;obtain⟨y',a1,a2,a3⟩:=hx;have zq:z.den P O=aa y':=a1;rw[g1]at zq;cases zq;obtain⟨yi,b1,b2,b3⟩:=hi;have zr:i.den P O=aa yi:=b1;rw[g2]at zr;cases zr;have yu:=cA b2;obtain⟨hk,jw,_⟩:=TH bf hv h2
    have hg0:∀c∈AV P et s (.var V.n),∃y,c.den P (O++[e])=aa y/\Ev.ao y=ab:=by
     intro c hc;obtain⟨j,hj⟩:=axG hc;obtain⟨a,_,b_⟩:=jw.Db hj;exact⟨a,b_⟩
    generalize hex:aB (E d) x=xv at a2;generalize Qg:IV.tree s es=zt at a2;cases a2 with
    |nil s' bp=>injection Qg with h1 h2;subst h2;simp at g4
    |emp s' bp=>injection Qg with h1 h2;subst h2;simp at g4
    |pure _ hf hp=>
     subst Qg
     have yk:∀c∈cellsOf e,Pure c:=by
      cases hp with|tree _ _ hh=>exact hh e (awq g4)
     refine⟨.mS (cellsOf e),G,R,X,.one (.tw fr (AV P et s (.var V.n))),{V with n:=V.n+1},[e],?_,JJ,⟨hg0,.inl ⟨hf,_,rfl,Qf jw λa b ha b_=>⟨a,b_.1,.pure a rfl (yk a ha)⟩⟩⟩,oX,rfl,hk⟩;simp[bQ,aA,ho,hu,hex,yu,bf,g4,g5,ret]
    |sl id off len cap ep s' m cs aD mn aT hR aM dh wH bp hl hb hm bD hh=>
     injection Qg with oL Hv
     subst oL Hv hl;have ak:=(awa.1 g4).1;have hlen:(AV P et s (.var V.n)).length=s:=by rw[<-jw.len,g5]
     have dv:n*s+s<=es.length*s:=by
      have:(n+1)*s<=es.length*s:=awL s ak;rw[awU]at this;omega
     refine⟨.ptr id (off+n*s) ep s,G,R,X,.one (.tw fr (AV P et s (.var V.n))),{V with n:=V.n+1},[e],?_,JJ,⟨hg0,.inr ⟨id,off+n*s,ep,m,cs,aD,mn,hR,aM,dh,wH,by rw[hlen],by rw[hlen];omega,hm,λj c ce tz hc=>?_⟩⟩,oX,rfl,hk⟩
     .simp[bQ,aA,ho,hu,hex,yu,bf,ak,ret]
     .obtain⟨a,ha,b_⟩:=jw.Db tz;exact⟨a,b_.1,hh n e j c a g4 ha (by rw[show off+n*s+j=off+(n*s)+j by omega]at hc;exact hc)⟩
    |raw v=>cases Qg
    |dK=>cases Qg
    |agg=>cases Qg
    |aF=>cases Qg
   .rename_i j hh;rw[hh]at hx;split at hs
    .rename_i s' st cut fr aT hj;split at hs
     .rename_i lQ;have Dh:=awk lQ;subst Dh;obtain⟨⟨e,h1⟩,hk⟩:=hs;obtain⟨es,y,n,g1,g2,⟨q,rfl⟩,g4,g5⟩:=N5 h1;obtain⟨yi,b1,b2,b3⟩:=hi;have zr:i.den P O=aa yi:=b1;rw[g2]at zr;cases zr;have yu:=cA b2;have ak:=(awa.1 g4).1;obtain⟨s2,st2,aes,fr2,z2,lg,a1,a2,a3⟩:=hx;rw[hj]at a1;cases a1;have AU:aT.den P O=aa (.tree s lg):=a2;rw[g1]at AU;cases AU;rcases a3 with⟨_,c2,_⟩|⟨id,cs,aD,mn,cap,c1,c2,c3,c4,c5,c6⟩
      .omega
      .refine .at (x:=.ptr id (n*s+0) aD s) hk hJ hn rfl ⟨s,st,cut,fr,aT,es,_,n,id,cs,aD,mn,hj,g1,g2,by simp[nat?],ak,by omega,c1,c2,rfl⟩ ?_;simp[bQ,aA,ho,hu,c3,yu,bf,ak,ret]
     .exact hs.elim
    .exact hs.elim
   .exact hs.elim
  .exact hs.elim
 .rename_i n et i hu JI;rw[JI]at hi
  have yu:aB (E d) ix=.raw (.int .i64 i):=by
   obtain⟨y,h1,h2,_⟩:=hi;simp only[ax,SE.den,awf]at h1;subst h1;exact cA h2
  split at hs
  .rename_i s j off ext bf hh;rw[hh]at hx;obtain⟨id,cs,g1,g2,g3⟩:=hx;split at hs
   .rename_i hc;simp only[awb,awX,decide_eq_true_eq,Nat.blt_eq,axS]at hc;obtain⟨⟨⟨c1,c2⟩,c3⟩,c4⟩:=hc;have oM:s≠0:=by intro h;subst h;simp at c1
    refine .at (x:=.ptr id (off+i.toNat*s) 0 s) hs hJ hn rfl ⟨id,cs,g1,g2,rfl⟩ ?_;have:i<n:=aj;simp[bQ,aA,ho,hu,g3,yu,bf,oM,c2,this,c4,ret]
   .exact hs.elim
  .exact hs.elim
  .exact hs.elim
 .rename_i n et i hu JI _;replace hi:=Xk hJ hi JI;split at hs
  .rename_i s j off ext bf hh;rw[hh]at hx;obtain⟨id,cs,g1,g2,g3⟩:=hx;split at hs
   .rename_i hc;simp only[awb,awX,axS]at hc;obtain⟨⟨c1,c4⟩,_⟩:=hc;have oM:s≠0:=by intro h;subst h;simp at c1
    obtain⟨m,d1,d2,d3⟩:=Wp hs;obtain⟨y,e1,e2,_⟩:=hi;have cM:i.den P O=aa y:=e1;rw[d1]at cM;cases cM;have yu:aB (E d) ix=.raw (.int .i64 m):=cA e2
    have hb:m*s+s<=n*s:=by
     have:(m+1)*s<=n*s:=awL s d2;rw[awU]at this;omega
    refine .at (x:=.ptr id (off+m*s) 0 s) d3 hJ hn rfl ⟨id,cs,g1,g2,rfl⟩ ?_;have h5:m*s+s<=ext:=awy hb c4;simp[bQ,aA,ho,hu,g3,yu,bf,oM,d2,h5,ret]
   .exact hs.elim
  .exact hs.elim
 .exact hs.elim
end
section
variable{Cx:Cs}
variable{P:Program}{N:Nat}{G au:St}{R R':Rs}{X aU:Ph}{E:Nat->Env}{O:List IV}
variable{C:Cr}{Q:IV->Prop}{K:List (List IV->Prop)}{V:SS}{d:Nat}{o:Oper}{k:PV SE->SS->aq}
def Wq{op:BinOp}{t:TypeId}{x y x' y':Operand}{u v:Value}(h:u≠.nilIface):eqGuard op t x y u v=eqGuard op t x' y' u v:=by
 unfold eqGuard;cases u<;>first|exact absurd rfl h|rfl|(cases v<;>rfl)
def TI{op:BinOp}{t:TypeId}{x y x' y':Operand}{a b:IV}{u v:Value}(ha:lr a=aa u)(hb:lr b=aa v)(h:u≠.nilIface):sZ P op t x y a b=sZ P op t x' y' a b:=by
 unfold sZ;split<;>first|rfl|skip
 rw[ha,hb];simp only;rw[Wq (x:=x) (y:=y) (x':=x') (y':=y') h]
def abF{op:BinOp}{t:TypeId}{a b z:IV}(h:dc P op t a b=aa z){f g:Bool}{xa xb:IV}(ha:bx f R G xa a)(hb:bx g R G xb b)(ox oy:Operand):sZ P op t ox oy xa xb=aa z:=by
 unfold dc at h;split at h
 .cases h
 .rename_i u v bg hu hv;rw[E_ ha hu,E_ hb hv,TI (x':=.func 0) (y':=.func 0) hu hv (λhc=>bg hc)];exact h
 .cases h
variable(hJ:J Cx (ax P O) R X V.g V.l E G)(hn:O.length=V.n)
include hJ hn
theorem TJ(v:Value):jJ (lift v) (lift v):=by
 unfold lift;split
 .refine .agg _ _ rfl λi c e h1 h2=>?_;rw[h1]at h2;cases h2;rw[awu]at h1;obtain⟨u,_,rfl⟩:=awj.1 h1;exact .raw u
 .exact .raw _
omit hJ hn in
theorem TK{op:BinOp}{t:TypeId}{x y:Operand}{a b z:IV}(h:sZ P op t x y a b=aa z):jJ z z:=by
 unfold sZ at h;split at h<;>first|(cases h;exact .raw _)|skip
 .split at h
  .cases h;exact .raw _
  .cases h
 .split at h
  .obtain⟨v,_,rfl⟩:=awj.1 h;unfold lift;split
   .refine .agg _ _ rfl λi c e h1 h2=>?_;rw[h1]at h2;cases h2;rw[awu]at h1;obtain⟨u,_,rfl⟩:=awj.1 h1;exact .raw u
   .exact .raw _
  .split at h
   .split at h
    .cases h;exact .raw _
    .cases h;exact .raw _
    .cases h
   .split at h
    .cases h;exact .raw _
    .cases h;exact .raw _
    .cases h
theorem L_{op:BinOp}{t yt:TypeId}{x y:Operand}{a b:SE}(ho:o.op=.binOp op t x y yt){f g:Bool}(ha:∀z,a.den P O=aa z->bx f R G (aB (E d) x) z)(hb:∀z,b.den P O=aa z->bx g R G (aB (E d) y) z)
 (hs:(vk (.ok (.bin op t a b)) V k).sat P C Q K O):dm Cx P C Q K O E V.ln k (bQ P E d o G):=by
 obtain⟨⟨z,hz⟩,hk⟩:=hs;obtain⟨h1,h2⟩:=rC hz;simp only[SE.den,awx]at h1;obtain⟨u,h3,v,h4,h5⟩:=h1;have h6:=abF h5 (ha u h3) (hb v h4) x y;exact .at (x:=z) hk hJ hn rfl ⟨z,hz,TK h6,h2⟩ (by simp[bQ,aA,ho,h6,ret])
theorem aky{op:UnOp}{t:TypeId}{x:Operand}(ho:o.op=.unOp op t x)(hs:(gH P d o V k).sat P C Q K O):dm Cx P C Q K O E V.ln k (bQ P E d o G):=by
 unfold gH at hs;rw[ho]at hs;simp only at hs;have hx:=bw hJ d 0 x
 have main:∀a:SE,(∀z,a.den P O=aa z->bx ab R G (aB (E d) x) z)->(vk (.ok (.un op a)) V k).sat P C Q K O->dm Cx P C Q K O E V.ln k (bQ P E d o G):=by
  intro a ha hs;obtain⟨⟨z,hz⟩,hk⟩:=hs;obtain⟨h1,h2⟩:=rC hz;simp only[SE.den,awx]at h1;obtain⟨u,h3,h4⟩:=h1;unfold RE at h4;split at h4
  .rename_i v;have hv:=cA (ha _ h3);obtain⟨r,hr,rfl⟩:=awj.1 h4;exact .at (x:=lift r) hk hJ hn rfl ⟨_,hz,TJ hJ hn r,h2⟩ (by simp[bQ,aA,ho,hv,hr,ret])
  .cases h4
 split at hs
 .rename_i t' hh;rw[hh]at hx;have hb:=TD hJ hn hx;split at hs
  .refine .at (x:=.raw (.bool (!t'))) hs hJ hn rfl ⟨_,rfl,.raw _,rfl⟩ ?_;simp[bQ,aA,ho,hb,ret,Op.unary,aH,lift,pure]
  .exact hs.elim
 .rename_i a _ hh;rw[hh]at hx;obtain⟨y,h1,h2,_⟩:=hx;exact main a (λz hz=>by have dh:a.den P O=aa y:=h1;rw[hz]at dh;cases dh;exact h2.mono hJ.B_) hs
 .rename_i f a hh;rw[hh]at hx;obtain⟨y,h1,h2,_⟩:=hx;exact main a (λz hz=>by have dh:a.den P O=aa y:=h1;rw[hz]at dh;cases dh;exact h2.cG) hs
 .exact hs.elim
theorem akz{src dst:TypeId}{x:Operand}(ho:o.op=.convert src dst x)(hs:(gH P d o V k).sat P C Q K O):dm Cx P C Q K O E V.ln k (bQ P E d o G):=by
 unfold gH at hs;rw[ho]at hs;simp only at hs;have hx:=bw hJ d src x
 have main:∀a:SE,(∀z,a.den P O=aa z->bx ab R G (aB (E d) x) z)->(vk (.ok (.cv src dst a)) V k).sat P C Q K O->dm Cx P C Q K O E V.ln k (bQ P E d o G):=by
  intro a ha hs;obtain⟨⟨z,hz⟩,hk⟩:=hs;obtain⟨h1,h2⟩:=rC hz;simp only[SE.den,awx]at h1;obtain⟨u,h3,h4⟩:=h1;unfold L7 at h4;split at h4
  .rename_i b;have hv:=cA (ha _ h3);split at h4
   .rename_i q BB Jr;cases h4;exact .at (x:=.raw (.string b)) hk hJ hn rfl ⟨_,hz,.raw _,h2⟩ (by simp[bQ,aA,ho,hv,BB,Jr,ret])
   .cases h4
  .rename_i v hnv;have hv:=cA (ha _ h3);obtain⟨r,hr,rfl⟩:=awj.1 h4;refine .at (x:=lift r) hk hJ hn rfl ⟨_,hz,TJ hJ hn r,h2⟩ ?_;unfold bQ aA;rw[ho];simp only[hv,hr,ret]
  .cases h4
 split at hs
 .rename_i a hh;rw[hh]at hx;obtain⟨y,h1,h2,_⟩:=hx;exact main a (λz hz=>by have dh:a.den P O=aa y:=h1;rw[hz]at dh;cases dh;exact h2.mono hJ.B_) hs
 .rename_i f a hh;rw[hh]at hx;obtain⟨y,h1,h2,_⟩:=hx;exact main a (λz hz=>by have dh:a.den P O=aa y:=h1;rw[hz]at dh;cases dh;exact h2.cG) hs
 .exact hs.elim
theorem Wr{x:Operand}{i:Nat}(ho:o.op=.extract x i)(hs:(gH P d o V k).sat P C Q K O):dm Cx P C Q K O E V.ln k (bQ P E d o G):=by
 unfold gH at hs;rw[ho]at hs;simp only at hs;have hx:=bw hJ d 0 x;split at hs
 .rename_i vs hh;rw[hh]at hx;obtain⟨xs,h1,h2⟩:=hx;split at hs
  .rename_i cs hi;obtain⟨a,ha,hr⟩:=h2.Db hi;refine .here (x:=a) (pv:=.ag cs) (av:=G) (by simp[bQ,aA,ho,h1,ha,ret]) hJ ?_ hn rfl hs;simpa[vA,VR]using hr
  .rename_i c hi;obtain⟨a,ha,hr⟩:=h2.Db hi;refine .at (x:=a) hs hJ hn rfl ?_ (by simp[bQ,aA,ho,h1,ha,ret]);simpa[vA]using hr
  .exact hs.elim
 .exact hs.elim
theorem abG{t:TypeId}{x:Operand}{f:Nat}(ho:o.op=.field t x f)(hs:(gH P d o V k).sat P C Q K O):dm Cx P C Q K O E V.ln k (bQ P E d o G):=by
 unfold gH at hs;rw[ho]at hs;simp only at hs;have hx:=bw hJ d t x;split at hs
 .rename_i cs fo sz hh hf;rw[hh]at hx;obtain⟨xs,h1,h2⟩:=hx;obtain⟨fields,fd,g1,g2,g3,rfl⟩:=JG hf;rw[g1]at hs;simp only at hs;split at hs
  .rename_i hc;simp only[awb,axS,Option.isSome_iff_exists]at hc;obtain⟨hle,b,hb⟩:=hc;rw[g2]at hs hb;simp only[awQ,aw8]at hs hb
   obtain⟨pv,hk,sN⟩:∃pv,(k pv V).sat P C Q K O/\(if isAgg P fd.type=ab then pv=.ag ((cs.drop fd.offset).take sz)else∃c,(cs.drop fd.offset).take sz=[c]/\pv=.one c):=by
    split at hs
    .rename_i ha;split at hs
     .exact⟨_,hs,by rw[if_pos ha]⟩
     .exact hs.elim
    .rename_i ha;split at hs
     .rename_i c jy;exact⟨_,hs,by rw[if_neg ha];exact⟨c,jy,rfl⟩⟩
     .exact hs.elim
   obtain⟨v,hv,hr⟩:=u_ g3 hb h2 hle sN;exact .here (x:=v) (pv:=pv) (av:=G) (by simp[bQ,aA,ho,h1,g1,g2,hv,ret]) hJ hr hn rfl hk
  .exact hs.elim
 .exact hs.elim
end
section
variable{Cx:Cs}
variable{P:Program}{N:Nat}{G au:St}{R R':Rs}{X aU:Ph}{E:Nat->Env}{O:List IV}
variable{C:Cr}{Q:IV->Prop}{K:List (List IV->Prop)}{V:SS}{d:Nat}{o:Oper}{k:PV SE->SS->aq}
def Di{s:Nat}{es:List IV}(h:fV s es=ab):(∀e∈es,(cellsOf e).length=s)/\∀c∈flat es,Ev.ao c=ab:=by
 unfold fV at h;rw[awt]at h;refine⟨λe he=>?_,λc hc=>?_⟩
 .have:=h e he;simp only[awb,beq_iff_eq]at this;exact this.1
 .obtain⟨e,he,tz⟩:=axq.1 hc;have:=h e he;simp only[awb,awt]at this;exact this.2 c tz
def TL(a b:List IV):flat (a++b)=flat a++flat b:=by simp[flat]
def rD(fr:Bool)(R:Rs)(G:St)(cs ds:List IV):Prop:=∀(j:Nat) x d,cs[j]?=aa x->ds[j]?=aa d->bx fr R G x d
def N6{fr:Bool}{x:IV}{s:Nat}{es:List IV}(cj:0<s)(h:bx fr R G x (.tree s es))(a_:fV s es=ab):
 qi x=aa es.length/\∃new,fJ s es.length G x=aa new/\new.length=es.length*s/\rD fr R G new (flat es)/\new.all Ev.ao=ab:=by
 obtain⟨h1,h2⟩:=Di a_;generalize hz:IV.tree s es=z at h;cases h with
 |nil s' bp=>injection hz with a b;subst a b;exact⟨rfl,[],by simp[fJ],by simp,λj x d h=>by simp at h,rfl⟩
 |emp s' bp=>injection hz with a b;subst a b;exact⟨rfl,[],by simp[fJ],by simp,λj x d h=>by simp at h,rfl⟩
 |pure _ hf hp=>
  subst hz;refine⟨rfl,flat es,by simp[fJ,flat],uD h1,λj x d hx hd=>?_,awt.2 h2⟩;rw[hx]at hd;cases hd;refine .pure x hf ?_;obtain⟨e,he,tz⟩:=axq.1 (awq hx);cases hp with|tree _ _ hh=>exact hh e he x tz
 |sl id off len cap ep s' m cs aD mn aT hR aM a1 a2 bp hl hb hm bD hh=>
  injection hz with a b
  subst a b hl
  have agE:rD fr R G ((cs.drop off).take (es.length*s)) (flat es):=by
   intro j x d hx hd;have hj:j<es.length*s:=by have:=(awa.1 hd).1;rw[uD h1]at this;exact this
   rw[awR,if_pos hj,axR]at hx
   have hi:j/s<es.length:=by
    rw[Nat.div_lt_iff_lt_mul cj];exact hj
   have he:es[j/s]?=aa es[j/s]:=av_ hi;have wD:j % s<(cellsOf es[j/s]).length:=by rw[h1 _ (awd hi)];exact Nat.mod_lt _ cj
   have tz:(cellsOf es[j/s])[j % s]?=aa (cellsOf es[j/s])[j % s]:=av_ wD;have hjj:j/s*s+j % s=j:=Nat.div_add_mod' j s;have hf:=Kv h1 he tz;rw[hjj,hd]at hf;cases hf;exact hh _ _ _ x _ he tz (by rw[show off+j/s*s+j % s=off+j by omega];exact hx)
  refine⟨rfl,(cs.drop off).take (es.length*s),?_,by simp;omega,agE,?_⟩
  .simp only[fJ];rw[if_pos ⟨trivial,awe _⟩,aM];simp only;rw[if_pos ⟨a1,a2,by omega⟩]
  .rw[awt];intro c hc;obtain⟨j,hj⟩:=axG hc;have ak:=(awa.1 hj).1;have dY:j<(flat es).length:=by rw[uD h1];simp at ak;omega
   exact(agE j c _ hj (av_ dY)).ao (h2 _ (awd dY))
 |raw v=>cases hz
 |dK=>cases hz
 |agg=>cases hz
 |aF=>cases hz
def TM{L:List (LO SE)}{Γ:Gm SE}(h:J Cx (ax P O) R X Γ L E G){k s:Nat}{st cut fr:Bool}{z:SE}{x:IV}{es:List IV}(hk:L[k]?=aa (.row s st cut fr z))(hz:z.den P O=aa (.tree s es))(hx:cR (ax P O) R X L G x (.sr k)):
 qi x=aa es.length/\∃new,fJ s es.length G x=aa new/\new.length=es.length*s/\rD fr R G new (flat es)/\new.all Ev.ao=ab:=by
 obtain⟨cj,lg,g1,g2,g3⟩:=h.obj k _ hk;have rA:z.den P O=aa (.tree s lg):=g1;rw[hz]at rA;cases rA;obtain⟨s2,st2,aes,fr2,z2,TN,a1,a2,a3⟩:=hx;rw[hk]at a1;cases a1;have AU:z.den P O=aa (.tree s TN):=a2;rw[hz]at AU;cases AU;rcases a3 with⟨_,b2,b3⟩|⟨id,cs,aD,mn,cap,b1,b2,rfl,b4,b5,b6⟩
 .have:es=[]:=awG b2;subst this;rcases b3 with rfl|rfl
  .exact⟨rfl,[],by simp[fJ],by simp,λj x d h=>by simp at h,rfl⟩
  .exact⟨rfl,[],by simp[fJ],by simp,λj x d h=>by simp at h,rfl⟩
 .rcases g3 with⟨g3,_⟩|⟨bt,bG,ko,tD,g3,g4,g5,g6,g7,g8,g9⟩
  .rw[b1]at g3;cases g3
  .rw[b1]at g3;cases g3;rw[b2]at g4;cases g4;refine⟨by simp[qi],cs.take (es.length*s),?_,by simp;omega,λj x d hx hd=>?_,?_⟩
   .simp only[fJ];rw[if_pos ⟨trivial,by simp⟩,b2];simp only;rw[if_pos ⟨g5,awe _,by omega⟩];simp
   .rw[awR]at hx;split at hx
    .exact g9 j x d hx hd
    .cases hx
   .rw[awt]at g8⊢;exactλc hc=>g8 c (axv hc)
def ZE{fr dk:Bool}{cs ds bG pN:List IV}(h:rD fr R G cs ds)(hl:cs.length=ds.length)(h':rD dk R G bG pN):rD (fr||dk) R G (cs++bG) (ds++pN):=by
 intro j x d hx hd;by_cases hj:j<cs.length
 .rw[awp hj]at hx;rw[awp aj]at hd;exact(h j x d hx hd).wide (λh=>by simp[h])
 .rw[awD aj]at hx;rw[awD aj,<-hl]at hd;exact(h' _ x d hx hd).wide (λh=>by simp[h])
variable{L:List (LO SE)}{Γ:Gm SE}
def J.reZ(h:J Cx (ax P O) R X Γ L E G){k s:Nat}{st cut fr dk:Bool}{z z':SE}{es:List IV}(hk:L[k]?=aa (.row s st cut fr z))(hz:z.den P O=aa (.tree s es))(rB:z'.den P O=aa (.tree s es))(hf:fr=ab->dk=ab):
 kL (ax P O) (ax P O) R X L G R X (L.set k (.row s st cut dk z')) G (λ_=>False)/\J Cx (ax P O) R X Γ (L.set k (.row s st cut dk z')) E G:=by
 have eX:=c7 hk;have bg:∀j,j≠k->(L.set k (.row s st cut dk z'))[j]?=L[j]? :=λj hj=>ayo (λhc=>hj hc.symm);have bE:(L.set k (.row s st cut dk z'))[k]?=aa (.row s st cut dk z'):=by simp[eX]
 have hs:kL (ax P O) (ax P O) R X L G R X (L.set k (.row s st cut dk z')) G (λ_=>False):=by
  refine⟨λ_ _ h=>h,iZ.refl h.fits,λj rz hj=>?_,λj kt gu hj=>?_,λj s1 m5 xh wK z1 hj _=>?_,λj c m5 snap hj=>?_⟩
  .by_cases bz:j=k
   .subst bz;rw[hk]at hj;cases hj
   .exact⟨⟨rz,by rw[bg j bz];exact hj⟩,rfl⟩
  .by_cases bz:j=k
   .subst bz;rw[hk]at hj;cases hj
   .exact⟨⟨gu,by rw[bg j bz];exact hj⟩,rfl⟩
  .by_cases bz:j=k
   .subst bz;rw[hk]at hj;cases hj;refine⟨⟨st,dk,z',bE,λgu kZ=>⟨es,rB,?_⟩⟩,rfl,λ_ rz _ D6 _ o_=>⟨rz,D6,o_,rfl,λh=>h⟩⟩;have TF:z.den P O=aa (.tree s gu):=kZ;rw[hz]at TF;cases TF;rfl
   .exact⟨⟨m5,wK,z1,by rw[bg j bz];exact hj,λgu kZ=>⟨gu,kZ,rfl⟩⟩,rfl,λ_ rz _ D6 _ o_=>⟨rz,D6,o_,rfl,λh=>h⟩⟩
  .have bz:j≠k:=λhc=>by subst hc;rw[hk]at hj;cases hj
   exact⟨⟨c,m5,snap,by rw[bg j bz];exact hj⟩,rfl⟩
 refine⟨hs,{h with slot:=λd t pv hg=>(h.slot d t pv hg).step hs pv.aZ,obj:=λj o hj=>?_,lt:=λj id hj=>by simpa using h.lt j id hj}⟩;by_cases bz:j=k
 .subst bz;rw[bE]at hj;cases hj;obtain⟨cj,lg,g1,g2,g3⟩:=h.obj j _ hk;have rA:z.den P O=aa (.tree s lg):=g1;rw[hz]at rA;cases rA;refine⟨cj,es,rB,g2,?_⟩;rcases g3 with g3|⟨bt,bG,ko,tD,g3,g4,g5,g6,g7,g8,g9⟩
  .exact .inl g3
  .exact .inr ⟨bt,bG,ko,tD,g3,g4,g5,g6,g7,g8,λj x d hx hd=>(g9 j x d hx hd).wide hf⟩
 .rw[bg j bz]at hj;exact(h.obj j o hj).step hs rfl (λ_ _=>⟨rfl,rfl⟩) o.aZ
def Xl{G:St}(hw:G.t.WF)(id:Nat)(a b:Ob):(G.put id a).put id b=G.put id b:=by
 unfold St.put
 congr 1
 refine T.WF.ext ((hw.set _ _).set _ _) (hw.set _ _) λi=>?_;simp only[T.gX];split<;>rfl
def AW{s len n:Nat}{new cG:List IV}{x:IV}(h:fJ s len G x=aa cG)(hl:cG.length=len*s):gb s len n new x G=ret (.sl G.n 0 (len+n) ah 0 s) (G.add (.cells (cG++new) 0 0)):=by
 simp[gb,h,hl]
def Ma(h:J Cx (ax P O) R X Γ L E G){k s:Nat}{st cut fr dk:Bool}{z z':SE}{es fs new:List IV}{x:IV}(hk:L[k]?=aa (.row s st cut fr z))(hz:z.den P O=aa (.tree s es))(rB:z'.den P O=aa (.tree s (es++fs)))
 (hx:cR (ax P O) R X L G x (.sr k))(Jp:new.length=fs.length*s)(LM:rD dk R G new (flat fs))(hnc:new.all Ev.ao=ab)(hfs:∀e∈fs,(cellsOf e).length=s)(wL:(st&&cut)=af)
 (P7:∀d t pv,ct d t Γ=aa pv->pv.ok (·=k))(hL:∀j o,L[j]?=aa o->j≠k->o.ok (·=k)):
 ∃x' au R' aU,fj 0 s es.length fs.length new x G=aa (.val x' au)/\J Cx (ax P O) R' aU Γ (L.set k (.row s st cut (dk||fr) z')) E au/\cR (ax P O) R' aU (L.set k (.row s st cut (dk||fr) z')) au x' (.sr k):=by
 obtain⟨cj,lg,g1,g2,g3⟩:=h.obj k _ hk;have rA:z.den P O=aa (.tree s lg):=g1;rw[hz]at rA;cases rA;have eX:=c7 hk;have bE:(L.set k (.row s st cut (dk||fr) z'))[k]?=aa (.row s st cut (dk||fr) z'):=by simp[eX]
 have akA:∀e∈es++fs,(cellsOf e).length=s:=λe he=>(awm.1 he).elim (g2 e) (hfs e);have pV:=hx;obtain⟨s2,st2,aes,fr2,z2,TN,a1,a2,a3⟩:=hx;rw[hk]at a1;cases a1;have AU:z.den P O=aa (.tree s TN):=a2;rw[hz]at AU;cases AU;by_cases ma:fs.length=0
 .have ash:fs=[]:=awG ma;subst ash;rw[aww]at rB;obtain⟨hs,hJ⟩:=h.reZ (dk:=dk||fr) hk hz rB (λh=>by simp[h]);refine⟨x,G,R,X,?_,hJ,pV.step hs (Cl.aZ _)⟩;rcases a3 with⟨_,_,rfl|rfl⟩|⟨id,cs,aD,mn,cap,_,_,rfl,_⟩<;>simp[fj,ret]
 have fresh:∀cG:List IV,cG.length=es.length*s->(∀(j:Nat) x d,cG[j]?=aa x->(flat es)[j]?=aa d->bx fr R G x d)->cG.all Ev.ao=ab->
  ∃R' aU,J Cx (ax P O) R' aU Γ (L.set k (.row s st cut (dk||fr) z')) E (G.add (.cells (cG++new) 0 0))/\cR (ax P O) R' aU (L.set k (.row s st cut (dk||fr) z')) (G.add (.cells (cG++new) 0 0)) (.sl G.n 0 (es.length+fs.length) ah 0 s) (.sr k):=by
  intro cG Qh ho2 ho3
  let R':Rs:=λi=>if i=G.n then(if st then aa ((es++fs).length*s)else ah)else R i
  have hlen:(cG++new).length=(es++fs).length*s:=by simp[Qh,Jp,awU]
  obtain⟨hs,hJ⟩:=h.aka (R':=R') (bad:=(·=k)) (kq:=.row s st cut (dk||fr) z') (fp:=.cells (cG++new) 0 0) hk (λj hj=>by simp[R',hj])
   (λm cs aD mn hm ho=>by
    injection ho with Qh ho2 ho3
    subst Qh;simp only[R',if_true]at hm;split at hm
    .cases hm;rw[hlen];exact awe _
    .cases hm)
   ⟨_,_,_,_,_,rfl⟩ rfl P7 hL
   (λhs=>⟨cj,es++fs,rB,akA,.inr ⟨G.n,cG++new,0,0,by simp[bT],by simp,awe _,by rw[hlen];exact awe _,by simp[R'],by rw[azR,ho3,hnc];rfl,λj x d hx hd=>by
    rw[TL]at hd;have hc:=ZE ho2 (by rw[Qh,uD g2]) LM j x d hx hd;rw[Bool.or_comm]at hc;exact hc.mono hs.grow⟩⟩)
  refine⟨R',bT X k G.n,hJ,s,st,cut,dk||fr,z',es++fs,bE,rB,.inr ⟨G.n,cG++new,0,0,ah,by simp[bT],by simp,by simp,aw5 _,λ_ _=>hlen.symm,λc hc=>by cases hc⟩⟩
 rcases a3 with⟨b1,b2,b3⟩|⟨id,cs,aD,mn,cap,b1,b2,rfl,b4,b5,b6⟩
 .have Mb:es=[]:=awG b2;subst Mb;obtain⟨R',aU,hJ,hV⟩:=fresh [] ay (λj x d h=>by simp at h) rfl;refine⟨_,_,R',aU,?_,hJ,hV⟩;rcases b3 with rfl|rfl
  .simp only[fj];rw[if_pos ⟨trivial,trivial⟩,if_neg ma,AW (cG:=[]) (by simp[fJ]) ay];rfl
  .simp only[fj];rw[if_neg ma,AW (cG:=[]) (by simp[fJ]) ay];rfl
 .rcases g3 with⟨g3,_⟩|⟨bt,bG,ko,tD,g3,g4,g5,g6,g7,g8,g9⟩
  .rw[b1]at g3;cases g3
  rw[b1]at g3;cases g3;rw[b2]at g4;cases g4
  have hold:fJ s es.length G (.sl id (0*s) (es.length- 0) cap aD s)=aa (cs.take (es.length*s)):=by
   simp only[fJ];rw[if_pos ⟨trivial,by simp⟩,b2];simp only;rw[if_pos ⟨g5,awe _,by omega⟩];simp
  have RF:(cs.take (es.length*s)).length=es.length*s:=by simp;omega
  have aoq:∀(j:Nat) x d,(cs.take (es.length*s))[j]?=aa x->(flat es)[j]?=aa d->bx fr R G x d:=λj x d hx hd=>by
   rw[awR]at hx;split at hx
   .exact g9 j x d hx hd
   .cases hx
  have agF:(cs.take (es.length*s)).all Ev.ao=ab:=by
   rw[awt]at g8⊢;exactλc hc=>g8 c (axv hc)
  have N7:∀(ob:List IV) (vL GB:Nat),(R id=ah\/(GB=mn/\aD<=vL))->GB<=vL->(∀j,j<es.length*s->ob[j]?=cs[j]?)->(∀j,j<new.length->ob[es.length*s+j]?=new[j]?)->(es++fs).length*s<=ob.length->ob.all Ev.ao=ab->
   ∀TO,(TO=ah->cut=af->(es++fs).length*s=ob.length)->(∀c,TO=aa c->GB=vL/\c*s<=ob.length/\(es++fs).length<=c)->
   ∃R',J Cx (ax P O) R' X Γ (L.set k (.row s st cut (dk||fr) z')) E (G.put id (.cells ob vL GB))/\cR (ax P O) R' X (L.set k (.row s st cut (dk||fr) z')) (G.put id (.cells ob vL GB)) (.sl id 0 (es.length+fs.length) TO vL s) (.sr k):=by
   intro ob vL GB hRm WR akB asi akC asj TO aor ZF
   let R':Rs:=λi=>if i=id then(if st then aa ((es++fs).length*s)else ah)else R i
   have E8:R id=if st then aa (es.length*s)else ah:=g7
   obtain⟨hs,hJ⟩:=h.tE (R':=R') (bad:=(·=k)) (kq:=.row s st cut (dk||fr) z') (fp:=.cells ob vL GB) b1 hk (λj hj=>by simp[R',hj])
    (λm hm=>by
     rw[E8]at hm;split at hm
     .rename_i cy;cases hm;exact⟨(es++fs).length*s,by simp[R',cy],awL s ay⟩
     .cases hm)
    (λm rz E9 D6 hm aM=>by
     rw[b2]at aM;cases aM;rcases hRm with hRm|⟨rfl,hle⟩
     .rw[hRm]at hm;cases hm
     .rw[E8]at hm;split at hm
      .cases hm;exact⟨ob,vL,rfl,hle,akB⟩
      .cases hm)
    (λm rz E9 D6 hm ho=>by
     injection ho with Qh _ _
     subst Qh;simp only[R',if_true]at hm;split at hm
     .cases hm;exact akC
     .cases hm)
    (λcs h=>by cases h) (λkt es h=>by cases h) (λ_ _ _ _ _ _=>rfl) P7 hL
    (λhs=>⟨cj,es++fs,rB,akA,.inr ⟨id,ob,vL,GB,b1,by rw[St.cW,if_pos rfl],WR,akC,by simp[R'],asj,λj x d hx hd=>by
     rw[TL]at hd;have hfl:=uD g2;by_cases hj:j<es.length*s
     .rw[awp aj]at hd;rw[akB j hj]at hx;exact((g9 j x d hx hd).wide (λh=>by simp[h])).mono hs.grow
     .rw[awD aj,hfl]at hd
      have BE:j- es.length*s<new.length:=by
       have:=(awa.1 hd).1;rw[uD hfs]at this;omega
      rw[show j=es.length*s+(j- es.length*s) by omega,asi _ BE]at hx;exact((LM _ x d hx hd).wide (λh=>by simp[h])).mono hs.grow⟩⟩)
   exact⟨R',hJ,s,st,cut,dk||fr,z',es++fs,bE,rB,.inr ⟨id,ob,vL,GB,TO,b1,by rw[St.cW,if_pos rfl],by simp,aw5 _,aor,λc hc=>⟨(ZF c hc).1,by simpa using(ZF c hc).2.1,by simpa using(ZF c hc).2.2⟩⟩⟩
  have ZH:(es++fs).length*s=es.length*s+fs.length*s:=by simp[awU]
  cases cap with
  |some c=>
   obtain⟨e1,e2,e3⟩:=b6 c rfl;by_cases vn:es.length+fs.length<=c
   .have av2:es.length*s+fs.length*s<=cs.length:=by
     have:(es.length+fs.length)*s<=c*s:=awL s vn;rw[awU]at this;omega
    obtain⟨R',hJ,hV⟩:=N7 (eG cs (es.length*s) new) aD aD (.inr ⟨e1.symm,awe _⟩) (awe _)
     (λj hj=>by rw[r_ (α:=IV) aj,if_neg aj])
     (λj hj=>by rw[r_ (α:=IV) aj,if_pos aj];congr 1;omega)
     (by rw[zH aj];omega) (Fa g8 hnc) (aa c) (λh=>by cases h) (λc' pM=>by cases pM;exact⟨rfl,by rw[zH aj];omega,by simpa using vn⟩)
    refine⟨_,_,R',X,?_,hJ,hV⟩;simp only[fj];rw[if_neg ay,if_neg ma];simp only[b2,azG,ay8,axo];rw[if_pos vn,if_pos ⟨aw5 _,trivial,by rw[awU];omega⟩];rfl
   .obtain⟨R',aU,hJ,hV⟩:=fresh _ RF aoq agF;refine⟨_,_,R',aU,?_,hJ,hV⟩;simp only[fj];rw[if_neg ay,if_neg ma];simp only[azG];rw[if_neg vn,AW (by simpa using hold) RF];rfl
  |none=>
   by_cases TP:es.length*s=cs.length
   .obtain⟨R',hJ,hV⟩:=N7 (cs++new) (aD+1) mn (.inr ⟨rfl,by omega⟩) aj
     (λj hj=>by rw[awp aj])
     (λj hj=>by rw[awD aj];congr 1;omega)
     (by rw[ZH,awi];omega) (by rw[azR,g8,hnc];rfl) ah (λ_ _=>by rw[ZH,awi];omega) (λc h=>by cases h)
    refine⟨_,_,R',X,?_,hJ,hV⟩;simp only[fj];rw[if_neg ay,if_neg ma];simp only[b2,azG,ay8];rw[if_pos ⟨aw5 _,trivial,trivial,TP⟩];rfl
   .have TQ:cut=ab:=by
     cases hc:cut with
     |true=>rfl
     |false=>exact absurd (b5 rfl hc) TP
    have cy:st=af:=by rw[TQ]at wL;simpa using wL
    obtain⟨R',hJ,hV⟩:=N7 (cs.take (es.length*s)++new) (aD+1+1) (aD+1) (.inl (by rw[g7,cy];rfl)) aj
     (λj hj=>by rw[awp aj,awR,if_pos hj])
     (λj hj=>by rw[awD aj,RF];congr 1;omega)
     (by rw[ZH,awi,RF];omega) (by rw[azR,agF,hnc];rfl) ah (λ_ h=>by rw[TQ]at h;cases h) (λc h=>by cases h)
    refine⟨.sl id 0 (es.length+fs.length) ah (aD+1+1) s,(G.put id (.cells (cs.take (es.length*s)) (aD+1) (aD+1))).put id (.cells (cs.take (es.length*s)++new) (aD+1+1) (aD+1)),R',X,?_,?_,?_⟩
    .simp only[fj];rw[if_neg ay,if_neg ma];simp only[b2,azG,ay8];rw[if_neg (λhc=>TP hc.2.2.2),if_pos ⟨aw5 _,trivial,trivial,g6⟩];rfl
    .rw[Xl h.wf];exact hJ
    .rw[Xl h.wf];exact hV
theorem i_(h:J Cx (ax P O) R X V.g V.l E G)(d:Nat):∀(ops:List Operand) (ts:List TypeId),All2 (VR (ax P O) R X V.l G) (ops.map (aB (E d))) (jX P d V ops ts)
 |[],_=>trivial
 |x::xs,t::ts=>⟨bw h d t x,i_ h d xs ts⟩
 |x::xs,[]=>⟨bw h d 0 x,i_ h d xs []⟩
def xi{α β:Type}{r:α->β->Prop}{as:List α}{b:β}(h:All2 r as [b]):∃a,as=[a]/\r a b:=by
 cases as with
 |nil=>exact h.elim
 |cons a as=>
  cases as with
  |nil=>exact⟨a,rfl,h.1⟩
  |cons a' as=>exact h.2.elim
def Ky{α β:Type}{r:α->β->Prop}{as:List α}{b c:β}(h:All2 r as [b,c]):∃a a',as=[a,a']/\r a b/\r a' c:=by
 cases as with
 |nil=>exact h.elim
 |cons a as=>
  obtain⟨a',rfl,h'⟩:=xi h.2;exact⟨a,a',rfl,h.1,h'⟩
def Cl.AX{x:IV}{c:Cl SE}(h:cR (ax P O) R X L G x c):c.ok (·=L.length):=by
 cases c with
 |sr k=>obtain⟨_,_,_,_,_,_,h1,_⟩:=h;exactλhc=>by have:=c7 h1;omega
 |sv k lo=>obtain⟨_,_,_,_,_,_,_,_,h1,_⟩:=h;exactλhc=>by have:=c7 h1;omega
 |pr k i off ext=>obtain⟨_,_,_,_,_,_,_,_,_,_,_,_,h1,_⟩:=h;exactλhc=>by have:=c7 h1;omega
 |_=>trivial
def Fb{xs:List IV}{cs:List (Cl SE)}(h:All2 (cR (ax P O) R X L G) xs cs):∀c∈cs,c.ok (·=L.length):=by
 intro c hc;obtain⟨i,hi⟩:=axG hc;obtain⟨a,_,ha⟩:=h.Db hi;exact Cl.AX ha
theorem PV.AX{x:IV}{pv:PV SE}(h:VR (ax P O) R X L G x pv):pv.ok (·=L.length):=by
 cases pv with
 |one c=>exact Cl.AX (c:=c) h
 |ag cs=>obtain⟨xs,_,h2⟩:=h;exact Fb h2
 |tu vs=>
  obtain⟨xs,_,h2⟩:=h;intro p hp c hc;obtain⟨i,hi⟩:=axG hp;obtain⟨a,_,ha⟩:=h2.Db hi;unfold vA at ha;split at ha
  .obtain⟨ys,_,h3⟩:=ha;exact Fb h3 c hc
  .obtain⟨c',h3,h4⟩:=ha;rw[h3]at hc;simp at hc;subst hc;exact Cl.AX h4
def OR.AX{j:Nat}{ob:LO SE}(h:OR Cx (ax P O) R X L G j ob):ob.ok (·=L.length):=by
 cases ob with
 |var cs=>obtain⟨_,_,_,_,_,h4⟩:=h;exact Fb h4
 |_=>trivial
def xj(h:J Cx (ax P O) R X Γ L E G){j:Nat}(hj:L.length<=j):X j=ah:=by
 cases hf:X j with
 |none=>rfl
 |some id=>have:=(h.lt _ _ hf).1;omega
def J.Aq(h:J Cx (ax P O) R X Γ L E G){s:Nat}{fr:Bool}{z:SE}(hs:0<s)(hz:z.den P O=aa (.tree s [])):kL (ax P O) (ax P O) R X L G R X (L++[.row s af af fr z]) G (λ_=>False)/\J Cx (ax P O) R X Γ (L++[.row s af af fr z]) E G:=by
 have hL:∀j o,L[j]?=aa o->(L++[.row s af af fr z])[j]?=aa o:=λj o hj=>by rw[awp (c7 hj)];exact hj
 have hc:kL (ax P O) (ax P O) R X L G R X (L++[.row s af af fr z]) G (λ_=>False):=
  .mk' (λ_ _ h=>h) (iZ.refl h.fits) (λj cs hj=>⟨⟨cs,hL j _ hj⟩,rfl⟩) (λj kt es hj=>⟨⟨es,hL j _ hj⟩,rfl⟩) (λj s st cut fr z hj _=>⟨⟨st,hL j _ hj⟩,rfl,λ_ _=>rfl⟩) (λj c st snap hj=>⟨⟨c,st,snap,hL j _ hj⟩,rfl⟩)
 refine⟨hc,{h with slot:=λd t pv hg=>(h.slot d t pv hg).step hc pv.aZ,obj:=λj o hj=>?_,lt:=λj id hj=>by have:=h.lt j id hj;simp;omega}⟩;by_cases pS:j<L.length
 .rw[awp pS]at hj;exact(h.obj j o hj).step hc rfl (λ_ _=>⟨rfl,rfl⟩) o.aZ
 .have:j=L.length:=by have:=c7 hj;simp at this;omega
  subst this;simp at hj;subst hj;exact⟨hs,[],hz,λe he=>(by cases he),.inl ⟨xj h (awe _),rfl⟩⟩
def Xm{s bytes:Nat}{e f:SE}{z:IV}(h:(SE.cat s bytes e f).den P O=aa z):∃es fs,e.den P O=aa (.tree s es)/\f.den P O=aa (.tree s fs)/\0<s/\fV s fs=ab/\(4*(es.length+fs.length)+4096)*bytes<=2 ^47/\es.length+fs.length<=2 ^40/\z=.tree s (es++fs):=by
 simp only[SE.den,awx]at h;obtain⟨a,h1,b,h2,h3⟩:=h;unfold dg at h3;split at h3
 .split at h3
  .rename_i hc;obtain⟨rfl,rfl,c1,c2,c3,c4⟩:=hc;cases h3;exact⟨_,_,h1,h2,c1,c2,c3,c4,rfl⟩
  .cases h3
 .cases h3
def ZI{fr:Bool}{new ds:List IV}(h:rD ab R G new ds)(hd:∀d∈ds,aN d=ab):rD af R G new ds:=by
 intro j x e hx he;have hr:=hd e (awq he);have:=h j x e hx he;unfold aN at hr;split at hr
 .rw[cA this];exact .raw _
 .cases hr
def Hw(hJ:J Cx (ax P O) R X V.g V.l E G){et:TypeId}{s:Nat}{base c:Cl SE}{fr raw:Bool}{es:SE}{x:IV}{fs:List IV}(ha:r9 P V et s base c=aa (fr,es,raw))(hx:cR (ax P O) R X V.l G x c)(jR:es.den P O=aa (.tree s fs))(cj:0<s)(a_:fV s fs=ab)
 (jM:raw=ab->(∃z,(SE.rws es).den P O=aa z)):
 qi x=aa fs.length/\∃new,fJ s fs.length G x=aa new/\new.length=fs.length*s/\rD fr R G new (flat fs)/\new.all Ev.ao=ab:=by
 cases c with
 |sr j=>
  simp only[r9]at ha;split at ha
  .rename_i s' st cut dk aT hj;split at ha
   .rename_i hc;simp only[awb,awV]at hc;simp only[awf,awM]at ha;obtain⟨rfl,rfl,rfl⟩:=ha;obtain⟨rfl,_⟩:=hc;exact TM hJ hj jR hx
   .cases ha
  .cases ha
 |nl b s'=>
  simp only[r9,awf,awM]at ha;obtain⟨rfl,rfl,rfl⟩:=ha
  have:fs=[]:=by
   simp only[SE.den,awc]at jR;split at jR<;>cases jR;rfl
  subst this;obtain⟨_,rfl⟩:=hx;refine⟨by cases b<;>rfl,[],?_,by simp,λj x d h=>by simp at h,rfl⟩;cases b<;>simp[fJ]
 |w f z=>
  simp only[r9,awf,awM]at ha;obtain⟨rfl,rfl,rfl⟩:=ha;obtain⟨y,h1,h2,_⟩:=hx;have dh:z.den P O=aa y:=h1;rw[jR]at dh;cases dh;exact N6 cj h2 a_
 |v z=>
  obtain⟨y,h1,h2,_⟩:=hx;have dh:z.den P O=aa y:=h1;simp only[r9]at ha;split at ha
  .simp only[awf,awM]at ha;obtain⟨rfl,rfl,rfl⟩:=ha;rw[jR]at dh;cases dh;obtain⟨a1,new,a2,a3,a4,a5⟩:=N6 cj (h2.mono hJ.B_) a_;refine⟨a1,new,a2,a3,ZI (fr:=ab) a4 λe he=>?_,a5⟩;obtain⟨q,hq⟩:=jM rfl;simp only[SE.den,jR,awc]at hq;split at hq
   .rename_i bS;rw[awt]at bS;obtain⟨el,oF,asl⟩:=axq.1 he;exact awt.1 (bS el oF) e asl
   .cases hq
  .simp only[awf,awM]at ha;obtain⟨rfl,rfl,rfl⟩:=ha;rw[jR]at dh;cases dh;exact N6 cj (h2.mono hJ.B_) a_
 |un|pt|tp|tw|sv|pr|mp|fn|yl=>simp[r9]at ha
def Mc{d t k:Nat}{pv:PV SE}{g:Gm SE}(h:ct d t (LR k g)=aa pv):pv.ok (·=k):=by
 obtain⟨q,_,rfl⟩:=Hc g h;exact q.oD k
variable(hJ:J Cx (ax P O) R X V.g V.l E G)(hn:O.length=V.n)
include hJ hn
theorem ZJ{et:TypeId}{bytes s:Nat}{base c:Cl SE}{fr raw:Bool}{es:SE}{x0 x1:IV}(hb:cR (ax P O) R X V.l G x0 base)(hc:cR (ax P O) R X V.l G x1 c)(ha:r9 P V et s base c=aa (fr,es,raw))(jM:raw=ab->(∃z,(SE.rws es).den P O=aa z))
 (hs:(D1 bytes s base fr es V k).sat P C Q K O):
 dm Cx P C Q K O E V.ln k (λv av=>∃m n new,qi x0=aa m/\qi x1=aa n/\fJ s n G x1=aa new/\new.length=n*s/\new.all Ev.ao=ab/\(4*(m+n)+4096)*bytes<=2 ^47/\m+n<=2 ^40/\fj 0 s m n new x0 G=aa (.val v av)):=by
 unfold D1 at hs;split at hs
 .rename_i b s';split at hs
  .rename_i lQ;have Dh:=awk lQ;subst Dh;obtain⟨z,h1,h2,hv,bH,dW⟩:=vN hJ hn hs;obtain⟨e0,fs,c1,c2,c3,c4,c5,c6,rfl⟩:=Xm h1
   have Mb:e0=[]:=by
    simp only[SE.den,awc]at c1;split at c1<;>cases c1;rfl
   subst Mb;obtain⟨a1,new,a2,a3,a4,a5⟩:=Hw hJ ha hc c2 c3 c4 jM;obtain⟨_,pV⟩:=hb;have qX:(SE.tr s SE.an).den P (O++[IV.tree s ([]++fs)])=aa (.tree s []):=by simp[SE.den,c3]
   obtain⟨Gq,fg⟩:=bH.Aq (fr:=af) c3 qX;have oj:(V.l++[LO.row s af af af (SE.tr s SE.an)])[V.l.length]?=aa (.row s af af af (SE.tr s SE.an)):=by simp
   obtain⟨x',au,R',aU,b1,b2,b3⟩:=Ma fg (dk:=fr) (z':=.var V.n) (x:=x0) oj qX hv ⟨s,af,af,af,_,[],oj,qX,.inl ⟨xj hJ (awe _),rfl,by subst pV;cases b<;>simp⟩⟩
    a3 a4 a5 (Di c4).1 rfl (λd t pv hg=>PV.AX (bH.slot d t pv hg)) (λj o hj bg=>by
     have pS:j<V.l.length:=by have:=c7 hj;simp at this;omega
     rw[awp pS]at hj;exact OR.AX (bH.obj j o hj))
   have Dd:(V.l++[LO.row s af af af (SE.tr s SE.an)]).set V.l.length (.row s af af (fr||af) (.var V.n))=V.l++[LO.row s af af fr (.var V.n)]:=by simp
   rw[Dd]at b2 b3;refine⟨x',au,R',aU,.one (.sr V.l.length),{V with n:=V.n+1,l:=V.l++[.row s af af fr (.var V.n)]},[.tree s ([]++fs)],⟨0,fs.length,new,by subst pV;cases b<;>rfl,a1,a2,a3,a5,c5,c6,b1⟩,b2,b3,dW,rfl,h2⟩
  .exact hs.elim
 .rename_i j;split at hs
  .rename_i s' st cut dk aT hj;split at hs
   .rename_i cn;simp only[awb,awV,awX]at cn;obtain⟨rfl,wL⟩:=cn;obtain⟨z,h1,h2,hv,bH,dW⟩:=vN hJ hn hs;obtain⟨e0,fs,c1,c2,c3,c4,c5,c6,rfl⟩:=Xm h1;obtain⟨a1,new,a2,a3,a4,a5⟩:=Hw hJ ha hc c2 c3 c4 jM
    have hm:qi x0=aa e0.length:=by
     have:=TM hJ hj c1 hb;exact this.1
    have cB:cR (ax P (O++[.tree s (e0++fs)])) R X V.l G x0 (.sr j):=by
     have hbv:VR (ax P O) R X V.l G x0 (.one (.sr j)):=hb;exact VR.up hJ hbv (λe z h=>SE.dw P e h)
    have fg:=bH.Y8 j;have hjd:(V.l.map (LO.drop j))[j]?=aa (.row s st cut dk aT):=by simp[awu,hj,LO.drop]
    have dv:cR (ax P (O++[.tree s (e0++fs)])) R X (V.l.map (LO.drop j)) G x0 (.sr j):=cB.step (Kj bH j) (Cl.aZ _)
    obtain⟨x',au,R',aU,b1,b2,b3⟩:=Ma fg (dk:=fr) (z':=.var V.n) (x:=x0) hjd (SE.dw P aT c1) hv dv a3 a4 a5 (Di c4).1 wL (λd t pv hg=>Mc hg) (λi o hi bg=>by
     rw[awu]at hi;obtain⟨o',_,rfl⟩:=awj.1 hi;exact o'.oD j)
    refine⟨x',au,R',aU,.one (.sr j),((({V with n:=V.n+1}:SS).u7 j).setObj j (.row s st cut (fr||dk) (.var V.n))),[.tree s (e0++fs)],⟨e0.length,fs.length,new,hm,a1,a2,a3,a5,c5,c6,b1⟩,b2,b3,dW,rfl,h2⟩
   .exact hs.elim
  .exact hs.elim
 .exact hs.elim
end
section
variable{Cx:Cs}
variable{P:Program}{N:Nat}{G au:St}{R R':Rs}{X aU:Ph}{E:Nat->Env}{O:List IV}
variable{C:Cr}{Q:IV->Prop}{K:List (List IV->Prop)}{V:SS}{d:Nat}{o:Oper}{k:PV SE->SS->aq}{L:List (LO SE)}{Γ:Gm SE}
def qc{t et:TypeId}(h:elemOf P t=aa et):P.underlying t=aa (.slice et):=by
 unfold elemOf at h;split at h
 .rename_i e he;cases h;exact he
 .cases h
def IQ{e:SE}{z:IV}(h:(SE.len e).den P O=aa z):∃s es,e.den P O=aa (.tree s es)/\z=.int es.length:=by
 simp only[SE.den,awx]at h;obtain⟨a,h1,h2⟩:=h;unfold Hq at h2;split at h2
 .cases h2;exact⟨_,_,h1,rfl⟩
 .cases h2
def aet{e:SE}{z:IV}(h:(SE.uy e).den P O=aa z):∃b,e.den P O=aa (.raw (.string b))/\z=.int b.size:=by
 simp only[SE.den,awx]at h;obtain⟨a,h1,h2⟩:=h;unfold Ao at h2;split at h2
 .cases h2;exact⟨_,h1,rfl⟩
 .cases h2
def ail{fr:Bool}{x:IV}{s:Nat}{es:List IV}{ts:Array TypeId}{el:TypeId}(hu:(ts[0]?).bind P.underlying=aa (.slice el))(h:bx fr R G x (.tree s es)):qj P ts x G=aa (.int es.length):=by
 generalize hz:IV.tree s es=z at h;cases h with
 |nil s' bp=>injection hz with a b;subst a b;simp[qj,hu]
 |emp s' bp=>injection hz with a b;subst a b;simp[qj,hu]
 |pure _ hf hp=>subst hz;simp[qj,hu]
 |sl id off len cap ep s' m cs aD mn aT hR aM a1 a2 bp hl hb hm bD hh=>injection hz with a b;subst a b hl;simp[qj,hu]
 |raw v=>cases hz
 |dK=>cases hz
 |agg=>cases hz
 |aF=>cases hz
variable(hJ:J Cx (ax P O) R X V.g V.l E G)(hn:O.length=V.n)
include hJ hn
theorem aim{c:Call}(ho:o.op=.call c)(hc:c.callee=.builtin .len)(hs:(gH P d o V k).sat P C Q K O):dm Cx P C Q K O E V.ln k (bQ P E d o G):=by
 unfold gH at hs;rw[ho]at hs;simp only[hc]at hs;have bJ:=i_ hJ d c.args.toList c.argTypes.toList;split at hs<;>first|(exact hs.elim)|(exact(‹aA_=aA_->False› rfl).elim)|skip
 all_goals first|(rename_i hb _;cases hb;done)|skip
 rename_i pv _ hh;rw[hh]at bJ;obtain⟨x,hx,hr⟩:=xi bJ
 have fv:∀v,qj P c.argTypes x G=aa v->aA P 0 (aB (E d)) o G=aa (.val v G):=by
  intro v hv;simp[aA,ho,hc,fk,hx,hv]
 split at hs
 .rename_i hu
  have main:∀a:SE,(∀y,a.den P O=aa y->bx ab R G x y)->(vk (.uy a) V k).sat P C Q K O->dm Cx P C Q K O E V.ln k (bQ P E d o G):=by
   intro a ha hs;obtain⟨⟨z,hz⟩,hk⟩:=hs;obtain⟨b,h1,rfl⟩:=aet hz;have:=cA (ha _ h1);exact .at (x:=.int b.size) hk hJ hn rfl ⟨_,hz,.raw _,rfl⟩ (fv _ (by simp[qj,hu,this]))
  split at hs
  .rename_i z;obtain⟨y,h1,h2,_⟩:=hr;exact main z (λy' hy=>by have dh:z.den P O=aa y:=h1;rw[hy]at dh;cases dh;exact h2.mono hJ.B_) hs
  .rename_i f z;obtain⟨y,h1,h2,_⟩:=hr;exact main z (λy' hy=>by have dh:z.den P O=aa y:=h1;rw[hy]at dh;cases dh;exact h2.cG) hs
  .exact hs.elim
 .rename_i el hu
  have main:∀a:SE,(∀y,a.den P O=aa y->bx ab R G x y)->(vk (.len a) V k).sat P C Q K O->dm Cx P C Q K O E V.ln k (bQ P E d o G):=by
   intro a ha hs;obtain⟨⟨z,hz⟩,hk⟩:=hs;obtain⟨s,es,h1,rfl⟩:=IQ hz;exact .at (x:=.int es.length) hk hJ hn rfl ⟨_,hz,.raw _,rfl⟩ (fv _ (ail hu (ha _ h1)))
  split at hs
  .rename_i z;obtain⟨y,h1,h2,_⟩:=hr;exact main z (λy' hy=>by have dh:z.den P O=aa y:=h1;rw[hy]at dh;cases dh;exact h2.mono hJ.B_) hs
  .rename_i f z;obtain⟨y,h1,h2,_⟩:=hr;exact main z (λy' hy=>by have dh:z.den P O=aa y:=h1;rw[hy]at dh;cases dh;exact h2.cG) hs
  .rename_i b s;obtain⟨_,h2⟩:=hr;exact .at (x:=.int 0) hs hJ hn rfl ⟨_,rfl,.raw _,rfl⟩ (fv _ (by subst h2;cases b<;>simp[qj,hu]))
  .rename_i j;split at hs
   .rename_i s st cut fr es hj;obtain⟨⟨z,hz⟩,hk⟩:=hs;obtain⟨s',aT,h1,rfl⟩:=IQ hz
    have lQ:s'=s:=by
     obtain⟨_,lg,g1,_⟩:=hJ.obj j _ hj;have rA:es.den P O=aa (.tree s lg):=g1;rw[h1]at rA;cases rA;rfl
    subst lQ;obtain⟨hl,_⟩:=TM hJ hj h1 hr;refine .at (x:=.int aT.length) hk hJ hn rfl ⟨_,hz,.raw _,rfl⟩ (fv _ ?_);obtain⟨s2,st2,aes,fr2,z2,TN,a1,a2,a3⟩:=hr;rw[hj]at a1;cases a1;have AU:es.den P O=aa (.tree s' TN):=a2;rw[h1]at AU;cases AU;rcases a3 with⟨_,b2,rfl|rfl⟩|⟨id,cs,aD,mn,cap,_,_,rfl,_⟩
    .simp[qj,hu,b2]
    .simp[qj,hu,b2]
    .simp[qj,hu]
   .exact hs.elim
  .exact hs.elim
 .rename_i kt0 et0 hu;split at hs<;>try exact hs.elim
  rename_i j;split at hs<;>try exact hs.elim
  rename_i kt lW hj;split at hs
  .exact hs.elim
  rename_i hk;have fO:¬mO kt=ab:=hk;obtain⟨⟨z,hz⟩,yd⟩:=hs;obtain⟨id,oZ,lg,g1,g2,g3⟩:=hr;rw[hj]at g2;cases g2;rw[if_neg fO]at g3;have eK:=hJ.obj j _ hj;rw[lA,if_neg fO]at eK;obtain⟨bt,es,clock,ds,c1,c2,c3,c4,c5,c6⟩:=eK;rw[g1]at c2;cases c2;have oM:lW.den P O=aa (.aF ds):=c1
  have Hv:z=.int ds.length:=by
   simp only[SE.den,oM,awc,jK,if_true,awf]at hz;exact hz.symm
  subst Hv;have hlen:es.length=ds.length:=All2.len c5;exact .at (x:=.int es.length) yd hJ hn rfl ⟨_,hz,by rw[hlen];exact .raw _,rfl⟩ (fv _ (by subst g3;simp[qj,hu,c4]))
 .exact hs.elim
omit hJ hn in
theorem abH{t:TypeId}{e:SE}(h:E4 P t=aa e):∃v,cZ P t=aa v/\e.den P O=aa (.raw v)/\v.cells= #[v]:=by
 unfold E4 at h;split at h<;>first|(cases h;exact⟨_,‹_›,rfl,rfl⟩)|cases h
theorem aeu{c:Call}{x0 x1:IV}{t0 t1 et:TypeId}{base ca:Cl SE}(ho:o.op=.call c)(hc:c.callee=.builtin .append)(hx:c.args.toList.map (aB (E d))=[x0,x1])(Xn:c.argTypes[0]?=aa t0)(Qi:c.argTypes[1]?=aa t1)(het:elemOf P t0=aa et)
 (DT:VR (ax P O) R X V.l G x0 (.one base))(vP:VR (ax P O) R X V.l G x1 (.one ca))(hs:(Zr P et t1 base ca V k).sat P C Q K O):dm Cx P C Q K O E V.ln k (bQ P E d o G):=by
 unfold Zr at hs;split at hs<;>try exact hs.elim
 rename_i qk s n yj;split at hs<;>try exact hs.elim
 rename_i s' z ze bytes bf tH hze Hx;split at hs<;>try exact hs.elim
 rename_i cn;simp only[awb]at cn;obtain⟨⟨⟨⟨h1,h2⟩,h3⟩,h4⟩,h5⟩:=cn;have dh:=awk h1;have wH:=awk h2;subst dh wH;have JF:bytes<=1000000:=by simpa using h3
 obtain⟨v,e1,e2,e3⟩:=abH (O:=O) hze;rw[tH]at e1;cases e1;obtain⟨y,hy,hk⟩:=hs;simp only[SE.den,awx]at hy;obtain⟨nv,n1,zv,n2,n3⟩:=hy;rw[e2]at n2;cases n2;obtain⟨y',y1,y2,_⟩:=vP;have Qj:n.den P O=aa y':=y1;rw[n1]at Qj;cases Qj
 obtain⟨q,m,rfl,m1,m2,hq,rfl⟩:∃q m,nv=.raw (.int q m)/\1<=m/\m<=1000000/\(q==awK)=ab/\y=.tree 1 (awE m.toNat (.raw z)):=by
  unfold jK at n3;split at n3
  .split at n3<;>cases n3
  .rw[if_neg (λh=>absurd h.1 (by decide))]at n3;split at n3
   .rename_i hh;cases n3;exact⟨_,_,rfl,hh.2.1,hh.2.2.1,hh.2.2.2.1,rfl⟩
   .rw[if_neg (λh=>absurd h.1 (by decide))]at n3;cases n3
  .rw[if_neg (by decide)]at n3;cases n3
  .rw[if_neg (by decide)]at n3;cases n3
  .cases n3
 have rj:q=.i64:=by simpa using hq
 subst rj;have BM:=cA y2;obtain⟨_,pV⟩:=DT;simp only[if_true]at pV
 have Qk:lu (z.cells.toList.map .raw) (m.toNat*1)=awE m.toNat (.raw z):=by
  simp[lu,e3]
 have a_:Ev.ao (.raw z)=ab:=by simpa[e3]using h5
 have nL:(SE.var V.n).den P (O++[.tree 1 (awE m.toNat (.raw z))])=aa (.tree 1 (awE m.toNat (.raw z))):=by simp[SE.den,<-hn]
 have bH:=hJ.up (jj:=ax P (O++[.tree 1 (awE m.toNat (.raw z))])) (λe y h=>SE.dw P e h)
 have fg:=bH.yS (.cells (awE m.toNat (.raw z)) 0 0) (.row 1 af af af (.var V.n)) ⟨by omega,_,nL,λe he=>(by rw[axl he];rfl),.inr ⟨G.n,(awE m.toNat (.raw z)),0,0,by simp[bT],by simp,awe _,by simp,hJ.ra,awt.2 λx hx=>(by rw[axl hx];exact a_),λj x d hx hd=>by
  have jQ:=axl (awq hx)
  have wF:d=.raw z:=by
   have hm:=awq hd;unfold flat at hm;obtain⟨e,he,TR⟩:=axq.1 hm;rw[axl he]at TR;simpa[cellsOf]using TR
  rw[jQ,wF];exact .raw _⟩⟩
 refine⟨.sl G.n 0 m.toNat ah 0 1,_,R,_,.one (.sr V.l.length),{V with n:=V.n+1,l:=V.l++[.row 1 af af af (.var V.n)]},[.tree 1 (awE m.toNat (.raw z))],?_,fg,
  ⟨1,af,af,af,_,_,by simp,nL,.inr ⟨G.n,(awE m.toNat (.raw z)),0,0,ah,by simp[bT],by simp,by simp,aw5 _,λ_ _=>by simp,λc hc=>by cases hc⟩⟩,by simp[hn],rfl,hk⟩
 have ye:m.toNat≠0:=aj;simp only[bQ,aA,ho,hc,fk,hx,l6,Xn,Qi,qc het,yj,bf,tH,Hx,uT,BM,pV];rw[if_neg (by simp[e3]),if_pos ⟨by omega,by omega⟩];simp only[qi];rw[Qk];simp only[if_true]
 rw[if_pos ⟨by simp,awt.2 λx hx=>(by rw[axl hx];exact a_),by
    have:(4*(0+m.toNat)+4096)*bytes<=4004096*1000000:=Nat.mul_le_mul aj JF;omega,by omega⟩]
 simp only[fj,gb,fJ];simp[ye,ret]
theorem ZK{c:Call}(ho:o.op=.call c)(hc:c.callee=.builtin .append)(hs:(gH P d o V k).sat P C Q K O):dm Cx P C Q K O E V.ln k (bQ P E d o G):=by
 unfold gH at hs;rw[ho]at hs;simp only[hc]at hs;have bJ:=i_ hJ d c.args.toList c.argTypes.toList;split at hs<;>first|(exact hs.elim)|(exact(‹aAG=aAG->False› rfl).elim)|skip
 all_goals first|(rename_i hb _;cases hb;done)|skip
 rename_i base ca _ hh;rw[hh]at bJ;obtain⟨x0,x1,hx,DT,vP⟩:=Ky bJ;split at hs<;>try exact hs.elim
 rename_i t0 t1 Xn Qi;split at hs<;>try exact hs.elim
 rotate_left
 .rename_i et het _;exact aeu hJ hn ho hc hx Xn Qi het DT vP hs
 rename_i et et1 het aev;split at hs<;>try exact hs.elim
 rename_i s z bytes bf tH Hx;split at hs<;>try exact hs.elim
 rename_i cn
 have abI:s≠0/\z.cells.size=s:=by
  simp only[awO,awX,not_or,Bool.not_eq_true,Bool.not_eq_false]at cn;refine⟨λh=>?_,awk cn.2⟩;have:=cn.1;subst h;simp at this
 split at hs<;>try exact hs.elim
 rename_i fr es raw aew
 have main:(raw=ab->∃z,(SE.rws es).den P O=aa z)->(D1 bytes s base fr es V k).sat P C Q K O->dm Cx P C Q K O E V.ln k (bQ P E d o G):=by
  intro jM hs;obtain⟨v,av,R1,eg,pv,V1,I,⟨m,n,new,h1,h2,h3,h4,h5,h6,h7,h8⟩,iW⟩:=ZJ hJ hn DT vP aew jM hs;refine⟨v,av,R1,eg,pv,V1,I,?_,iW⟩;simp only[bQ,aA,ho,hc,fk,hx,l6,Xn,Qi,qc het,qc aev,bf,tH,Hx,uT,h2,h3,h1];rw[if_neg (by rintro(h|h);exact abI.1 h;exact h abI.2),if_pos ⟨h4,h5,h6,h7⟩,h8]
 split at hs
 .rename_i hr;obtain⟨hz,hk⟩:=hs;exact main (λ_=>hz) hk
 .rename_i hr;exact main (λh=>absurd h hr) hs
end
end Go.Ev
