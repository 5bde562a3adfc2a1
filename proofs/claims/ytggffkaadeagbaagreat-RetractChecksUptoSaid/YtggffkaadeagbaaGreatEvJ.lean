/- Lemmas over the model, without conditions of their own: code run on expressions, definitions. -/
import Derived.Test.YtggffkaadeagbaaGreatEvI
open Nat renaming beq->aqP,ble->arE,blt->arH,rec->atY,eq_of_beq_eq_true->aqO,add_mul->are,le_refl->aqK,le_trans->aq2
open List renaming replicate->aq1,range->asc,getElem?_append_left->aqQ,getElem?_eq_some_iff->aqF,getElem?_eq_getElem->aqE,flatMap_cons->as6
open Go.Utf8 renaming decode->ass
open Option renaming bind_eq_some_iff->aqZ
open Option.some renaming injEq->aqH
open Prod.mk renaming injEq->aq6
set_option linter.all false
namespace Go.Ev
inductive SE where
 |var (i:Nat)
 |i (n:Int)
 |k (k:IntKind) (n:Int)
 |b (t:Bool)
 |s (l:List UInt8)
 |raw (v:Value)
 |ok (e:SE)
 |rM (n:Nat) (e:SE)
 |bN (e:SE) (j:Nat)
 |idx (s:Nat) (e i:SE)
 |FX (s:Nat) (e i:SE) (j:Nat)
 |len (e:SE)
 |rj (e:SE)
 |an
 |ac (a r:SE)
 |tr (s:Nat) (r:SE)
 |tp (r:SE)
 |cat (s bytes:Nat) (e f:SE)
 |Dr (s:Nat) (e i x:SE)
 |sub (s:Nat) (e lo hi:SE)
 |Oi (s:Nat) (e lo z:SE)
 |proj (e:SE) (j:Nat)
 |bin (op:BinOp) (t:TypeId) (a b:SE)
 |un (op:UnOp) (a:SE)
 |cv (src dst:TypeId) (a:SE)
 |mx (Ds:Bool) (a b:SE)
 |FY (e i:SE)
 |GH (e lo hi:SE)
 |rw(e:SE)
 |rws (e:SE)
 |has (kt:TypeId) (m key:SE)
 |get (kt:TypeId) (m key z:SE)
 |ins (kt:TypeId) (m key x:SE)
 |dec (w:Nat) (a p:SE)
 deriving Inhabited
inductive ab where
 |fail (why:Nat)
 |ret (e:SE)
 |test (e:SE) (a b:ab)
 |two (e:SE) (a b:ab)
 |bind (e:SE) (k:ab)
 |aQ (e:SE) (k:ab)
 |call (f:FuncId) (new:Bool) (args:SE) (k:ab)
 |loop (init:SE) (body:ab)
 |pick (es x:SE) (a b:ab)
 |same (es x:SE) (k:ab)
 |uniq (k:ab)
 |kz (body:ab) (m:Nat) (cont:ab)
 |next (lv:Nat) (args:SE)
 |bad (d f id n0 nm:Nat) (hd:List (Nat×Nat×PV SE)) (hl:List (LO SE)) (g:List (Nat×Nat×PV SE)) (l:List (LO SE))
 deriving Inhabited
section eqs
def ae4(a b:IntKind):Bool:=a==b
def lz{α:Type}(f:α→α→Bool):List α→List α→Bool
 |[],[]=>true
 |a::as,b::bs=>f a b&&lz f as bs
 |_,_=>false
def SE.eq:SE→SE→Bool
 |.var x,.var y=>aqP x y
 |.i x,.i y=>x==y
 |.k j x,.k j' y=>ae4 j j'&&x==y
 |.b x,.b y=>x==y
 |.s x,.s y=>lz (·==·) x y
 |.ok x,.ok y=>x.eq y
 |.bN e j,.bN f j'=>aqP j j'&&e.eq f
 |.idx q e x,.idx q' e' x'=>aqP q q'&&e.eq e'&&x.eq x'
 |.FX q e x j,.FX q' e' x' j'=>aqP q q'&&aqP j j'&&e.eq e'&&x.eq x'
 |.len e,.len f=>e.eq f
 |.rj e,.rj f=>e.eq f
 |.an,.an=>true
 |.ac a r,.ac a' r'=>a.eq a'&&r.eq r'
 |.tr q r,.tr q' r'=>aqP q q'&&r.eq r'
 |.tp r,.tp r'=>r.eq r'
 |.proj e j,.proj f j'=>aqP j j'&&e.eq f
 |.bin op t x y,.bin op' t' x' y'=>op==op'&&aqP t t'&&x.eq x'&&y.eq y'
 |.un op x,.un op' x'=>op==op'&&x.eq x'
 |.cv q d x,.cv q' d' x'=>aqP q q'&&aqP d d'&&x.eq x'
 |.mx t x y,.mx t' x' y'=>t==t'&&x.eq x'&&y.eq y'
 |.rw x,.rw y=>x.eq y
 |.FY e x,.FY e' x'=>e.eq e'&&x.eq x'
 |.dec w e x,.dec w' e' x'=>aqP w w'&&e.eq e'&&x.eq x'
 |_,_=>false
end eqs
structure SS where
 g:List (Nat×Nat×PV SE)
 l:List (LO SE)
 n:Nat
 lv:Nat
 nt:Nat
 deriving Inhabited
def SS.ln(V:SS):Nat×Nat:=(V.lv,V.nt)
structure Hint where
 d:Nat
 f:Nat
 id:Nat
 HT:List (Nat×Nat×Nat)
 xo:List (Nat×Nat)
 drop:List (Nat×Nat)
 xp:List (Nat×Nat×Nat)
 deriving Inhabited
structure bj where
 pure:List Nat
 qQ:List Nat
 stop:List Nat
 hints:List Hint
 rows:List Nat
section run
variable(P:Program)(cfg:bj)
def fieldAt(s:TypeId)(f:Nat):Option (Nat×Nat):=
 match P.underlying s with
 |some (.struct fields)=>match fields[f]? with
  |some fd=>match aH P fd.type with
   |some sz=>some (fd.offset,sz)
   |none=>none
  |none=>none
 |_=>none
def elemOf(t:TypeId):Option TypeId:=
 match P.underlying t with
 |some (.slice e)=>some e
 |_=>none
def rN:Nat→TypeId→List TypeId
 |0,_=>[]
 |n+1,t=>match P.underlying t with
  |some (.struct fields)=>fields.toList.flatMap fun f=>rN n f.type
  |some (.array m e)=>(aq1 m (rN n e)).flatten
  |_=>[t]
def ER(t:TypeId):Bool:=
 match P.underlying t with
 |some .bool|some (.int _)|some .string=>true
 |_=>false
def xq(t:TypeId):Value→Cl SE
 |.bool b=>.v (.b b)
 |.int .i64 n=>.v (.i n)
 |.int k n=>.v (.k k n)
 |.string b=>.v (.s b.data.toList)
 |.slice none 0 0=>match(elemOf P t).bind (aH P)with
  |some s=>if aqP s 0 then .v (.raw (.slice none 0 0))else .nl true s
  |none=>.v (.raw (.slice none 0 0))
 |.agg _|.tuple _=>.un
 |v=>.v (.raw v)
def UP{α β γ:Type}(f:α→β→γ):List α→List β→List γ
 |a::as,b::bs=>f a b::UP f as bs
 |_,_=>[]
def JJ(t:TypeId):Value→PV SE
 |.agg cs=>if aqP (rN P 9 t).length cs.toList.length then .ag (UP (xq P) (rN P 9 t) cs.toList)else .one .un
 |v=>.one (xq P t v)
def zeroCells(t:TypeId):List (Cl SE):=
 match cn P t with
 |some z=>if aqP (rN P 9 t).length z.cells.toList.length then UP (xq P) (rN P 9 t) z.cells.toList else z.cells.toList.map fun _=>.un
 |none=>[]
def isAgg(t:TypeId):Bool:=(qf P t)==some true
def bI(d:Nat)(V:SS)(t:TypeId):Operand→PV SE
 |.tmp x=>(ct d x V.g).getD (.one .un)
 |.const v=>JJ P t v
 |.func f=>.one (.fn f [])
 |.global _=>.one .un
def er{α:Type}:PV α→List (Cl α)
 |.one c=>[c]
 |.ag cs=>cs
 |.tu _=>[.un]
def rl:List (Cl SE)→Bool
 |[]=>true
 |.un::_=>false
 |_::cs=>rl cs
def SS.bJ(V:SS)(d:Nat)(dst:Option Nat)(pv:PV SE):SS:=
 match dst with
 |none=>V
 |some t=>{V with g:=N_ d t pv V.g}
def SS.js(V:SS)(d:Nat)(dst:Option Nat):SS:=
 match dst with
 |none=>V
 |some t=>{V with g:=AN d t V.g}
def SS.rO(V:SS)(k:Nat):SS:={V with g:=HQ k V.g,l:=V.l.map (LO.drop k)}
def SS.setObj(V:SS)(k:Nat)(o:LO SE):SS:={V with l:=V.l.set k o}
def dO:List SE→SE
 |[]=>.an
 |a::as=>.ac a (dO as)
def oT(k:Nat)(V:SS):SS:=
 match V.l[k]? with
 |some (.row s false cut fr es)=>V.setObj k (.row s true cut fr es)
 |_=>V
def vK(V:SS):Cl SE→Option (Bool×SE×SS)
 |.v z=>some (true,z,V)
 |.w fr z=>some (fr,z,V)
 |.nl _ s=>some (false,.tr s .an,V)
 |.sr k=>match V.l[k]? with
  |some (.row _ _ _ fr es)=>some (fr,es,oT k V)
  |_=>none
 |_=>none
def sM(V:SS):List (Cl SE)→Option (Bool×List SE×SS)
 |[]=>some (false,[],V)
 |c::cs=>match vK V c with
  |some (f1,z,V)=>match sM V cs with
   |some (f2,zs,V)=>some (f1||f2,z::zs,V)
   |none=>none
  |none=>none
def sN(V:SS):PV SE→Option (Bool×SE×SS)
 |.one c=>vK V c
 |.ag cs=>match sM V cs with
  |some (f,zs,V)=>some (f,dO zs,V)
  |none=>none
 |.tu vs=>match Oj V vs with
  |some (f,zs,V)=>some (f,.tp (dO zs),V)
  |none=>none
where Oj (V:SS):List (Bool×List (Cl SE))→Option (Bool×List SE×SS)
 |[]=>some (false,[],V)
 |(a,cs)::vs=>match sM V cs with
  |some (f1,zs,V)=>match Oj V vs with
   |some (f2,ys,V)=>match a,zs with
    |true,zs=>some (f1||f2,dO zs::ys,V)
    |false,[z]=>some (f1||f2,z::ys,V)
    |_,_=>none
   |none=>none
  |none=>none
def tU:List (Cl SE)→Bool
 |[]=>true
 |.v _::cs=>tU cs
 |.nl _ _::cs=>tU cs
 |_::_=>false
def nV:PV SE→Bool
 |.one c=>tU [c]
 |.ag cs=>tU cs
 |.tu _=>false
def ofType(t:TypeId)(e:SE):PV SE:=
 if isAgg P t then .ag ((asc ((aH P t).getD 0)).map fun j=>.v (.bN e j))else .one (.v (.ok e))
def qR(t:TypeId)(e:SE)(k:ab):ab:=if isAgg P t then .aQ (.rM ((aH P t).getD 0) e) k else .aQ (.ok e) k
def Ol(e:SE):Nat→List TypeId→ab→ab
 |_,[],k=>k
 |j,t::ts,k=>qR P t (.proj e j) (Ol e (j+1) ts k)
def vk(e:SE)(V:SS)(k:PV SE→SS→ab):ab:=.aQ e (k (.one (.v e)) V)
def JK(e:SE):Nat→List TypeId→List (Bool×List (Cl SE))
 |_,[]=>[]
 |j,t::ts=>(isAgg P t,er (ofType P t (.proj e j)))::JK e (j+1) ts
def gX(d:Nat)(V:SS):List Operand→List TypeId→List (PV SE)
 |x::xs,t::ts=>bI P d V t x::gX d V xs ts
 |x::xs,[]=>bI P d V 0 x::gX d V xs []
 |[],_=>[]
def Om(d:Nat)(V:SS):List Operand→Option (List (Nat×Nat))
 |[]=>some []
 |x::xs=>match bI P d V 0 x with
  |.one (.pt k 0 ext)=>match Om d V xs with
   |some l=>some ((k,ext)::l)
   |none=>none
  |_=>none
def zS(cells:List (Cl SE))(off:Nat)(new:List (Cl SE)):List (Cl SE):=cells.take off++new++cells.drop (off+new.length)
def mY(get:Nat→Operand→List (Cl SE))(place:Nat→Option (Nat×Nat)):List (Nat×Operand)→List (Cl SE)→Option (List (Cl SE))
 |[],cs=>some cs
 |(j,x)::ps,cs=>match place j with
  |some (off,sz)=>
   let new:=get j x
   if rl new&&aqP new.length sz&&arE (off+sz) cs.length then mY get place ps (zS cs off new)else none
  |none=>none
def ae5(fields:Array Field)(j:Nat):TypeId:=((fields[j]?).map (·.type)).getD 0
def adq(fields:Array Field)(j:Nat):Option (Nat×Nat):=(fields[j]?).bind fun f=>(aH P f.type).map fun s=>(f.offset,s)
def Ss(s j:Nat):Option (Nat×Nat):=some (j*s,s)
def HU:SE→Bool
 |.i _|.k _ _|.b _|.s _=>true
 |_=>false
def rdT(V:SS)(c:Cl SE)(t:TypeId):Option (Bool×SE×SS×List SE):=
 match c with
 |.v z=>if ER P t then some (false,z,V,if HU z then[]else[z])else some (true,z,V,[])
 |c=>match vK V c with
  |some (fr,z,V)=>some (fr,z,V,[])
  |none=>none
def JL(V:SS):List (Cl SE)→List TypeId→Option (Bool×List SE×SS×List SE)
 |[],_=>some (false,[],V,[])
 |c::cs,t::ts=>match rdT P V c t with
  |some (f1,z,V,r1)=>match JL V cs ts with
   |some (f2,zs,V,r2)=>some (f1||f2,z::zs,V,r1++r2)
   |none=>none
  |none=>none
 |_::_,[]=>none
def xr(s:Nat):Nat→List SE→List SE
 |0,_=>[]
 |n+1,zs=>dO (zs.take s)::xr s n (zs.drop s)
def On(zero:List (Cl SE)):Nat→List (Cl SE)
 |0=>[]
 |n+1=>zero++On zero n
def W_(ts:List TypeId):Nat→List TypeId
 |0=>[]
 |n+1=>ts++W_ ts n
def UQ:List SE→ab→ab
 |[],k=>k
 |e::es,k=>.aQ (.rw e) (UQ es k)
def newVar(V:SS)(e:SE)(k:SE→SS→ab):ab:=.bind e (k (.var V.n) {V with n:=V.n+1})
def newObj(V:SS)(o:LO SE)(k:Nat→SS→ab):ab:=k V.l.length {V with l:=V.l++[o]}
def UR(t:TypeId)(a:PV SE)(V:SS)(k:PV SE→SS→ab):ab:=
 let ag:=isAgg P t
 match aH P t,qf P t with
 |none,_=>.fail 1
 |_,none=>.fail 1
 |some s,some _=>
  let out (cs:List (Cl SE)):ab:=if ag then(if aqP cs.length s then k (.ag cs) V else .fail 2)else match cs with
   |[c]=>k (.one c) V
   |_=>.fail 3
  match a with
  |.one (.pt j off ext)=>match V.l[j]? with
   |some (.var cs)=>if arE s ext&&arE (off+s) cs.length then out ((cs.drop off).take s)else .fail 4
   |_=>.fail 5
  |.one (.tp cs)=>if arE s cs.length then out (((cs.map .v).drop 0).take s)else .fail 4
  |.one (.tw fr cs)=>if arE s cs.length then out (((cs.map (.w fr)).drop 0).take s)else .fail 4
  |.one (.pr j i off ext)=>match V.l[j]? with
   |some (.row sz _ _ fr es)=>if arE s ext then out ((((asc sz).map fun q=>.w fr (.FX sz es i q)).drop off).take s)else .fail 4
   |_=>.fail 6
  |_=>.fail 7
def zT(bytes:Nat)(s:Nat)(base:Cl SE)(fr:Bool)(es:SE)(V:SS)(k:PV SE→SS→ab):ab:=
 match base with
 |.nl _ s'=>if aqP s s' then newVar V (.cat s bytes (.tr s .an) es) fun z V=>newObj V (.row s false false fr z) fun j V=>k (.one (.sr j)) V else .fail 10
 |.sr j=>match V.l[j]? with
  |some (.row s' st cut cX aB)=>
   if aqP s s'&& !(st&&cut)then newVar V (.cat s bytes aB es) fun z V=>k (.one (.sr j)) (((V.rO j)).setObj j (.row s st cut (fr||cX) z))else .fail 11
  |_=>.fail 12
 |_=>.fail 13
def aiq(j:Nat):Cl SE→Bool
 |.sr j'=> !aqP j j'
 |_=>true
def pJ(V:SS)(et:TypeId)(s:Nat)(base:Cl SE):Cl SE→Option (Bool×SE×Bool)
 |.sr j=>match V.l[j]? with
  |some (.row s' _ _ fr es)=>if aqP s s'&&aiq j base then some (fr,es,false)else none
  |_=>none
 |.nl _ _=>some (false,.tr s .an,false)
 |.w fr z=>some (fr,z,false)
 |.v z=>if(rN P 9 et).all (ER P)then some (false,z,true)else some (true,z,false)
 |_=>none
def MX(o:Option (LO SE))(s:Nat)(cut fr:Bool)(es:SE):Bool:=
 match o with
 |some (.row s' false tV cX aB)=>aqP s s'&&cut==tV&&fr==cX&&es.eq aB
 |_=>false
def ES(t:TypeId):Option SE:=
 match cn P t with
 |some (.bool b)=>some (.b b)
 |some (.int q n)=>some (.k q n)
 |some (.string b)=>some (.s b.data.toList)
 |_=>none
def ET:List (Cl SE)→Option (List SE)
 |[]=>some []
 |.v e::ds=>match ET ds with
  |some es=>some (e::es)
  |none=>none
 |_::_=>none
def vc:List (Cl SE)→Option (List SE)
 |[]=>some []
 |c::ds=>match c with
  |.v e|.w _ e=>(vc ds).map (e::·)
  |.nl _ s=>(vc ds).map (.tr s .an::·)
  |_=>none
def GI:PV SE→Option SE
 |.one (.v e)=>some e
 |.one (.w _ e)=>some e
 |.ag cs=>(vc cs).map dO
 |_=>none
def JM(kt:TypeId)(m key x:PV SE)(V:SS)(k:PV SE→SS→ab):ab:=
 match m,GI key,GI x with
 |.one (.mp j),some ke,some xe=>match V.l[j]? with
  |some (.mp ly es)=>if aqP kt ly&& !gp kt then newVar V (.ins kt es ke xe) fun z V=>k (.one .un) (V.setObj j (.mp kt z))else .fail 63
  |_=>.fail 64
 |_,_,_=>.fail 65
def Su(kt et:TypeId)(m key:PV SE)(ok:Bool)(V:SS)(k:PV SE→SS→ab):ab:=
 match m,GI key,ES P et with
 |.one (.mp j),some ke,some z0=>match V.l[j]? with
  |some (.mp ly es)=>if aqP kt ly&& !gp kt then newVar V (.ok (.rw (.get kt es ke z0))) fun r V=>
    if ok then newVar V (.has kt es ke) fun h V=>k (.tu [(false,[.v r]),(false,[.v h])]) V else k (.one (.v r)) V
   else .fail 67
  |_=>.fail 68
 |_,_,_=>.fail 69
def MY(t:TypeId):Bool:=
 match cn P t with
 |some (.agg cs)=>cs.toList.isEmpty
 |_=>false
def JN(kt et:TypeId)(m key:PV SE)(ok:Bool)(V:SS)(k:PV SE→SS→ab):ab:=
 match m,GI key,(match cn P et with|some (.agg _)=>vc (zeroCells P et)|_=>none),aH P et with
 |.one (.mp j),some ke,some zs,some n=>match V.l[j]? with
  |some (.mp ly es)=>if aqP kt ly&& !gp kt then newVar V (.rM n (.get kt es ke (dO zs))) fun r V=>
    let cs:List (Cl SE):=(asc n).map fun j=>.w true (.bN r j)
    if ok then newVar V (.has kt es ke) fun h V=>k (.tu [(true,cs),(false,[.v h])]) V else k (.ag cs) V
   else .fail 67
  |_=>.fail 68
 |_,_,_,_=>.fail 70
def JO(kt:TypeId)(m key:PV SE)(V:SS)(k:PV SE→SS→ab):ab:=
 match m,GI key with
 |.one (.mp j),some ke=>match V.l[j]? with
  |some (.mp ly es)=>if aqP kt ly&& !gp kt then .aQ (.rM 0 (.get kt es ke .an)) (newVar V (.has kt es ke) fun h V=>k (.tu [(true,[]),(false,[.v h])]) V)else .fail 67
  |_=>.fail 68
 |_,_=>.fail 69
def GJ(d:Nat)(V:SS)(US:SE):Option Operand→Option SE
 |none=>some US
 |some o=>match bI P d V 3 o with
  |.one (.v e)=>some e
  |_=>none
def stood(V:SS):Cl SE→Bool
 |.sr j=>match V.l[j]? with
  |some (.row _ st _ _ _)=>st
  |_=>false
 |_=>false
def JP(d:Nat)(t:TypeId)(x:PV SE)(lo hi mx:Option Operand)(V:SS)(k:PV SE→SS→ab):ab:=
 match P.underlying t,x,mx with
 |some (.slice el),.one c,none=>match aH P el with
  |some s=>match c,lo,hi,stood V c with
   |.sr j,some l,none,false=>match V.l[j]?,bI P d V 3 l with
    |some (.row s' false cut fr es),.one (.v e)=>if aqP s s' then .aQ (.sub s es e (.len es)) (k (.one (.sv j e)) V)else .fail 24
    |_,_=>.fail 25
   |c,lo,hi,_=>match(match c with|.v _|.nl _ _|.sr _=>vK V c|_=>none)with
    |some (fr,z,V2)=>match GJ P d V (.i 0) lo,GJ P d V (.len z) hi with
     |some l,some h=>newVar V2 (.sub s z l h) fun y V=>k (.one (.w fr y)) V
     |_,_=>.fail 26
    |none=>.fail 27
  |none=>.fail 28
 |_,_,_=>.fail 29
def Xa(c:Call)(c8:List (PV SE))(V:SS)(k:PV SE→SS→ab):ab:=
 match(c.argTypes[0]?).bind P.underlying,c8 with
 |some (.slice et),[.one (.sv j lo)]=>match V.l[j]?,cn P et with
  |some (.row s false cut fr es),some z=>
   if aqP z.cells.size s&&(isAgg P et||aqP s 1)&&rl (zeroCells P et)&&aqP (zeroCells P et).length s then
    match sM V (zeroCells P et)with
    |some (f,zs,V2)=>if MX V2.l[j]? s cut fr es then newVar V2 (.Oi s es lo (if isAgg P et then dO zs else zs.headD .an)) fun z V=>k (.one .un) (V.setObj j (.row s false cut (fr||f) z))else .fail 103
    |none=>.fail 103
   else .fail 104
  |_,_=>.fail 105
 |_,_=>.fail 106
def tW:PV SE→Option SE
 |.one (.v e)=>some e
 |.one (.w _ e)=>some e
 |_=>none
def mxS(Ds:Bool)(c8:List (PV SE))(V:SS)(k:PV SE→SS→ab):ab:=
 match c8 with
 |[a,b]=>match tW a,tW b with
  |some a,some b=>vk (.ok (.rw (.mx Ds a b))) V k
  |_,_=>.fail 75
 |_=>.fail 76
def isStr(t:TypeId):Bool:=match P.underlying t with
 |some .string=>true
 |_=>false
def GK(d:Nat)(x:PV SE)(lo hi mx:Option Operand)(V:SS)(k:PV SE→SS→ab):ab:=
 match tW x,mx with
 |some a,none=>match GJ P d V (.i 0) lo,GJ P d V (.rj a) hi with
  |some l,some h=>newVar V (.GH a l h) fun z V=>k (.one (.v z)) V
  |_,_=>.fail 20
 |_,_=>.fail 21
def UT(d:Nat)(t:TypeId)(l c:Operand)(V:SS)(k:PV SE→SS→ab):ab:=
 match P.underlying t,bI P d V 0 l,tW (bI P d V 0 c)with
 |some (.slice el),.one (.v (.i 0)),some ce=>match aH P el,cn P el,(P.info? el).map (·.bytes)with
  |some s,some z,some bytes=>if !aqP s 0&&aqP z.cells.size s&&arE bytes 1000000&&(z.cells.toList.map IV.raw).all Ev.af then
    .aQ (.dec 7 ce (.b true)) (newObj V (.row s false false false (.tr s .an)) fun j V=>k (.one (.sr j)) V)else .fail 202
  |_,_,_=>.fail 202
 |_,_,_=>.fail 202
def UU(t:TypeId)(e:SE):Bool×List (Cl SE):=
 if isAgg P t then(true,(asc ((aH P t).getD 0)).map fun j=>.w true (.bN e j))else if ER P t then(false,[.v (.ok (.rw e))])else(false,[.w true (.ok e)])
def HV(t:TypeId)(e:SE)(k:ab):ab:=
 if isAgg P t then .aQ (.rM ((aH P t).getD 0) e) k else if ER P t then .aQ (.ok (.rw e)) k else .aQ (.ok e) k
def Xb(d:Nat)(it:Operand)(V:SS)(k:PV SE→SS→ab):ab:=
 match bI P d V 0 it with
 |.one (.mp j)=>match V.l[j]? with
  |some (.mp kt x)=>if arE 1000000 kt then(match V.l[kt % 1000000]?,P.underlying (kt/1000000- 1)with
   |some (.mp lA es),some (.map _ et)=>if gp lA then .fail 191 else .same es x (HV P lA (.proj (.proj x 2) 0) (HV P et (.proj (.proj x 2) 1) (k (.tu [UU P lA (.proj (.proj x 2) 0),UU P et (.proj (.proj x 2) 1)]) V)))
   |_,_=>.fail 191)else .fail 191
  |_=>.fail 191
 |_=>.fail 191
def Oo(d:Nat)(t:TypeId)(x:PV SE)(lo hi mx:Option Operand)(V:SS)(k:PV SE→SS→ab):Option ab:=
 match P.underlying t,x,lo,hi,mx with
 |some (.slice el),.one c,none,some h,none=>match bI P d V 3 h,aH P el,c with
  |.one (.v (.i 0)),some s,.nl true s'=>if aqP s s' then some (k (.one (.nl true s)) V)else none
  |.one (.v (.i 0)),some s,.sr j=>match V.l[j]? with
   |some (.row s' false _ fr es)=>if aqP s s' then some (.aQ (.idx s es (.i 0)) (k (.one (.sr j)) ((V.rO j).setObj j (.row s false true fr (.tr s .an)))))else none
   |_=>none
  |_,_,_=>none
 |_,_,_,_,_=>none
def fU(d:Nat)(o:Oper)(V:SS)(k:PV SE→SS→ab):ab:=
 match o.op with
 |.makeFunc (.func f) first cap=>if first.toList.isEmpty then match Om P d V cap.toList with
   |some bs=>k (.one (.fn f bs)) V
   |none=>.fail 60
  else .fail 61
 |.makeMap t r=>match r,P.underlying t with
  |none,some (.map kt _)=>if gp kt then .fail 76 else newObj V (.mp kt (.tp .an)) fun j V=>k (.one (.mp j)) V
  |_,_=>.fail 62
 |.makeSlice t l c=>UT P d t l c V k
 |.mapUpdate t m key x|.insert t m key x=>match P.underlying t with
  |some (.map kt et)=>JM kt (bI P d V t m) (bI P d V kt key) (bI P d V et x) V k
  |_=>.fail 66
 |.lookup t m key ok=>match P.underlying t with
  |some (.map kt et)=>if ok&&MY P et then JO kt (bI P d V t m) (bI P d V kt key) V k else if isAgg P et then JN P kt et (bI P d V t m) (bI P d V kt key) ok V k else Su P kt et (bI P d V t m) (bI P d V kt key) ok V k
  |_=>.fail 70
 |.range t x=>match P.underlying t,tW (bI P d V t x)with
  |some .string,some a=>.aQ (.rj a) (newObj V (.mp 0 (.tp (.ac a (.ac (.i 0) .an)))) fun j V=>k (.one (.mp j)) V)
  |some (.map _ _),_=>match bI P d V t x with
   |.one (.mp m)=>match V.l[m]? with
    |some (.mp kt es)=>if gp kt|| !arH m 1000000 then .fail 77 else .aQ (.dec 9 es (.b true)) (newObj V (.mp ((t+1)*1000000+m) (.tp (.ac es (.ac es .an)))) fun j V=>k (.one (.mp j)) V)
    |_=>.fail 77
   |_=>.fail 77
  |_,_=>.fail 77
 |.next it true=>match bI P d V 0 it with
  |.one (.mp j)=>match V.l[j]? with
   |some (.mp kt es)=>if aqP kt 0 then .test (.dec 0 (.proj es 0) (.proj es 1))
     (newVar V (.tp (.ac (.proj es 0) (.ac (.dec 2 (.proj es 0) (.proj es 1)) .an))) fun z V=>k (.tu [(false,[.v (.b true)]),(false,[.v (.proj es 1)]),(false,[.v (.dec 1 (.proj es 0) (.proj es 1))])]) (V.setObj j (.mp 0 z)))
     (k (.tu [(false,[.v (.b false)])]) V)else .fail 78
   |_=>.fail 79
  |_=>.fail 79
 |.entry it=>Xb P d it V k
 |.index t x ix=>match P.underlying t,tW (bI P d V t x),tW (bI P d V 0 ix)with
  |some .string,some a,some b=>vk (.FY a b) V k
  |_,_,_=>.fail 74
 |.slice t x lo hi mx=>match Oo P d t (bI P d V t x) lo hi mx V k with
  |some f=>f
  |none=>if isStr P t then GK P d (bI P d V t x) lo hi mx V k else JP P d t (bI P d V t x) lo hi mx V k
 |.call c=>match c.callee with
  |.builtin .clear=>Xa P c (gX P d V c.args.toList c.argTypes.toList) V k
  |.builtin .cap=>match gX P d V c.args.toList c.argTypes.toList,(c.argTypes[0]?).bind P.underlying with
   |[.one (.nl true _)],some (.slice _)=>k (.one (.v (.i 0))) V
   |_,_=>.fail 207
  |.builtin .max=>mxS true (gX P d V c.args.toList c.argTypes.toList) V k
  |.builtin .min=>mxS false (gX P d V c.args.toList c.argTypes.toList) V k
  |_=>.fail 201
 |_=>.fail 200
def UW(et t1:TypeId)(base x:Cl SE)(V:SS)(k:PV SE→SS→ab):ab:=
 match P.underlying t1,base,x with
 |some (.int _),.nl true s,.v n=>match aH P et,cn P et,ES P et,(P.info? et).map (·.bytes)with
  |some s',some z,some ze,some bytes=>if aqP s 1&&aqP s' 1&&arE bytes 1000000&&aqP z.cells.size 1&&(z.cells.toList.map IV.raw).all Ev.af then
    newVar V (.dec 8 n ze) fun e V=>newObj V (.row 1 false false false e) fun j V=>k (.one (.sr j)) V else .fail 208
  |_,_,_,_=>.fail 208
 |_,_,_=>.fail 208
def fE(d:Nat)(o:Oper)(V:SS)(k:PV SE→SS→ab):ab:=
 let get (t:TypeId) (x:Operand):PV SE:=bI P d V t x
 match o.op with
 |.move x|.assign x=>k (get o.type x) V
 |.pick c a b=>match get 0 c with
  |.one (.v (.b true))=>k (get o.type a) V
  |.one (.v (.b false))=>k (get o.type b) V
  |_=>.fail 40
 |.alloc t=>let cs:=zeroCells P t;if(cn P t).isNone then .fail 38 else newObj V (.var cs) fun j V=>k (.one (.pt j 0 cs.length)) V
 |.box t x=>let cs:=er (get t x);if !rl cs then .fail 39 else newObj V (.var cs) fun j V=>k (.one (.pt j 0 cs.length)) V
 |.load t a=>UR P t (get 0 a) V k
 |.store t a x=>match get 0 a with
  |.one (.pt j off ext)=>match V.l[j]? with
   |some (.var cs)=>
    let new:=er (get t x)
    if rl new&&arE new.length ext&&arE (off+new.length) cs.length&&(aH P t)==some new.length then k (.one .un) (V.setObj j (.var (zS cs off new)))else .fail 41
   |_=>.fail 42
  |.one (.pr j i off ext)=>match V.l[j]? with
   |some (.row s false cut fr es)=>
    let new:=er (get t x)
    if aqP off 0&&aqP new.length s&&aqP s ext&&aH P t==some s&&rl new&&(isAgg P t||aqP s 1)then
     match sM V new with
     |some (f,zs,V2)=>if MX V2.l[j]? s cut fr es then newVar V2 (.Dr s es i (if isAgg P t then dO zs else zs.headD .an)) fun z V=>k (.one .un) (V.setObj j (.row s false cut (fr||f) z))else .fail 43
     |none=>.fail 43
    else .fail 44
   |_=>.fail 45
  |_=>.fail 46
 |.nilCheck x=>match get 0 x with
  |.one (.pt a b c)=>k (.one (.pt a b c)) V
  |.one (.fn _ _)=>.fail 47
  |.one (.tp a)=>k (.one (.tp a)) V
  |_=>.fail 47
 |.binOp op t x y _=>match get t x,get t y with
  |.ag cs,.ag ds=>match sM V cs,sM V ds with
   |some (_,a,_),some (_,b,_)=>vk (.ok (.bin op t (dO a) (dO b))) V k
   |_,_=>.fail 48
  |.one (.v a),.one (.v b)=>vk (.ok (.bin op t a b)) V k
  |.one (.w _ a),.one (.v b)=>vk (.ok (.bin op t a b)) V k
  |.one (.v a),.one (.w _ b)=>vk (.ok (.bin op t a b)) V k
  |.one (.w _ a),.one (.w _ b)=>vk (.ok (.bin op t a b)) V k
  |_,_=>.fail 50
 |.unOp op _ x=>match get 0 x with
  |.one (.v (.b t))=>match op with
   |.not=>k (.one (.v (.b (!t)))) V
   |_=>.fail 51
  |.one (.v a)=>vk (.ok (.un op a)) V k
  |.one (.w _ a)=>vk (.ok (.un op a)) V k
  |_=>.fail 52
 |.convert src dst x=>match get src x with
  |.one (.v a)=>vk (.ok (.cv src dst a)) V k
  |.one (.w _ a)=>vk (.ok (.cv src dst a)) V k
  |_=>.fail 53
 |.build t parts=>match P.underlying t with
  |some (.struct fields)=>
   if !(fields.all fun f=>(aH P f.type).isSome)||(cn P t).isNone then .fail 53 else
   match mY (fun j x=>er (bI P d V (ae5 fields j) x)) (adq P fields) parts.toList (zeroCells P t)with
   |some cs=>k (.ag cs) V
   |none=>.fail 54
  |some (.array _ et)=>match aH P et with
   |some s=>if(cn P t).isNone then .fail 53 else
    match mY (fun _ x=>er (bI P d V et x)) (Ss s) parts.toList (zeroCells P t)with
    |some cs=>k (.ag cs) V
    |none=>.fail 55
   |none=>.fail 56
  |_=>.fail 56
 |.buildSlice t len parts=>match elemOf P t with
  |some et=>match aH P et,cn P et with
   |some s,some z=>if aqP s 0|| !aqP z.cells.size s|| !arE (len*s) 1048576 then .fail 58 else
    if aqP len 0 then(if parts.toList.isEmpty then k (.one (.nl false s)) V else .fail 58)else
    match mY (fun _ x=>er (bI P d V et x)) (Ss s) parts.toList (On (zeroCells P et) len)with
    |some cs=>match JL P V cs (W_ (rN P 9 et) len)with
     |some (fr,zs,V,rws)=>if !(isAgg P et||aqP s 1)then .fail 57 else
      UQ (if fr then[]else rws) (newObj V (.row s false false fr (.tr s (dO (if isAgg P et then xr s len zs else zs)))) fun j V=>k (.one (.sr j)) V)
     |none=>.fail 57
    |none=>.fail 57
   |_,_=>.fail 58
  |none=>.fail 59
 |.fieldAddr s x f=>match fieldAt P s f with
  |some (fo,sz)=>if aqP sz 0 then .fail 71 else match get 0 x with
   |.one (.pt j off ext)=>if arE (fo+sz) ext then k (.one (.pt j (off+fo) sz)) V else .fail 72
   |.one (.tp cs)=>if arE (fo+sz) cs.length then k (.one (.tp ((cs.drop fo).take sz))) V else .fail 73
   |.one (.tw fr cs)=>if arE (fo+sz) cs.length then k (.one (.tw fr ((cs.drop fo).take sz))) V else .fail 73
   |.one (.pr j i off ext)=>if arE (fo+sz) ext then k (.one (.pr j i (off+fo) sz)) V else .fail 74
   |_=>.fail 75
  |none=>.fail 76
 |.field t x f=>match get t x,fieldAt P t f with
  |.ag cs,some (fo,sz)=>match P.underlying t with
   |some (.struct fields)=>
    if arE (fo+sz) cs.length&&(qf P ((fields[f]?).map (·.type)|>.getD 0)).isSome then
     if isAgg P ((fields[f]?).map (·.type)|>.getD 0)then(if aqP ((cs.drop fo).take sz).length sz then k (.ag ((cs.drop fo).take sz)) V else .fail 77)else match(cs.drop fo).take sz with
     |[c]=>k (.one c) V
     |_=>.fail 78
    else .fail 79
   |_=>.fail 79
  |_,_=>.fail 80
 |.indexAddr t x ix=>match P.underlying t,get 3 ix with
  |some (.slice et),.one (.v i)=>match aH P et with
   |some s=>match get t x with
    |.one (.v z)=>newVar V (.idx s z i) fun e V=>qR P et e (k (.one (.tp (if isAgg P et then(asc s).map (fun j=>.bN e j)else[.ok e]))) V)
    |.one (.w fr z)=>newVar V (.idx s z i) fun e V=>qR P et e (k (.one (.tw fr (if isAgg P et then(asc s).map (fun j=>.bN e j)else[.ok e]))) V)
    |.one (.sr j)=>match V.l[j]? with
     |some (.row s' _ _ _ es)=>if aqP s s' then .aQ (.idx s es i) (k (.one (.pr j i 0 s)) V)else .fail 81
     |_=>.fail 82
    |_=>.fail 83
   |none=>.fail 84
  |some (.array n et),.one (.v (.i i))=>match aH P et,get t x with
   |some s,.one (.pt j off ext)=>if !aqP s 0&&decide (0≤i)&&arH i.toNat n&&arE (i.toNat*s+s) ext then k (.one (.pt j (off+i.toNat*s) s)) V else .fail 85
   |some s,.one (.tp cs)=>.fail 86
   |_,_=>.fail 87
  |_,_=>.fail 88
 |.extract x i=>match get 0 x with
  |.tu vs=>match vs[i]? with
   |some (true,cs)=>k (.ag cs) V
   |some (false,[c])=>k (.one c) V
   |_=>.fail 93
  |_=>.fail 94
 |.call c=>match c.callee with
  |.builtin b=>match b,gX P d V c.args.toList c.argTypes.toList with
   |.len,[pv]=>match(c.argTypes[0]?).bind P.underlying with
    |some .string=>match pv with
     |.one (.v z)=>vk (.rj z) V k
     |.one (.w _ z)=>vk (.rj z) V k
     |_=>.fail 96
    |some (.slice _)=>match pv with
     |.one (.v z)=>vk (.len z) V k
     |.one (.w _ z)=>vk (.len z) V k
     |.one (.nl _ _)=>k (.one (.v (.i 0))) V
     |.one (.sr j)=>match V.l[j]? with
      |some (.row _ _ _ _ es)=>vk (.len es) V k
      |_=>.fail 95
     |_=>.fail 96
    |some (.map _ _)=>match pv with
     |.one (.mp j)=>match V.l[j]? with
      |some (.mp kt es)=>if gp kt then .fail 95 else vk (.dec 9 es (.b true)) V k
      |_=>.fail 95
     |_=>.fail 96
    |_=>.fail 96
   |.append,[.one base,.one x]=>match c.argTypes[0]?,c.argTypes[1]? with
    |some t0,some t1=>match elemOf P t0,elemOf P t1 with
     |some et,some _=>match aH P et,cn P et,(P.info? et).map (·.bytes)with
      |some s,some z,some bytes=>if aqP s 0|| !aqP z.cells.size s then .fail 97 else
       match pJ P V et s base x with
       |some (fr,es,raw)=>if raw then .aQ (.rws es) (zT bytes s base fr es V k)else zT bytes s base fr es V k
       |none=>.fail 98
      |_,_,_=>.fail 101
     |some et,none=>UW P et t1 base x V k
     |_,_=>.fail 102
    |_,_=>.fail 102
   |.len,_=>.fail 105
   |.append,_=>.fail 105
   |_,_=>fU P d o V k
  |_=>.fail 106
 |_=>fU P d o V k
inductive yw where
 |normal
 |exit (id:Nat)
 |ret
 |bU (t:TypeId) (pv:PV SE)
abbrev Kx:=TypeId→PV SE→SS→ab
inductive Want where
 |run|skip|test (t:Nat) (e:SE) (want:Bool)|fail
def sO(ops:Array Oper)(d:Nat)(V:SS)(o:Oper):Want:=
 match o.guard with
 |none=>.run
 |some (j,want)=>match(ops[j]?).bind (·.dst)with
  |some t=>if !arH t V.nt then .fail else match ct d t V.g with
   |some (.one (.v (.b x)))=>if x==want then .run else .skip
   |some (.one (.v e))=>.test t e want
   |some (.one (.w _ e))=>.test t e want
   |_=>.fail
  |none=>.fail
def zU(l:List (Nat×Nat×Nat))(d t j:Nat):Bool:=l.any fun(a,b,c)=>aqP a d&&aqP b t&&aqP c j
def nW(l:List (Nat×Nat))(a b:Nat):Bool:=l.any fun(c,d)=>aqP a c&&aqP b d
def ae6(ch:Bool)(mode:Nat)(c:Cl SE)(n:Nat)(init:List SE):Cl SE×Nat×List SE:=
 match mode,c with
 |1,.v z=>(.v (.var n),n+1,z::init)
 |1,.nl _ s=>(.v (.var n),n+1,.tr s .an::init)
 |2,.v z=>(.w true (.var n),n+1,z::init)
 |2,.w _ z=>(.w true (.var n),n+1,z::init)
 |2,.nl _ s=>(.w true (.var n),n+1,.tr s .an::init)
 |_,c=>
  if ch then match c with
   |.v z=>(.v (.var n),n+1,z::init)
   |.w fr z=>(.w fr (.var n),n+1,z::init)
   |c=>(c,n,init)
  else(c,n,init)
def MZ(ch:Nat→Bool):Nat→List (Cl SE)→Nat→List SE→List (Cl SE)×Nat×List SE
 |_,[],n,init=>([],n,init)
 |j,c::cs,n,init=>
  let(c,n,init):=ae6 (ch j) 0 c n init
  let(cs,n,init):=MZ ch (j+1) cs n init
  (c::cs,n,init)
def Xc(h:Hint)(d t:Nat):Nat:=if zU h.xp d t 2 then 2 else if zU h.xp d t 1 then 1 else 0
def abO(ch:Nat→Bool):Nat→List (Bool×List (Cl SE))→Nat→List SE→List (Bool×List (Cl SE))×Nat×List SE
 |_,[],n,init=>([],n,init)
 |j,(a,cs)::vs,n,init=>
  let(cs,n,init):=MZ ch j cs n init
  let(vs,n,init):=abO ch (j+cs.length) vs n init
  ((a,cs)::vs,n,init)
def JQ(h:Hint):List (Nat×Nat×PV SE)→Nat→List SE→List (Nat×Nat×PV SE)×Nat×List SE
 |[],n,init=>([],n,init)
 |(d,t,pv)::g,n,init=>
  if nW h.drop d t then JQ h g n init else
  match pv with
  |.one c=>
   let(c,n,init):=ae6 (zU h.HT d t 0) (Xc h d t) c n init
   let(g,n,init):=JQ h g n init
   ((d,t,.one c)::g,n,init)
  |.ag cs=>
   let(cs,n,init):=MZ (zU h.HT d t) 0 cs n init
   let(g,n,init):=JQ h g n init
   ((d,t,.ag cs)::g,n,init)
  |.tu vs=>
   let(vs,n,init):=abO (zU h.HT d t) 0 vs n init
   let(g,n,init):=JQ h g n init
   ((d,t,.tu vs)::g,n,init)
def wI(d t:Nat)(V:SS):SS:=
 match ct d t V.g with
 |some (.one (.sr k))=>match V.l[k]? with
  |some (.row _ _ _ fr es)=>(oT k V).bJ d (some t) (.one (.w fr es))
  |_=>V
 |_=>V
def settle:List (Nat×Nat×Nat)→SS→SS
 |[],V=>V
 |(d,t,m)::ws,V=>settle ws (if aqP m 2 then wI d t V else V)
def Z7(h:Hint):Nat→List (LO SE)→Nat→List SE→List (LO SE)×Nat×List SE
 |_,[],n,init=>([],n,init)
 |k,o::l,n,init=>
  let(o,n,init):=(match o with
   |.var cs=>
    let(cs,n,init):=MZ (nW h.xo k) 0 cs n init
    (LO.var cs,n,init)
   |.row s st cut fr es=>if nW h.xo k 0 then(.row s (st||nW h.xo k 1) (cut||nW h.xo k 2) (fr||nW h.xo k 3) (.var n),n+1,es::init)else(.row s (st||nW h.xo k 1) (cut||nW h.xo k 2) (fr||nW h.xo k 3) es,n,init)
   |.mp kt es=>if nW h.xo k 0 then(.mp kt (.var n),n+1,es::init)else(.mp kt es,n,init)
   |.dead=>(.dead,n,init):LO SE×Nat×List SE)
  let(l,n,init):=Z7 h (k+1) l n init
  (o::l,n,init)
def zV(d t j:Nat)(V:SS):SS:=
 match ct d t V.g with
 |some (.one (.nl _ s))=>if aqP j 0 then{V with l:=V.l++[.row s false false false (.tr s .an)],g:=N_ d t (.one (.sr V.l.length)) V.g}else V
 |some (.ag cs)=>match cs[j]? with
  |some (.nl _ s)=>{V with l:=V.l++[.row s false false false (.tr s .an)],g:=N_ d t (.ag (cs.set j (.sr V.l.length))) V.g}
  |_=>V
 |_=>V
def zW(k j:Nat)(V:SS):SS:=
 match V.l[k]? with
 |some (.var cs)=>match cs[j]? with
  |some (.nl _ s)=>{V with l:=V.l.set k (.var (cs.set j (.sr V.l.length)))++[.row s false false false (.tr s .an)]}
  |_=>V
 |_=>V
def tX(h:Hint):List (Nat×Nat×Nat)→SS→SS
 |[],V=>V
 |(d,t,j)::l,V=>tX h l (if aqP (Xc h d t) 0 then zV d t j V else V)
def tY:List (Nat×Nat)→SS→SS
 |[],V=>V
 |(k,j)::l,V=>tY l (zW k j V)
def tZ(h:Hint)(V:SS):SS:=tY h.xo.reverse (tX h h.HT.reverse V)
def sP:Cl SE→List Nat
 |.pt k _ _|.sr k|.sv k _|.pr k _ _ _|.mp k=>[k]
 |.fn _ bs=>bs.map (·.1)
 |_=>[]
def Oq:PV SE→List Nat
 |.one c=>sP c
 |.ag cs=>cs.flatMap sP
 |.tu vs=>vs.flatMap fun p=>p.2.flatMap sP
def reach(l:List (LO SE)):Nat→List Nat→List Nat→List Nat
 |0,_,seen=>seen
 |_,[],seen=>seen
 |n+1,k::ks,seen=>if seen.any (aqP k)then reach l n ks seen else
  match l[k]? with
  |some (.var cs)=>reach l n (cs.flatMap sP++ks) (k::seen)
  |some (.mp kt _)=>reach l n (if arE 1000000 kt then(kt % 1000000)::ks else ks) (k::seen)
  |_=>reach l n ks (k::seen)
def marks(seen:List Nat):Nat→List (LO SE)→List (LO SE)
 |_,[]=>[]
 |k,o::os=>(if seen.any (aqP k)then o else .dead)::marks seen (k+1) os
def gcS(V:SS):SS:={V with l:=marks (reach V.l 2000 (V.g.flatMap fun p=>Oq p.2.2) []) 0 V.l}
def SE.vL(n:Nat):SE→Bool
 |.var x=>arH x n
 |.i _|.k _ _|.b _|.s _|.raw _|.an=>true
 |.ok e|.rM _ e|.bN e _|.len e|.rj e|.tr _ e|.tp e|.proj e _|.un _ e|.cv _ _ e|.rw e|.rws e=>e.vL n
 |.idx _ e f|.FX _ e f _|.ac e f|.cat _ _ e f|.bin _ _ e f|.mx _ e f|.FY e f|.has _ e f|.dec _ e f=>e.vL n&&f.vL n
 |.Dr _ e f g|.sub _ e f g|.Oi _ e f g|.GH e f g|.ins _ e f g=>e.vL n&&f.vL n&&g.vL n
 |.get _ e f g=>e.vL n&&f.vL n&&g.vL n
structure Mt where
 args:List (Nat×SE)
 dS:List (Nat×Nat)
def rm{α:Type}(l:List (Nat×α))(k:Nat):Option α:=
 match l with
 |[]=>none
 |(a,b)::l=>if aqP a k then some b else rm l k
def yx(n nm:Nat)(h e:SE)(m:Mt):Option Mt:=
 match h with
 |.var i=>if arH i n then(if h.eq e then some m else none)else if arE nm i then none else(match rm m.args i with
  |some e'=>if e'.eq e then some m else none
  |none=>some {m with args:=(i,e)::m.args})
 |h=>if h.vL n&&h.eq e then some m else none
def Ot(h e:Nat)(m:Mt):Option Mt:=
 match rm m.dS h with
 |some e'=>if aqP e e' then some m else none
 |none=>if m.dS.any (fun p=>aqP p.2 e)then none else some {m with dS:=(h,e)::m.dS}
def Ou(n nm:Nat):List SE→List SE→Mt→Option Mt
 |[],[],m=>some m
 |a::as,b::bs,m=>match yx n nm a b m with
  |some m=>Ou n nm as bs m
  |none=>none
 |_,_,_=>none
def ae7:List (Nat×Nat)→List (Nat×Nat)→Mt→Option Mt
 |[],[],m=>some m
 |(a,x)::as,(b,y)::bs,m=>if aqP x y then(match Ot a b m with
  |some m=>ae7 as bs m
  |none=>none)else none
 |_,_,_=>none
def ae8(n nm:Nat)(h e:Cl SE)(m:Mt):Option Mt:=
 match h,e with
 |.un,_=>some m
 |.v a,.v b=>yx n nm a b m
 |.w f a,.w f' b=>if f|| !f' then yx n nm a b m else none
 |.w f a,.v b=>if f then yx n nm a b m else none
 |.v a,.nl _ s=>yx n nm a (.tr s .an) m
 |.w _ a,.nl _ s=>yx n nm a (.tr s .an) m
 |.nl a s,.nl b s'=>if a==b&&aqP s s' then some m else none
 |.pt k o x,.pt k' o' x'=>if aqP o o'&&aqP x x' then Ot k k' m else none
 |.tp a,.tp b=>Ou n nm a b m
 |.tw f a,.tw f' b=>if f|| !f' then Ou n nm a b m else none
 |.sr k,.sr k'=>Ot k k' m
 |.mp k,.mp k'=>Ot k k' m
 |.fn f a,.fn f' b=>if aqP f f' then ae7 a b m else none
 |_,_=>none
def M0(n nm:Nat):List (Cl SE)→List (Cl SE)→Mt→Option Mt
 |[],[],m=>some m
 |a::as,b::bs,m=>match ae8 n nm a b m with
  |some m=>M0 n nm as bs m
  |none=>none
 |_,_,_=>none
def abP(n nm:Nat):List (Bool×List (Cl SE))→List (Bool×List (Cl SE))→Mt→Option Mt
 |[],[],m=>some m
 |(x,a)::as,(y,b)::bs,m=>if x==y then(match M0 n nm a b m with
  |some m=>abP n nm as bs m
  |none=>none)else none
 |_,_,_=>none
def air(n nm:Nat)(h e:PV SE)(m:Mt):Option Mt:=
 match h,e with
 |.one a,.one b=>ae8 n nm a b m
 |.ag as,.ag bs=>M0 n nm as bs m
 |.tu as,.tu bs=>abP n nm as bs m
 |_,_=>none
def ae9(n nm:Nat)(g:List (Nat×Nat×PV SE)):List (Nat×Nat×PV SE)→Mt→Option Mt
 |[],m=>some m
 |(d,t,pv)::h,m=>match ct d t g with
  |some Co=>match air n nm pv Co m with
   |some m=>ae9 n nm g h m
   |none=>none
  |none=>none
def amy(n nm:Nat)(h e:LO SE)(m:Mt):Option Mt:=
 match h,e with
 |.var cs,.var ds=>M0 n nm cs ds m
 |.row s st cut fr es,.row s' lr tV cX aB=>if aqP s s'&&st==lr&&(cut|| !tV)&&(fr|| !cX)then yx n nm es aB m else none
 |.mp kt es,.mp ly aB=>if aqP kt ly then yx n nm es aB m else none
 |.dead,_=>some m
 |_,_=>none
def Z8(n nm:Nat)(l:List (LO SE)):Nat→List (LO SE)→Mt→Option Mt
 |_,[],m=>some m
 |k,o::os,m=>
  match o with
  |.dead=>Z8 n nm l (k+1) os m
  |o=>match Ot k ((rm m.dS k).getD k) m with
  |some m=>match l[(rm m.dS k).getD k]? with
   |some o'=>match amy n nm o o' m with
    |some m=>Z8 n nm l (k+1) os m
    |none=>none
   |none=>none
  |none=>none
def Ov(n:Nat)(m:Mt):Nat→List SE→Option (List SE)
 |0,acc=>some acc
 |j+1,acc=>match rm m.args (n+j)with
  |some e=>Ov n m j (e::acc)
  |none=>none
def isLive(l:List (LO SE))(k:Nat):Bool:=
 match l[k]? with
 |some .dead|none=>false
 |_=>true
def ae_(l:List (LO SE))(k:Nat):Bool:=
 match l[k]? with
 |some (.mp _ _)=>true
 |_=>false
def GL(H:SS):Bool:=
 (H.g.all fun p=>(Oq p.2.2).all (isLive H.l))&&H.l.all fun|.var cs=>(cs.flatMap sP).all (isLive H.l)|.mp kt _=>arH kt 1000000||ae_ H.l (kt % 1000000)|_=>true
def ux(n:Nat)(args:List SE)(h e:SE):Bool:=
 match h with
 |.var x=>if arH x n then h.eq e else(match args[x- n]? with
  |some a=>a.eq e
  |none=>false)
 |h=>h.vL n&&h.eq e
def Dt(dS:List (Nat×Nat))(h e:Nat):Bool:=
 match rm dS h with
 |some e'=>aqP e e'
 |none=>false
def qo(n:Nat)(args:List SE)(dS:List (Nat×Nat))(h e:Cl SE):Bool:=
 match h,e with
 |.un,_=>true
 |.v a,.v b=>ux n args a b
 |.w f a,.w f' b=>(f|| !f')&&ux n args a b
 |.w f a,.v b=>f&&ux n args a b
 |.v a,.nl _ s=>ux n args a (.tr s .an)
 |.w _ a,.nl _ s=>ux n args a (.tr s .an)
 |.nl a s,.nl b s'=>a==b&&aqP s s'
 |.pt k o x,.pt k' o' x'=>aqP o o'&&aqP x x'&&Dt dS k k'
 |.tp a,.tp b=>lz (ux n args) a b
 |.sr k,.sr k'=>Dt dS k k'
 |.mp k,.mp k'=>Dt dS k k'
 |.fn f a,.fn f' b=>aqP f f'&&lz (fun(p q:Nat×Nat)=>aqP p.2 q.2&&Dt dS p.1 q.1) a b
 |_,_=>false
def HW(n:Nat)(args:List SE)(dS:List (Nat×Nat))(h e:PV SE):Bool:=
 match h,e with
 |.one a,.one b=>qo n args dS a b
 |.ag as,.ag bs=>lz (qo n args dS) as bs
 |.tu as,.tu bs=>lz (fun(p q:Bool×List (Cl SE))=>p.1==q.1&&lz (qo n args dS) p.2 q.2) as bs
 |_,_=>false
def afa(n:Nat)(args:List SE)(dS:List (Nat×Nat))(g:List (Nat×Nat×PV SE))(h:List (Nat×Nat×PV SE)):Bool:=
 h.all fun(d,t,pv)=>match ct d t g with
  |some Co=>HW n args dS pv Co
  |none=>false
def zl(n:Nat)(args:List SE)(dS:List (Nat×Nat))(h e:LO SE):Bool:=
 match h,e with
 |.var cs,.var ds=>lz (qo n args dS) cs ds
 |.row s st cut fr es,.row s' lr tV cX aB=>aqP s s'&&st==lr&&(cut|| !tV)&&(fr|| !cX)&&ux n args es aB
 |.mp kt es,.mp ly aB=>aqP kt ly&&ux n args es aB&&(arH kt 1000000||Dt dS (kt % 1000000) (kt % 1000000))
 |_,_=>false
def Ow(n:Nat)(args:List SE)(dS:List (Nat×Nat))(l:List (LO SE)):Nat→List (LO SE)→Bool
 |_,[]=>true
 |k,o::os=>(match o with
  |.dead=>true
  |o=>match rm dS k with
   |some k'=>match l[k']? with
    |some o'=>zl n args dS o o'
    |none=>false
   |none=>false)&&Ow n args dS l (k+1) os
def Z9(dS:List (Nat×Nat)):Bool:=dS.all fun p=>dS.all fun q=> !aqP p.2 q.2||aqP p.1 q.1
def inst(n m:Nat)(H V:SS):Option (List SE×List (Nat×Nat)):=
 if !GL H then none else match ae9 n (n+m) V.g H.g ⟨[],[]⟩with
 |some mt=>match Z8 n (n+m) V.l 0 H.l mt with
  |some mt=>match Ov n mt m []with
   |some args=>if afa n args mt.dS V.g H.g&&Ow n args mt.dS V.l 0 H.l&&Z9 mt.dS&&aqP args.length m then some (args,mt.dS)else none
   |none=>none
  |none=>none
 |none=>none
def zX:Code→Nat
 |.region id _ _=>id
 |.seq a _=>zX a
 |.block _ a=>zX a
 |.loop a=>zX a
 |.scope a=>zX a
 |_=>0
abbrev mZ:=Nat→Nat→Code→SS→(yw→SS→ab)→ab
section step
variable(self:mZ)(kx:Kx)
def setArgs(d:Nat):Nat→List (PV SE)→List (Nat×Nat×PV SE)
 |_,[]=>[]
 |j,pv::c8=>(d,j,pv)::setArgs d (j+1) c8
def jt(d:Nat):List (Nat×Nat×PV SE)→List (Nat×Nat×PV SE)
 |[]=>[]
 |(d',t,pv)::g=>if aqP d' d=true then jt d g else(d',t,pv)::jt d g
def Ox(t:TypeId)(pa:PV SE)(V:SS):Option (PV SE):=
 match aH P t,qf P t,pa with
 |some s,some _,.one (.pt j off ext)=>match V.l[j]? with
  |some (.var cs)=>if arE s ext&&arE (off+s) cs.length then(if isAgg P t then some (.ag ((cs.drop off).take s))else match(cs.drop off).take s with
   |[c]=>some (.one c)
   |_=>none)else none
  |_=>none
 |_,_,_=>none
def kY(d:Nat)(V:SS):List ResultVar→Option (List (PV SE))
 |[]=>some []
 |.tmp t::rs=>match kY d V rs with
  |some c8=>some ((ct d t V.g).getD (.one .un)::c8)
  |none=>none
 |.cell a t::rs=>match ct d a V.g with
  |some pa=>match Ox P t pa V,kY d V rs with
   |some pv,some c8=>some (pv::c8)
   |_,_=>none
  |none=>none
def Du(c8:List (PV SE)):PV SE:=
 match c8 with
 |[]=>.one .un
 |[pv]=>pv
 |c8=>.tu (c8.map fun pv=>match pv with
  |.one c=>(false,[c])
  |.ag cs=>(true,cs)
  |.tu _=>(false,[.un]))
def rP(d f:Nat)(dst:Option Nat)(g:FuncId)(args:List (PV SE))(V:SS)(k:PV SE→SS→ab):ab:=
 match P.funcs[g]? with
 |some fn=>match fn.body with
  |some body=>
   if cfg.stop.any (aqP g)then .fail 119 else if arE args.length fn.ntmps&&fn.name != "runtime.NumGoroutine" then
    self (d+1) (f*1000+dst.getD 999+1) body {V with g:=setArgs (d+1) 0 args++jt (d+1) V.g,nt:=fn.ntmps} fun ex W=>match ex with
     |.exit _=>.fail 111
     |.bU t pv=>kx t pv {W with g:=jt (d+1) W.g,nt:=V.nt}
     |_=>match kY P (d+1) W fn.results.toList with
      |some c8=>k (Du c8) {W with g:=jt (d+1) W.g,nt:=V.nt}
      |none=>.fail 110
   else .fail 112
  |none=>.fail 113
 |none=>.fail 114
def oU:ab→Option (SS×SS)
 |.test _ a b|.two _ a b=>match oU a with
  |some x=>some x
  |none=>oU b
 |.bind _ k|.aQ _ k|.call _ _ _ k|.loop _ k|.uniq k|.same _ _ k=>oU k
 |.pick _ _ a b=>match oU a with
  |some x=>some x
  |none=>oU b
 |.kz a _ b=>match oU a with
  |some x=>some x
  |none=>oU b
 |.bad 999999 n lv _ _ hg hl g l=>some (⟨hg,hl,n,lv,0⟩,⟨g,l,n,lv,0⟩)
 |_=>none
def guardOf(g:FuncId):Option TypeId:=(cfg.rows.find? fun n=>arE 1000000 n&&aqP (n % 1000000) g).map fun n=>n/1000000- 1
def EU(g:FuncId)(bs:List (Nat×Nat))(args:List (PV SE)):Option (TypeId×FuncId×List (Nat×Nat)):=
 match bs,args with
 |[],[.one (.fn c tM)]=>(guardOf cfg g).map fun t=>(t,c,tM)
 |_,_=>none
def Dv(d:Nat)(V:SS):Option Nat:=
 match ct d 2 V.g with
 |some (.one (.pt j 0 1))=>match V.l[j]? with
  |some (.var [.v (.i z)])=>if z==0 then some j else none
  |_=>none
 |_=>none
def HX(d f:Nat)(dst:Option Nat)(g:FuncId)(t:TypeId)(c:FuncId)(tM:List (Nat×Nat))(V:SS)(k:PV SE→SS→ab):ab:=
 .call (3*P.funcs.size+g) true (dO [.i t])<|
  rP P cfg self (fun t' pv W=>match pv,Dv (d+1) W with
   |.ag [.v e],some j=>if aqP t' t then .aQ (.rw e) (k (.one (.v e)) {W with g:=jt (d+1) W.g,nt:=V.nt,l:=((W.l++[LO.dead]).set W.l.length LO.dead).set j (.var [.v e])})else .fail 171
   |_,_=>.fail 172) (d+1) (f*1000+dst.getD 999+1) none c (tM.map fun(k,ext)=>.one (.pt k 0 ext))
   {V with n:=V.n+1,l:=V.l++[.var [.v (.i 0)]],g:=(d+1,2,.one (.pt V.l.length 0 1))::jt (d+1) V.g,nt:=3} fun _ W=>match Dv (d+1) W with
    |some j=>k (.one (.v (.i 0))) {W with g:=jt (d+1) W.g,nt:=V.nt,l:=W.l.set j (.var [.v (.i 0)])}
    |none=>.fail 173
def EV(d f:Nat)(dst:Option Nat)(g:FuncId)(args:List (PV SE))(V:SS)(k:PV SE→SS→ab):ab:=
 match EU cfg g [] args with
 |some (t,c,tM)=>match P.funcs[g]? with
  |some fn=>if fn.body.isSome&&fn.name != "runtime.NumGoroutine" then HX P cfg self d f dst g t c tM V k else .fail 18
  |none=>.fail 18
 |none=>rP P cfg self kx d f dst g args V k
def EW(d f:Nat)(dst:Option Nat)(g:FuncId)(args:List (PV SE))(V:SS)(k:SS→ab):ab:=
 let V1:SS:={V with lv:=V.lv+1}
 match oU (EV P cfg self (fun _ _ _=>.fail 0) d f dst g args V1 fun pv W=>let W:=W.bJ d dst pv;.bad 999999 W.n W.lv 0 0 W.g W.l W.g W.l)with
 |none=>.fail 150
 |some (V2,_)=>
  let h:=(cfg.hints.find? fun h=>aqP h.d d&&aqP h.f f&&aqP h.id (1000000+dst.getD 999)).getD ⟨d,f,1000000+dst.getD 999,[],[],[],[]⟩
  let Vg:=gcS (tZ h (settle h.xp V2))
  let(g',n,init):=JQ h Vg.g V.n []
  let(l',n,_):=Z7 h 0 Vg.l n init
  let H:SS:=⟨g',l',V.n+(n- V.n),V.lv,V.nt⟩
  .kz (EV P cfg self kx d f dst g args V1 fun pv W=>
   let W:=tZ h (settle h.xp (W.bJ d dst pv))
   match inst V.n (n- V.n) H W with
   |some (args,_)=>.next V.lv (dO args)
   |none=>.bad d f (1000000+dst.getD 999) V.n n H.g H.l W.g W.l) (n- V.n) (k H)
def sQ(V:SS):List (PV SE)→Option (List SE×SS)
 |[]=>some ([],V)
 |pv::c8=>match sN V pv with
  |some (_,z,V)=>match sQ V c8 with
   |some (zs,V)=>some (z::zs,V)
   |none=>none
  |none=>none
def AP:List (PV SE)→Bool
 |[]=>true
 |.tu _::_=>false
 |_::l=>AP l
def M1(fn:Func)(V:SS)(r:SE)(k:PV SE→SS→ab):ab:=
 match fn.resultTypes.toList with
 |[t]=>qR P t r (k (ofType P t r) V)
 |ts=>Ol P r 0 ts (k (.tu (JK P r 0 ts)) V)
def EX(g:FuncId)(zs:List SE)(j:Nat)(V:SS)(k:PV SE→SS→ab):ab:=
 match V.l[j]? with
 |some (.row s false false _ es)=>if arH g P.funcs.size then .aQ (.rws es) (.call (P.funcs.size+g) true (dO (es::zs)) (k (.one (.sr j)) ((({V with n:=V.n+1}:SS).rO j).setObj j (.row s false false false (.var V.n)))))else .fail 13
 |_=>.fail 14
def rQ:List (PV SE)→List (Nat×Nat)×List (PV SE)
 |.one (.pt k 0 ext)::r=>((k,ext)::(rQ r).1,(rQ r).2)
 |r=>([],r)
def xu(V:SS):List (Nat×Nat)→Option (List (List SE))
 |[]=>some []
 |(k,n)::l=>match V.l[k]? with
  |some (.var ds)=>if aqP ds.length n then(match ET ds,xu V l with
   |some es,some r=>some (es::r)
   |_,_=>none)else none
  |_=>none
def distinct:List Nat→Bool
 |[]=>true
 |k::l=> !(l.any (aqP k))&&distinct l
def lg(y:SE):Nat→List (Nat×Nat)→List (LO SE)→List (LO SE)
 |_,[],L=>L
 |i,(k,n)::l,L=>lg y (i+1) l (L.set k (.var ((asc n).map fun q=>.v (.bN (.proj y (i+1)) q))))
def Z_(g:FuncId)(l:List (Nat×Nat))(rest:List (PV SE))(V:SS)(k:PV SE→SS→ab):ab:=
 match sQ V rest,xu V l,P.funcs[g]? with
 |some (zs,_),some Dw,some fn=>if !rest.all nV then .fail 161 else if !distinct (l.map (·.1))then .fail 162 else match fn.resultTypes.toList with
  |[t]=>.call (2*P.funcs.size+g) true (.ac (dO (Dw.map dO)) (dO zs)) (qR P t (.proj (.var V.n) 0) (k (ofType P t (.proj (.var V.n) 0)) {V with n:=V.n+1,l:=lg (.var V.n) 0 l V.l}))
  |_=>.fail 163
 |_,_,_=>.fail 164
def aaa(g:FuncId)(args:List (PV SE))(V:SS)(k:PV SE→SS→ab):ab:=
 if !(rQ args).1.isEmpty then Z_ P g (rQ args).1 (rQ args).2 V k else
 match args with
 |.one c::rest=>match sQ V rest with
  |some (zs,_)=>if !rest.all nV then .fail 16 else match c with
   |.sr j=>EX P g zs j V k
   |.nl _ s=>newObj V (.row s false false false (.tr s .an)) fun j V=>EX P g zs j V k
   |_=>.fail 17
  |none=>.fail 15
 |_=>.fail 15
def wJ(g:FuncId):Bool:=arH g 100000&&cfg.rows.any (aqP (g+500000))
def zY:bj:={cfg with rows:=cfg.rows.filter fun n=>arH n 500000||arE 600000 n}
def afb(g:FuncId):Bool:=cfg.rows.any (aqP (g+600000))
def cF(g:FuncId):Nat:=
 match P.funcs[g]? with
 |some fn=>match fn.resultTypes.toList with
  |[t]=>match P.underlying t with
   |some (.slice el)=>(aH P el).getD 0
   |_=>0
  |_=>0
 |none=>0
def Oy(g:FuncId)(args:List (PV SE))(V:SS)(k:PV SE→SS→ab):ab:=
 match sQ V args,P.funcs[g]? with
 |some (zs,V'),some fn=>if AP args&&(fn.body.isSome&&fn.name != "runtime.NumGoroutine")then
   .call (4*P.funcs.size+g) true (dO zs) (k (.one (.sr V'.l.length)) {V' with n:=V'.n+1,l:=V'.l++[.row (cF P g) false false false (.var V'.n)]})else .fail 181
 |_,_=>.fail 181
def aab(g:FuncId):Option TypeId:=
 match P.funcs[g]? with
 |some fn=>match fn.resultTypes.toList with
  |[t]=>match P.underlying t with
   |some (.map kt _)=>if gp kt then none else some kt
   |_=>none
  |_=>none
 |none=>none
def JR(g:FuncId)(kt:TypeId)(args:List (PV SE))(V:SS)(k:PV SE→SS→ab):ab:=
 match sQ V args,P.funcs[g]? with
 |some (zs,V'),some fn=>if AP args&&(fn.body.isSome&&fn.name != "runtime.NumGoroutine")then
   .call (5*P.funcs.size+g) true (dO zs) (k (.one (.mp V'.l.length)) {V' with n:=V'.n+1,l:=V'.l++[.mp kt (.var V'.n)]})else .fail 182
 |_,_=>.fail 182
def UX(g:FuncId)(args:List (PV SE))(V:SS)(k:PV SE→SS→ab):ab:=
 match args with
 |.one (.mp j)::rest=>match V.l[j]?,sQ V rest,P.funcs[g]? with
  |some (.mp kt es),some (zs,V'),some fn=>if AP rest&& !gp kt&&(fn.body.isSome&&fn.name != "runtime.NumGoroutine")then
    .call (6*P.funcs.size+g) true (dO (es::zs)) (k (.one (.v (.var V'.n))) {V' with n:=V'.n+1})else .fail 183
  |_,_,_=>.fail 183
 |_=>.fail 183
def UY(d f0:Nat)(p7:Bool)(o:Oper)(c:Call)(V:SS)(k:PV SE→SS→ab):ab:=
 match c.callee with
 |.builtin _=>fE P d o V k
 |.value f=>match bI P d V 0 f with
  |.one (.fn g bs)=>
   let args:=gX P d V c.args.toList c.argTypes.toList
   match EU cfg g bs args with
   |some (t,cf,tM)=>match P.funcs[g]? with
    |some fn=>if !p7&&fn.body.isSome&&fn.name != "runtime.NumGoroutine" then HX P cfg self d f0 o.dst g t cf tM V k else .fail 18
    |none=>.fail 18
   |none=>
   if bs.isEmpty&&wJ cfg g then(match aab P g with|some kt=>JR P g kt args V k|none=>Oy P g args V k)
   else if bs.isEmpty&&afb cfg g then UX P g args V k
   else if bs.isEmpty&&cfg.rows.any (aqP g)then
    match P.funcs[g]? with
    |some fn=>if !p7&&fn.body.isSome&&fn.name != "runtime.NumGoroutine" then aaa P g args V k else .fail 18
    |none=>.fail 18
   else if bs.isEmpty&&cfg.pure.any (aqP g)then
    match sQ V args,P.funcs[g]? with
    |some (zs,V'),some fn=>if AP args&&fn.body.isSome&&fn.name != "runtime.NumGoroutine" then .call g (!args.all nV) (dO zs) (M1 P fn {V' with n:=V'.n+1} (.var V'.n) k)else .fail 115
    |_,_=>.fail 115
   else if p7 then .fail 116 else rP P cfg self kx d f0 o.dst g (args++bs.map fun(k,ext)=>.one (.pt k 0 ext)) V k
  |_=>.fail 117
 |.invoke .. =>.fail 118
def HY(d f0:Nat)(p7:Bool)(o:Oper)(V:SS)(k:PV SE→SS→ab):ab:=
 match o.op with
 |.call c=>UY P cfg self kx d f0 p7 o c V k
 |_=>fE P d o V k
def UZ(d:Nat)(o:Oper)(V:SS):Option (Bool×Cl SE):=
 match o.op with
 |.binOp op t x y _=>match P.underlying t,bI P d V t x,y with
  |some (.slice _),.one c,.const (.slice none 0 0)=>match op with
   |.eql=>some (true,c)
   |.neq=>some (false,c)
   |_=>none
  |_,_,_=>none
 |_=>none
def afc(e:Bool)(c:Cl SE)(V:SS)(k:PV SE→SS→ab):ab:=
 match c with
 |.v z=>.two z (k (.one (.v (.b e))) V) (k (.one (.v (.b (!e)))) V)
 |.w _ z=>.two z (k (.one (.v (.b e))) V) (k (.one (.v (.b (!e)))) V)
 |.nl b _=>k (.one (.v (.b (if b then e else !e)))) V
 |.sr j=>match V.l[j]? with
  |some (.row _ _ _ _ es)=>.two es (k (.one (.v (.b e))) V) (k (.one (.v (.b (!e)))) V)
  |_=>.fail 31
 |_=>.fail 31
def M3:SE→Option IV
 |.i n=>some (.int n)
 |.b t=>some (.bool t)
 |_=>none
def abQ:IV→Option SE
 |.raw (.int .i64 n)=>some (.i n)
 |.raw (.bool b)=>some (.b b)
 |_=>none
def Oz(d:Nat)(V:SS)(o:Oper):Option (PV SE):=
 match o.op with
 |.binOp op t x y _=>match bI P d V t x,bI P d V t y with
  |.one (.v a),.one (.v b)=>match M3 a,M3 b with
   |some u,some v=>((oL P op t x y u v).bind abQ).map fun e=>.one (.v e)
   |_,_=>none
  |_,_=>none
 |.index t x ix=>match P.underlying t,bI P d V t x,bI P d V 0 ix with
  |some (.array n el),.ag cs,.one (.v (.i z))=>match aH P el,qf P el with
   |some s,some _=>if 0≤z∧z<n∧z.toNat*s+s≤cs.length then(if isAgg P el then some (.ag ((cs.drop (z.toNat*s)).take s))else match(cs.drop (z.toNat*s)).take s with
    |[c]=>some (.one c)
    |_=>none)else none
   |_,_=>none
  |_,_,_=>none
 |_=>none
def abR:Bool:=cfg.hints.any fun h=>aqP h.d 999999
def amz:Bool:=cfg.hints.any fun h=>aqP h.d 999998
def U0(d:Nat)(V:SS)(o:Oper):Option (SE×Nat×Cl SE):=
 match o.op with
 |.call c=>match c.callee with
  |.builtin .append=>match gX P d V c.args.toList c.argTypes.toList with
   |[.one base,.one x]=>match c.argTypes[0]?,c.argTypes[1]? with
    |some t0,some t1=>match elemOf P t0,elemOf P t1 with
     |some et,some _=>match aH P et,cn P et,(P.info? et).map (·.bytes)with
      |some s,some z,some bytes=>if aqP s 0|| !aqP z.cells.size s|| !arE bytes 1000000 then none else
       match pJ P V et s base x,base with
       |some (_,es,_),.nl b w=>some (es,s,.nl b w)
       |_,_=>none
      |_,_,_=>none
     |_,_=>none
    |_,_=>none
   |_=>none
  |_=>none
 |_=>none
def HZ(d:Nat)(V:SS)(o:Oper):Option (Nat×Nat×TypeId×SE×SE):=
 match o.op with
 |.next it false=>match bI P d V 0 it with
  |.one (.mp j)=>match V.l[j]? with
   |some (.mp kt x)=>if arE 1000000 kt then(match V.l[kt % 1000000]? with
    |some (.mp lA es)=>if gp lA then none else some (j,kt,lA,es,x)
    |_=>none)else none
   |_=>none
  |_=>none
 |_=>none
def U1(j kt:Nat)(lA:TypeId)(es x:SE)(V:SS)(k:PV SE→SS→ab):ab:=
 match P.underlying (kt/1000000- 1)with
 |some (.map _ _)=>.pick es x (k (.tu [(false,[.v (.b false)])]) V)
   (k (.tu [(false,[.v (.b true)]),(false,[.un]),(false,[.un])]) {V with n:=V.n+2,l:=V.l.set j (.mp kt (.var (V.n+1)))})
 |_=>.fail 190
def AQ(d f0:Nat)(p7:Bool)(o:Oper)(V:SS)(k:PV SE→SS→ab):ab:=
 match(if p7 then none else HZ P d V o)with
 |some (j,kt,lA,es,x)=>U1 P j kt lA es x V k
 |none=>match(if p7 then none else UZ P d o V)with
 |some (e,c)=>afc e c V k
 |none=>match(if !p7&&amz cfg then U0 P d V o else none)with
 |some (es,s,c)=>.aQ (.sub s es (.len es) (.i 0)) (k (.one c) V)
 |none=>match(if !p7&&abR cfg then Oz P d V o else none)with
  |some pv=>k pv V
  |none=>HY P cfg self kx d f0 p7 o V k
def xw(d:Nat)(p7:Bool)(o:Oper)(V:SS):Option (FuncId×List (PV SE)):=
 if p7 then none else match o.op with
 |.call c=>match c.callee with
  |.value f=>match bI P d V 0 f with
   |.one (.fn g bs)=>if cfg.qQ.any (aqP g)&& !(bs.isEmpty&&cfg.pure.any (aqP g))then some (g,gX P d V c.args.toList c.argTypes.toList++bs.map fun(k,ext)=>.one (.pt k 0 ext))else none
   |_=>none
  |_=>none
 |_=>none
def sR(sk:List Nat):Option Nat→List Nat
 |some t=>sk.filter fun x=> !aqP x t
 |none=>sk
def EY(sk:List Nat):Option Nat→List Nat
 |some t=>t::sR sk (some t)
 |none=>sk
def mq(sk:List Nat)(ops:Array Oper)(o:Oper):Bool:=
 match o.guard with
 |some (j,_)=>match(ops[j]?).bind (·.dst)with
  |some t=>vu sk t
  |none=>false
 |none=>false
def GM(t:TypeId):Bool:=
 match P.underlying t with
 |some (.interface _)=>false
 |some _=>true
 |none=>false
def U2(d:Nat)(V:SS)(o:Oper)(rest:List Oper):Option (TypeId×PV SE):=
 match o.op,rest with
 |.makeInterface t x,[p]=>match p.op,o.dst,o.guard,p.guard with
  |.panic (.tmp a),some b,none,none=>if aqP a b&&GM P t then some (t,bI P d V t x)else none
  |_,_,_,_=>none
 |_,_=>none
def gY(d f0:Nat)(p7:Bool)(ops:Array Oper):List Nat→List Oper→SS→(SS→ab)→ab
 |_,[],V,k=>k V
 |sk,o::rest,V,k=>
  if !(match o.dst with|some t=>arH t V.nt|none=>true)then .fail 121 else
  match(if p7 then none else U2 P d V o rest)with
  |some (t,pv)=>kx t pv (V.js d o.dst)
  |none=>
  let run (V:SS):ab:=match xw P cfg d p7 o V with
   |some (g,args)=>EW P cfg self kx d f0 o.dst g args V fun V=>gY d f0 p7 ops (sR sk o.dst) rest V k
   |none=>AQ P cfg self kx d f0 p7 o V fun pv V=>gY d f0 p7 ops (sR sk o.dst) rest (V.bJ d o.dst pv) k
  let skip (V:SS):ab:=gY d f0 p7 ops (EY sk o.dst) rest (V.js d o.dst) k
  match(if mq sk ops o then .skip else sO ops d V o)with
  |.run=>run V
  |.skip=>skip V
  |.test t e want=>.test e ((if want then run else skip) (V.bJ d (some t) (.one (.v (.b true))))) ((if want then skip else run) (V.bJ d (some t) (.one (.v (.b false)))))
  |.fail=>.fail 120
def Dx(d:Nat)(V:SS):jL:=⟨V.nt,(V.g.filterMap fun(d',t,_)=>if aqP d d' then some t else none).filter (fun t=>match ct d t V.g with
 |some (.one (.pt _ _ _))=>true
 |some (.one (.tp _))=>true
 |_=>false),[],V.g.filterMap fun(d',t,_)=>if aqP d d' then(match ct d t V.g with
  |some (.one (.pt k _ _))=>some (t,k)
  |_=>none)else none,[]⟩
def ais(d:Nat)(a:Code)(V:SS):Option Nat:=
 match a with
 |.seq (.region _ ops false) _=>match ops.toList with
  |[o]=>match o.op with
   |.binOp .lss _ (.tmp i) (.const (.int .i64 n)) _=>match ct d i V.g with
    |some (.one (.v (.i z)))=>if z==0&&decide (0≤n)&&decide (n≤4)then some (n.toNat+1)else none
    |_=>none
   |_=>none
  |_=>none
 |_=>none
def Sv:Code→Bool
 |.seq a _=>Sv a
 |.region _ ops _=>ops.toList.any fun o=>match o.op with
  |.next _ false=>true
  |_=>false
 |_=>false
def JS(d f:Nat)(a:Code)(k:yw→SS→ab):Nat→SS→ab
 |0,_=>.fail 180
 |n+1,V=>self d f a V fun ex W=>match ex with
  |.normal=>JS d f a k n W
  |ex=>k ex W
def m_:mZ:=fun d f c V k=>
 match c with
 |.skip|.label _=>k .normal V
 |.region _ ops draw=>
  if draw then(if(dq ops).ok&&(EL ops (dq ops)||mh P (dq ops) ops.toList.zipIdx (Dx d V))then gY P (if mh P (dq ops) ops.toList.zipIdx (Dx d V)then cfg else zY cfg) self (fun t pv V=>k (.bU t pv) V) d f true ops [] ops.toList V fun V=>k .normal V else .fail 130)
  else gY P cfg self (fun t pv V=>k (.bU t pv) V) d f false ops [] ops.toList V fun V=>k .normal V
 |.seq a b=>self d f a V fun ex V=>match ex with
  |.normal=>self d f b V k
  |ex=>k ex V
 |.cond c a b=>match bI P d V 0 c with
  |.one (.v (.b true))=>self d f a V k
  |.one (.v (.b false))=>self d f b V k
  |.one (.v e)=>match c with
   |.tmp t=>if !arH t V.nt then .fail 131 else .test e (self d f a (V.bJ d (some t) (.one (.v (.b true)))) k) (self d f b (V.bJ d (some t) (.one (.v (.b false)))) k)
   |_=>.fail 131
  |.one (.w _ e)=>match c with
   |.tmp t=>if !arH t V.nt then .fail 131 else .test e (self d f a (V.bJ d (some t) (.one (.v (.b true)))) k) (self d f b (V.bJ d (some t) (.one (.v (.b false)))) k)
   |_=>.fail 131
  |_=>.fail 132
 |.block id a=>self d f a V fun ex V=>match ex with
  |.exit br=>if aqP id br then k .normal V else k (.exit br) V
  |ex=>k ex V
 |.loop a=>match(if abR cfg then ais d a V else none)with
  |some n=>JS self d f a k n V
  |none=>
  let id:=zX a
  let h:=(cfg.hints.find? fun h=>aqP h.d d&&aqP h.f f&&aqP h.id id).getD ⟨d,f,id,[],[],[],[]⟩
  let V0:=tZ h (settle h.xp V)
  let Vg:=gcS V0
  let(g,n,init):=JQ h Vg.g Vg.n []
  let(l,n,_):=Z7 h 0 Vg.l n init
  let H:SS:=⟨g,l,V0.n+(n- V0.n),V.lv+1,V.nt⟩
  match inst V0.n (n- V0.n) H V0 with
  |some (args,_)=>(if Sv a then ab.uniq else fun k=>k)<|.loop (dO args) (self d f a H fun ex W=>match ex with
   |.normal=>match inst V0.n (n- V0.n) H (settle h.xp W)with
    |some (args,_)=>.next V.lv (dO args)
    |none=>.bad d f id V0.n n H.g H.l W.g W.l
   |ex=>k ex W)
  |none=>.bad d f id V0.n n H.g H.l V0.g V0.l
 |.scope a=>self d f a V k
 |.exit id=>k (.exit id) V
 |.ret=>k .ret V
 |_=>.fail 133
end step
def exec(n:Nat):mZ:=atY (fun _ _ _ _ _=>.fail 140) (fun _ s=>m_ P cfg s) n
def dj:Nat→List TypeId→List (PV SE)
 |_,[]=>[]
 |j,t::ts=>ofType P t (.var j)::dj (j+1) ts
def oV:Nat→List TypeId→ab→ab
 |_,[],k=>k
 |j,t::ts,k=>qR P t (.var j) (oV (j+1) ts k)
def aI(n:Nat)(new:Bool)(f:FuncId):ab:=
 match P.funcs[f]? with
 |some fn=>match fn.body with
  |some c=>
   if arE fn.params.size fn.ntmps then
    oV P 0 fn.params.toList<|exec P cfg n 0 f c ⟨setArgs 0 0 (dj P 0 fn.params.toList),[],fn.params.size,0,fn.ntmps⟩ fun ex V=>match ex with
     |.exit _=>.fail 141
     |.bU _ _=>.fail 146
     |_=>match kY P 0 V fn.results.toList with
      |some c8=>match sN V (Du c8)with
       |some (fr,z,_)=>.ret (if new&&fr then .rw z else z)
       |none=>.fail 142
      |none=>.fail 110
   else .fail 143
  |none=>.fail 144
 |none=>.fail 145
end run
end Go.Ev
namespace Go.Ev
variable(P:Program)
def xx(z:IV):Option IV:=if af z then some z else none
def aw:IV→Bool
 |.raw _=>true
 |_=>false
def gC:IV→Option Int
 |.raw (.int _ n)=>some n
 |_=>none
def c_(op:BinOp)(t:TypeId)(a b:IV):Option IV:=
 match iu a,iu b with
 |some .nilIface,_=>none
 |some _,some _=>oL P op t (.func 0) (.func 0) a b
 |_,_=>none
def U3(op:UnOp):IV→Option IV
 |.raw v=>(aK P (Op.unary op v)).map lift
 |_=>none
def U4(src dst:TypeId):IV→Option IV
 |.raw (.string s)=>match P.underlying src,P.underlying dst with
  |some _,some .string=>some (.raw (.string s))
  |_,_=>none
 |.raw v=>(aK P (convert src dst v)).map lift
 |_=>none
def dx(s:Nat):IV→IV→Option IV
 |.tree s' es,i=>match gC i with
  |some n=>if s'=s∧0≤n then match es[n.toNat]? with
   |some x=>if(cellsOf x).length=s then some x else none
   |none=>none
   else none
  |none=>none
 |_,_=>none
def iN(s:Nat)(es:List IV):Bool:=es.all fun e=>(cellsOf e).length==s&&(cellsOf e).all af
def jM(s bytes:Nat):IV→IV→Option IV
 |.tree s1 es,.tree s2 fs=>if s1=s∧s2=s∧0<s∧iN s fs=true∧(4*(es.length+fs.length)+4096)*bytes≤2 ^47∧es.length+fs.length≤2 ^40 then some (.tree s (es++fs))else none
 |_,_=>none
def Xd(s:Nat):IV→IV→IV→Option IV
 |.tree s1 es,i,x=>match gC i with
  |some n=>if s1=s∧0≤n∧n.toNat<es.length∧(cellsOf x).length=s then some (.tree s (es.set n.toNat x))else none
  |none=>none
 |_,_,_=>none
def mu(s:Nat):IV→IV→IV→Option IV
 |.tree s1 es,lo,hi=>match gC lo,gC hi with
  |some l,some h=>if s1=s∧0≤l∧l.toNat≤h.toNat∧0≤h∧h.toNat≤es.length then some (.tree s ((es.take h.toNat).drop l.toNat))else none
  |_,_=>none
 |_,_,_=>none
def Xe(s:Nat):IV→IV→IV→Option IV
 |.tree s1 es,lo,z=>match gC lo with
  |some l=>if s1=s∧0≤l∧l.toNat≤es.length∧(cellsOf z).length=s then some (.tree s (es.take l.toNat++aq1 (es.length- l.toNat) z))else none
  |none=>none
 |_,_,_=>none
def H0:IV→Option IV
 |.tree _ es=>some (.int es.length)
 |_=>none
def wK:IV→Option IV
 |.raw (.string b)=>some (.int b.size)
 |_=>none
def t_:List IV→Option (List Value)
 |[]=>some []
 |c::cs=>match c with
  |.raw (.int q n)=>(t_ cs).map (Value.int q n::·)
  |.raw (.string q)=>(t_ cs).map (Value.string q::·)
  |_=>none
def keyOf:IV→Option Value
 |.raw (.int q n)=>some (.int q n)
 |.raw (.string q)=>some (.string q)
 |.agg cs=>(t_ cs).map fun vs=>.agg vs.toArray
 |_=>none
def nI:List IV→Option (List Value)
 |[]=>some []
 |d::ds=>match d with
  |.av [k,_]=>match keyOf k,nI ds with
   |some v,some vs=>some (v::vs)
   |_,_=>none
  |_=>none
def nowAt(kd:TypeDesc)(k:Value):List Value→Nat→Option (Option Nat)
 |[],_=>some none
 |e::es,n=>match Instr.sameNow kd k e with
  |some true=>some (some n)
  |some false=>nowAt kd k es (n+1)
  |none=>none
def EZ(kt:TypeId):Option TypeDesc:=
 match P.underlying kt with
 |some (.int q)=>some (.int q)
 |some .string=>some .string
 |_=>none
def H2(kt:TypeId)(ks:List Value)(k:Value):Option (Option Nat):=
 match gM P true kt k (ks.map fun e=>(e,.undef,0)),gM P false kt k (ks.map fun e=>(e,.undef,0))with
 |some q,some q'=>if q=q' then(match q with
  |none=>some none
  |some j=>match ks[j]? with
   |some e=>if Instr.sameBits 10000 e k then some (some j)else none
   |none=>none)else none
 |_,_=>none
def fa(kt:TypeId)(ds:List IV)(key:IV):Option (Option Nat):=
 match EZ P kt,nI ds,keyOf key with
 |some kd,some ks,some k=>nowAt kd k ks 0
 |none,some ks,some k=>H2 P kt ks k
 |_,_,_=>none
def lL(w:Nat):IV→IV→Option IV
 |.raw (.string s),.raw (.int .i64 p)=>if 0≤p then(match w with
  |0=>some (.raw (.bool (decide (p.toNat<s.size))))
  |1=>some (.raw (.int .i32 (ass s p.toNat).1))
  |2=>some (.raw (.int .i64 ((p.toNat+(ass s p.toNat).2:Nat))))
  |_=>none)else none
 |.raw (.int q c),p=>if w=7∧0≤c∧c≤1000000 then some (.raw (.int q c))
  else if w=8∧1≤c∧c≤1000000∧(q==IntKind.i64)=true∧(cellsOf p).length=1 then some (.tree 1 (aq1 c.toNat p))else none
 |.av ds,_=>if w=9 then some (.int ds.length)else none
 |_,_=>none
def SE.den(ν:List IV):SE→Option IV
 |.var x=>ν[x]?
 |.i n=>some (.raw (.int .i64 n))
 |.k q n=>some (.raw (.int q n))
 |.b t=>some (.raw (.bool t))
 |.s l=>some (.raw (.string ⟨l.toArray⟩))
 |.raw v=>some (.raw v)
 |.ok e=>(e.den ν).bind xx
 |.rM n e=>(e.den ν).bind fun|.agg cs=>if cs.length=n∧cs.all af then some (.agg cs)else none|_=>none
 |.bN e j=>(e.den ν).bind fun|.agg cs=>(cs[j]?).bind xx|_=>none
 |.idx q e x=>(e.den ν).bind fun a1=>(x.den ν).bind fun b1=>dx q a1 b1
 |.FX q e x j=>(e.den ν).bind fun a1=>(x.den ν).bind fun b1=>(dx q a1 b1).bind fun y=>((cellsOf y)[j]?).bind xx
 |.len e=>(e.den ν).bind H0
 |.rj e=>(e.den ν).bind wK
 |.an=>some (.agg [])
 |.ac a r=>(a.den ν).bind fun x=>(r.den ν).bind fun|.agg cs=>some (.agg (x::cs))|_=>none
 |.tr q r=>(r.den ν).bind fun|.agg cs=>if 0<q∧cs.all (fun e=>(cellsOf e).length==q)then some (.tree q cs)else none|_=>none
 |.tp r=>(r.den ν).bind fun|.agg cs=>some (.av cs)|_=>none
 |.cat q bytes e f=>(e.den ν).bind fun a1=>(f.den ν).bind fun b1=>jM q bytes a1 b1
 |.Dr q e x y=>(e.den ν).bind fun a1=>(x.den ν).bind fun b1=>(y.den ν).bind fun c1=>Xd q a1 b1 c1
 |.sub q e lo hi=>(e.den ν).bind fun a1=>(lo.den ν).bind fun b1=>(hi.den ν).bind fun c1=>mu q a1 b1 c1
 |.Oi q e lo z=>(e.den ν).bind fun a1=>(lo.den ν).bind fun b1=>(z.den ν).bind fun c1=>Xe q a1 b1 c1
 |.proj e j=>(e.den ν).bind fun|.av cs=>cs[j]? |_=>none
 |.bin op t a2 b2=>(a2.den ν).bind fun x1=>(b2.den ν).bind fun y1=>c_ P op t x1 y1
 |.un op a=>(a.den ν).bind (U3 P op)
 |.cv q d a=>(a.den ν).bind (U4 P q d)
 |.mx Ds a2 b2=>(a2.den ν).bind fun x1=>(b2.den ν).bind fun y1=>if Ds then Jm P [x1,y1]else Ng P [x1,y1]
 |.FY e x=>(e.den ν).bind fun a1=>(x.den ν).bind fun b1=>match a1,b1 with
  |.raw (.string q),.raw (.int _ n)=>if 0≤n then(q.data.toList[n.toNat]?).map fun c=>.raw (.int .u8 c.toNat)else none
  |_,_=>none
 |.GH e lo hi=>(e.den ν).bind fun a1=>(lo.den ν).bind fun b1=>(hi.den ν).bind fun c1=>match a1,gC b1,gC c1 with
  |.raw (.string q),some l,some h=>if 0≤l∧l.toNat≤h.toNat∧0≤h∧h.toNat≤q.size then some (.raw (.string ⟨((q.data.toList.drop l.toNat).take (h.toNat- l.toNat)).toArray⟩))else none
  |_,_,_=>none
 |.dec w a p=>(a.den ν).bind fun a1=>(p.den ν).bind fun b1=>lL w a1 b1
 |.rw e=>(e.den ν).bind fun z=>if aw z then some z else none
 |.rws e=>(e.den ν).bind fun|.tree q es=>if es.all (fun e=>(cellsOf e).all aw)then some (.tree q es)else none|_=>none
 |.has kt m key=>(m.den ν).bind fun a1=>(key.den ν).bind fun k1=>match a1 with
  |.av ds=>(fa P kt ds k1).map fun r=>.bool r.isSome
  |_=>none
 |.get kt m key z=>(m.den ν).bind fun a1=>(key.den ν).bind fun k1=>(z.den ν).bind fun d1=>match a1 with
  |.av ds=>match fa P kt ds k1 with
   |some (some j)=>match ds[j]? with
    |some (.av [_,y1])=>some y1
    |_=>none
   |some none=>some d1
   |none=>none
  |_=>none
 |.ins kt m key x=>(m.den ν).bind fun a1=>(key.den ν).bind fun k1=>(x.den ν).bind fun y1=>match a1 with
  |.av ds=>match fa P kt ds k1 with
   |some (some j)=>some (.av (ds.set j (.av [k1,y1])))
   |some none=>some (.av (ds++[.av [k1,y1]]))
   |none=>none
  |_=>none
theorem SE.cR{ν μ:List IV}:∀(e:SE) {z:IV},e.den P ν=some z→e.den P (ν++μ)=some z:=by
 have hb:∀{o o':Option IV} {f:IV→Option IV} {z:IV},(∀y,o=some y→o'=some y)→o.bind f=some z→o'.bind f=some z:=by
  intro o o' f z h hz;cases o with
  |none=>cases hz
  |some y=>rw[h y rfl];exact hz
 intro e;induction e with
 |var x=>intro z h;simp only[SE.den]at h⊢;rw[aqQ (aqF.1 h).1];exact h
 |i n=>intro z h;exact h
 |k q n=>intro z h;exact h
 |b t=>intro z h;exact h
 |s l=>intro z h;exact h
 |raw v=>intro z h;exact h
 |an=>intro z h;exact h
 |ok e ih=>intro z h;exact hb (fun y=>ih) h
 |rM n e ih=>intro z h;exact hb (fun y=>ih) h
 |bN e j ih=>intro z h;exact hb (fun y=>ih) h
 |rj e ih=>intro z h;exact hb (fun y=>ih) h
 |len e ih=>intro z h;exact hb (fun y=>ih) h
 |tr q r ih=>intro z h;exact hb (fun y=>ih) h
 |tp r ih=>intro z h;exact hb (fun y=>ih) h
 |proj e j ih=>intro z h;exact hb (fun y=>ih) h
 |un op a ih=>intro z h;exact hb (fun y=>ih) h
 |cv q d a ih=>intro z h;exact hb (fun y=>ih) h
 |rw e ih=>intro z h;exact hb (fun y=>ih) h
 |rws e ih=>intro z h;exact hb (fun y=>ih) h
 |idx q e x fk eH|FX q e x j fk eH|ac a r fk eH|cat q by' e f fk eH|bin op t a b fk eH|mx Ds a b fk eH|FY e x fk eH|has kt m key fk eH|dec w a p fk eH=>
  intro z h;simp only[SE.den,aqZ]at h⊢;obtain⟨a,h1,b,h2,h3⟩:=h;exact⟨a,fk h1,b,eH h2,h3⟩
 |Dr q e x y fk eH zZ|sub q e lo hi fk eH zZ|Oi q e lo z' fk eH zZ|GH e lo hi fk eH zZ|ins kt m key x fk eH zZ|get kt m key z' fk eH zZ=>
  intro z h;simp only[SE.den,aqZ]at h⊢;obtain⟨a,h1,b,h2,c,h3,h4⟩:=h;exact⟨a,fk h1,b,eH h2,c,zZ h3,h4⟩
abbrev Cr:=FuncId→Bool→List IV→IV→Prop
def ir(ν:List IV)(e:SE):Option (List IV):=
 match e.den P ν with
 |some (.agg cs)=>some cs
 |_=>none
def ab.sat(C:Cr)(Q:IV→Prop):ab→List (List IV→Prop)→List IV→Prop
 |.fail _,_,_=>False
 |.ret e,_,ν=>∃z,e.den P ν=some z∧Q z
 |.test e a b,K,ν=>(e.den P ν=some (.bool true)∧a.sat C Q K ν)∨(e.den P ν=some (.bool false)∧b.sat C Q K ν)
 |.two e a b,K,ν=>∃q es,e.den P ν=some (.tree q es)∧b.sat C Q K ν∧(es=[]→a.sat C Q K ν)
 |.bind e k,K,ν=>∃z,e.den P ν=some z∧k.sat C Q K (ν++[z])
 |.aQ e k,K,ν=>(∃z,e.den P ν=some z)∧k.sat C Q K ν
 |.call f new args k,K,ν=>∃xs z,ir P ν args=some xs∧C f new xs z∧k.sat C Q K (ν++[z])
 |.pick es x a b,K,ν=>∃ds rem,es.den P ν=some (.av ds)∧(∃r,x.den P ν=some (.av (.av ds::.av rem::r)))∧(rem=[]→a.sat C Q K ν)∧∀i y,rem[i]?=some y→b.sat C Q K (ν++[y,.av [.av ds,.av (rem.eraseIdx i),y]])
 |.same es x k,K,ν=>∃ds r,es.den P ν=some (.av ds)∧x.den P ν=some (.av (.av ds::r))∧k.sat C Q K ν
 |.uniq k,K,ν=>∃z,Q z∧k.sat C (·=z) (K.map fun _ _=>False) ν
 |.loop init body,K,ν=>∃vs,ir P ν init=some vs∧∃m:Nat,(atY (motive:=fun _=>List IV→Prop) (fun _=>False) (fun _ ih vs=>body.sat C Q (K++[ih]) (ν++vs)) m) vs
 |.kz body m cont,K,ν=>body.sat C Q (K++[fun vs=>vs.length=m∧cont.sat C Q K (ν++vs)]) ν
 |.next lv args,K,ν=>∃vs p,ir P ν args=some vs∧K[lv]?=some p∧p vs
 |.bad ..,_,_=>False
abbrev rR(K K':List (List IV→Prop)):Prop:=All2 (fun p q=>∀vs,p vs→q vs) K K'
theorem rR.snoc{K K':List (List IV→Prop)}(h:rR K K'){p q:List IV→Prop}(hp:∀vs,p vs→q vs):rR (K++[p]) (K'++[q]):=h.app ⟨hp,trivial⟩
theorem rR.refl:∀(K:List (List IV→Prop)),rR K K
 |[]=>trivial
 |_::K=>⟨fun _ h=>h,rR.refl K⟩
theorem rR.no:∀(K:List (List IV→Prop)),rR (K.map fun _ _=>False) K
 |[]=>trivial
 |_::K=>⟨fun _ h=>h.elim,rR.no K⟩
theorem rR.nos:∀{K K':List (List IV→Prop)},rR K K'→rR (K.map fun _ _=>False) (K'.map fun _ _=>False)
 |[],[],_=>trivial
 |_::_,_::_,h=>⟨fun _ h=>h,rR.nos h.2⟩
 |[],_::_,h=>h.elim
 |_::_,[],h=>h.elim
theorem ab.eu{C:Cr}:∀(f:ab) {Q Q':IV→Prop} {K K':List (List IV→Prop)} {ν:List IV},(∀z,Q z→Q' z)→rR K K'→f.sat P C Q K ν→f.sat P C Q' K' ν
 |.fail _,_,_,_,_,_,_,_,h=>h
 |.bad ..,_,_,_,_,_,_,_,h=>h
 |.ret _,_,_,_,_,_,hq,_,⟨z,h1,h2⟩=>⟨z,h1,hq z h2⟩
 |.test _ a b,_,_,_,_,_,hq,hk,h=>h.imp (fun h=>⟨h.1,eu a hq hk h.2⟩) (fun h=>⟨h.1,eu b hq hk h.2⟩)
 |.two _ a b,_,_,_,_,_,hq,hk,⟨q,es,h1,h2,h3⟩=>⟨q,es,h1,eu b hq hk h2,fun he=>eu a hq hk (h3 he)⟩
 |.bind _ k,_,_,_,_,_,hq,hk,⟨z,h1,h2⟩=>⟨z,h1,eu k hq hk h2⟩
 |.aQ _ k,_,_,_,_,_,hq,hk,⟨h1,h2⟩=>⟨h1,eu k hq hk h2⟩
 |.call _ _ _ k,_,_,_,_,_,hq,hk,⟨xs,z,h1,h2,h3⟩=>⟨xs,z,h1,h2,eu k hq hk h3⟩
 |.pick _ _ a b,_,_,_,_,_,hq,hk,⟨ds,rem,h1,h2,h3,h4⟩=>⟨ds,rem,h1,h2,fun he=>eu a hq hk (h3 he),fun i y hy=>eu b hq hk (h4 i y hy)⟩
 |.same _ _ k,_,_,_,_,_,hq,hk,⟨ds,r,h1,h2,h3⟩=>⟨ds,r,h1,h2,eu k hq hk h3⟩
 |.uniq k,_,_,_,_,_,hq,hk,⟨z,h1,h2⟩=>⟨z,hq z h1,eu k (fun _ h=>h) hk.nos h2⟩
 |.next lv _,_,_,_,_,_,_,hk,⟨vs,p,h1,h2,h3⟩=>by
  have vb:=aqE (by rw[←hk.len];exact(aqF.1 h2).1);exact⟨vs,_,h1,vb,hk.get h2 vb vs h3⟩
 |.kz a m b,_,_,_,_,_,hq,hk,h=>eu a hq (hk.snoc fun _ hv=>⟨hv.1,eu b hq hk hv.2⟩) h
 |.loop _ b,Q,Q',K,K',ν,hq,hk,⟨vs,h1,m,hm⟩=>by
  have key:∀(m:Nat) (vs:List IV),(atY (motive:=fun _=>List IV→Prop) (fun _=>False) (fun _ ih vs=>b.sat P C Q (K++[ih]) (ν++vs)) m) vs→(atY (motive:=fun _=>List IV→Prop) (fun _=>False) (fun _ ih vs=>b.sat P C Q' (K'++[ih]) (ν++vs)) m) vs:=by
   intro m;induction m with
   |zero=>intro vs h;exact h
   |succ m ih=>intro vs h;exact eu b hq (hk.snoc ih) h
  exact⟨vs,h1,m,key m vs hm⟩
end Go.Ev
namespace Go.Ev
variable{P:Program}{N:Nat}{σ ah:St}{R R':Rs}{φ aG:Ph}{E:Nat→Env}{ν:List IV}
abbrev aj(P:Program)(ν:List IV):SE→Option IV:=fun e=>e.den P ν
theorem bytes_eta(b:ByteArray):(⟨b.data.toList.toArray⟩:ByteArray)=b:=by cases b;simp
variable{L:List (LO SE)}{Γ:Gm SE}
theorem Ld(t:TypeId)(v:Value):cz (aj P ν) R φ L σ (.raw v) (xq P t v):=by
 have raw:∀u:Value,(∀c,u≠.agg c)→(∀c,u≠.tuple c)→cz (aj P ν) R φ L σ (.raw u) (.v (.raw u)):=fun u h1 h2=>by
  refine⟨.raw u,rfl,.raw u,?_⟩;cases u<;>first|rfl|exact absurd rfl (h1 _)|exact absurd rfl (h2 _)
 unfold xq;split
 ·exact⟨_,rfl,.raw _,rfl⟩
 ·exact⟨_,rfl,.raw _,rfl⟩
 ·exact⟨_,rfl,.raw _,rfl⟩
 ·rename_i b;refine⟨.raw (.string b),?_,.raw _,rfl⟩;show some (IV.raw (.string ⟨b.data.toList.toArray⟩))=_;rw[bytes_eta]
 ·split
  ·rename_i s hs;split
   ·exact raw _ (by simp) (by simp)
   ·rename_i h;have:s≠0:=by simpa[Nat.beq_eq]using h
    exact⟨by omega,rfl⟩
  ·exact raw _ (by simp) (by simp)
 ·trivial
 ·trivial
 ·exact raw _ (fun c hc=>by subst hc;simp_all) (fun c hc=>by subst hc;simp_all)
theorem AR:∀(ts:List TypeId) (vs:List Value),ts.length=vs.length→All2 (cz (aj P ν) R φ L σ) (vs.map .raw) (UP (xq P) ts vs)
 |[],[],_=>trivial
 |t::ts,v::vs,h=>⟨Ld t v,AR ts vs (by simpa using h)⟩
 |[],_::_,h=>by simp at h
 |_::_,[],h=>by simp at h
theorem U5(t:TypeId)(v:Value):VR (aj P ν) R φ L σ (lift v) (JJ P t v):=by
 have key:cz (aj P ν) R φ L σ (.raw v) (xq P t v):=Ld t v;cases v with
 |agg cs=>
  simp only[JJ,lift];split
  ·rename_i h;exact⟨_,rfl,AR _ _ (aqO h)⟩
  ·trivial
 |_=>exact key
theorem mv{t:TypeId}{z:Value}(h:cn P t=some z):All2 (cz (aj P ν) R φ L σ) (z.cells.toList.map .raw) (zeroCells P t):=by
 unfold zeroCells;rw[h];simp only;split
 ·rename_i hh;exact AR _ _ (aqO hh)
 ·refine .mk (by simp) fun i a b h1 h2=>?_;rw[List.getElem?_map]at h2;obtain⟨_,_,rfl⟩:=Option.map_eq_some_iff.1 h2;trivial
theorem aZ{V:SS}(h:J (aj P ν) R φ V.g V.l E σ)(d:Nat)(t:TypeId)(x:Operand):VR (aj P ν) R φ V.l σ (aq (E d) x) (bI P d V t x):=by
 cases x with
 |tmp y=>
  show VR _ _ _ _ _ ((E d).at y) ((ct d y V.g).getD (.one .un));cases hg:ct d y V.g with
  |none=>trivial
  |some pv=>exact h.slot d y pv hg
 |const v=>exact U5 t v
 |func f=>exact .inl ⟨rfl,rfl⟩
 |global g=>trivial
theorem aY.af{fr:Bool}{x y:IV}(h:aY fr R σ x y)(hy:Ev.af y=true):Ev.af x=true:=by
 cases h<;>first|exact hy|rfl|(simp[Ev.af]at hy;done)
theorem aY.adr{fr:Bool}{x y:IV}(h:aY fr R σ x y)(hx:Ev.af x=true):Ev.af y=true:=by
 cases h<;>first|exact hx|rfl|(simp[Ev.af]at hx;done)
theorem cz.af{x:IV}{c:Cl SE}(h:cz (aj P ν) R φ L σ x c)(hn:c≠.un):Ev.af x=true:=by
 cases c with
 |un=>exact absurd rfl hn
 |v z=>obtain⟨y,_,h1,h2⟩:=h;exact h1.af h2
 |w fr z=>obtain⟨y,_,h1,h2⟩:=h;exact h1.af h2
 |pt k off ext=>obtain⟨id,cs,_,_,rfl⟩:=h;rfl
 |tp cs=>obtain⟨ds,rfl,_⟩:=h;rfl
 |tw fr cs=>obtain⟨_,⟨_,ds,rfl,_⟩|⟨id,off,ep,m,cA,au,mn,_,_,_,_,rfl,_⟩⟩:=h<;>rfl
 |sr k=>obtain⟨s,st,cut,fr,z,es,_,_,⟨_,_,rfl|rfl⟩|⟨id,cs,au,mn,cap,_,_,rfl,_⟩⟩:=h<;>rfl
 |sv k lo=>obtain⟨s,st,cut,fr,z,es,y,n,_,_,_,_,_,(⟨_,_,rfl|rfl⟩|⟨id,cs,au,mn,cap,_,_,rfl,_⟩)|⟨_,rfl⟩⟩:=h<;>rfl
 |pr k i off ext=>obtain⟨s,st,cut,fr,z,es,y,n,id,cs,au,mn,_,_,_,_,_,_,_,_,rfl⟩:=h;rfl
 |mp k=>obtain⟨id,kt,es,_,_,rfl⟩:=h;split<;>rfl
 |nl b s=>obtain⟨_,rfl⟩:=h;cases b<;>rfl
 |fn f bs=>obtain⟨_,rfl⟩|⟨ys,rfl,_⟩:=h<;>rfl
theorem GN:∀{cs:List (Cl SE)},rl cs=true→∀c∈cs,c≠.un
 |[],_,c,hc=>by cases hc
 |d::cs,h,c,hc=>by
  have hd:d≠.un∧rl cs=true:=by
   cases d<;>simp_all[rl]
  rcases List.mem_cons.1 hc with rfl|hc
  ·exact hd.1
  ·exact GN hd.2 c hc
theorem pK{xs:List IV}{cs:List (Cl SE)}(h:All2 (cz (aj P ν) R φ L σ) xs cs)(hn:rl cs=true):xs.all Ev.af=true:=by
 rw[List.all_eq_true];intro x hx;obtain⟨i,hi⟩:=List.getElem?_of_mem hx;have hl:i<cs.length:=by rw[←h.len];exact(aqF.1 hi).1
 have hc:cs[i]?=some cs[i]:=aqE hl;exact(h.get hi hc).af (GN hn _ (List.mem_of_getElem? hc))
theorem yy{x:IV}{pv:PV SE}(h:VR (aj P ν) R φ L σ x pv)(hn:rl (er pv)=true):All2 (cz (aj P ν) R φ L σ) (cellsOf x) (er pv):=by
 cases pv with
 |one c=>
  have bo:=cz.af (c:=c) h (GN hn c (by simp[er]))
  have:cellsOf x=[x]:=by
   cases x<;>first|rfl|(simp[Ev.af]at bo;done)
  rw[this];exact⟨h,trivial⟩
 |ag cs=>obtain⟨xs,rfl,h2⟩:=h;exact h2
 |tu vs=>simp[er,rl]at hn
theorem AS{s:Nat}:∀{es:List IV} (_:∀e∈es,(cellsOf e).length=s) {i j:Nat} {e d:IV},es[i]?=some e→(cellsOf e)[j]?=some d→(flat es)[i*s+j]?=some d:=by
 intro es;induction es with
 |nil=>intro _ i j e d h;simp at h
 |cons a es ih=>
  intro bC i j e d he hd;have ha:(cellsOf a).length=s:=bC a (by simp);unfold flat;rw[as6];cases i with
  |zero=>
   simp at he;subst he;rw[aqQ (by have:=(aqF.1 hd).1;omega)];simpa using hd
  |succ i=>
   simp at he;rw[are,List.getElem?_append_right (by omega),ha];have:=ih (fun e he=>bC e (by simp[he])) he hd;rw[show i*s+1*s+j- s=i*s+j by omega];exact this
theorem na{s:Nat}:∀{es:List IV} (_:∀e∈es,(cellsOf e).length=s),(flat es).length=es.length*s:=by
 intro es;induction es with
 |nil=>intro _;simp[flat]
 |cons a es ih=>
  intro bC;have:=ih (fun e he=>bC e (by simp[he]));unfold flat at this⊢;rw[as6,List.length_append,this,bC a (by simp),List.length_cons,are];omega
theorem U6(V:SS)(k:Nat)(o:LO SE):(V.setObj k o).l=V.l.set k o:=rfl
theorem aac{V:SS}{k s:Nat}{cut fr:Bool}{z:SE}(h:J (aj P ν) R φ V.g V.l E σ)(hk:V.l[k]?=some (.row s false cut fr z)):
 ∃R',jZ (aj P ν) (aj P ν) R φ V.l σ R' φ (V.l.set k (.row s true cut fr z)) σ (fun _=>False)∧J (aj P ν) R' φ V.g (V.l.set k (.row s true cut fr z)) E σ:=by
 obtain⟨bA,es,he,bC,hor⟩:=h.obj k _ hk;have ot:=c7 hk;have aW:(V.l.set k (.row s true cut fr z))[k]?=some (.row s true cut fr z):=by simp[ot]
 have aT:∀j,j≠k→(V.l.set k (.row s true cut fr z))[j]?=V.l[j]? :=fun j hj=>List.getElem?_set_ne (fun hc=>hj hc.symm)
 have abS:∀R',iv R σ R' σ→jZ (aj P ν) (aj P ν) R φ V.l σ R' φ (V.l.set k (.row s true cut fr z)) σ (fun _=>False):=fun R' hg=>by
  refine .mk' (fun _ _ h=>h) hg (fun j cs hj=>?_) (fun j kt es hj=>?_) (fun j s' st tV cX z' hj _=>?_)
  ·by_cases bD:j=k
   ·subst bD;rw[hk]at hj;cases hj
   ·exact⟨⟨cs,by rw[aT j bD];exact hj⟩,rfl⟩
  ·by_cases bD:j=k
   ·subst bD;rw[hk]at hj;cases hj
   ·exact⟨⟨es,by rw[aT j bD];exact hj⟩,rfl⟩
  ·by_cases bD:j=k
   ·subst bD;rw[hk]at hj;cases hj;exact⟨⟨true,aW⟩,rfl,fun _ _=>rfl⟩
   ·exact⟨⟨st,by rw[aT j bD];exact hj⟩,rfl,fun _ _=>rfl⟩
 rcases hor with⟨h1,h2⟩|⟨id,cs,au,mn,h1,h2,h3,h4,h5,h6,h7⟩
 ·have hs:=abS R (iv.refl h.fits);refine⟨R,hs,{h with slot:=fun d t pv hg=>(h.slot d t pv hg).step hs pv.aU,obj:=fun j o hj=>?_,lt:=fun j id hj=>by simpa using h.lt j id hj}⟩;by_cases bD:j=k
  ·subst bD;rw[aW]at hj;cases hj;exact⟨bA,es,he,bC,.inl ⟨h1,h2⟩⟩
  ·rw[aT j bD]at hj;exact(h.obj j o hj).step hs rfl (fun _ _=>⟨rfl,rfl⟩) o.aU
 ·let R':Rs:=fun i=>if i=id then some (es.length*s)else R i
  have AT:R id=none:=by simpa using h5
  have hg:iv R σ R' σ:=by
   refine⟨fun i m hm=>⟨m,?_,aqK _⟩,fun i m cq ik oS hm aA=>⟨cq,ik,aA,aqK _,fun _ _=>rfl⟩,fun i m cq ik oS hm aA=>?_⟩
   ·have:i≠id:=fun hc=>by rw[hc,AT]at hm;cases hm
    simp[R',this,hm]
   ·simp only[R']at hm;split at hm
    ·rename_i hc;subst hc;cases hm;rw[h2]at aA;cases aA;exact h4
    ·exact h.fits i m cq ik oS hm aA
  have hs:=abS R' hg;refine⟨R',hs,{h with slot:=fun d t pv yc=>(h.slot d t pv yc).step hs pv.aU,obj:=fun j o hj=>?_,lt:=fun j id hj=>by simpa using h.lt j id hj,p6:=fun i m hm=>?_,fits:=hg.fits}⟩
  ·by_cases bD:j=k
   ·subst bD;rw[aW]at hj;cases hj;exact⟨bA,es,he,bC,.inr ⟨id,cs,au,mn,h1,h2,h3,h4,by simp[R'],h6,fun j x d hx hd=>(h7 j x d hx hd).mono hg⟩⟩
   ·rw[aT j bD]at hj;refine(h.obj j o hj).step hs rfl (fun i hi=>⟨rfl,?_⟩) o.aU;have:i≠id:=fun hc=>bD (h.inj j k id (by rw[←hc];exact hi) h1);simp[R',this]
  ·simp only[R']at hm;split at hm
   ·rename_i hc;subst hc;exact(h.lt _ _ h1).2
   ·exact h.p6 i m hm
theorem OA{x:IV}{k s:Nat}{cut fr:Bool}{z:SE}(h:J (aj P ν) R φ Γ L E σ)(hk:L[k]?=some (.row s true cut fr z))(hx:cz (aj P ν) R φ L σ x (.sr k)):
 ∃y,z.den P ν=some y∧aY fr R σ x y∧af y=true:=by
 obtain⟨bA,es,he,bC,hor⟩:=h.obj k _ hk;obtain⟨s',lr,tV,cX,z',aB,h1,h2,oi⟩:=hx;rw[hk]at h1;cases h1;rw[he]at h2;cases h2;refine⟨_,he,?_,rfl⟩;rcases oi with⟨h3,h4,h5⟩|⟨id,cs,au,mn,cap,h3,h4,rfl,h5,h6,h7⟩
 ·have:es=[]:=List.eq_nil_of_length_eq_zero h4;subst this;rcases h5 with rfl|rfl
  ·exact .nil s bA
  ·exact .emp s bA
 ·rcases hor with⟨h8,_⟩|⟨br,cq,ik,oS,h8,h9,FQ,HP,H3,h13,h14⟩
  ·rw[h3]at h8;cases h8
  ·rw[h3]at h8;cases h8;rw[h4]at h9;cases h9;refine .sl id (0*s) (es.length- 0) cap au s (es.length*s) cs au mn es (by simpa using H3) h4 FQ (aqK _) bA rfl (by simp) HP bC fun i e j c d he hd hc=>?_;refine h14 (i*s+j) c d (by simpa using hc) (AS bC he hd)
def iY(P:Program)(ν:List IV)(R:Rs)(φ:Ph)(V:SS)(σ:St)(R':Rs)(V':SS):Prop:=
 V'.g=V.g∧V'.n=V.n∧V'.ln=V.ln∧jZ (aj P ν) (aj P ν) R φ V.l σ R' φ V'.l σ (fun _=>False)
theorem jZ.trans{α:Type}{ev:α→Option IV}{R1 R2 R3:Rs}{du Cs φ3:Ph}{L1 L2 L3:List (LO α)}{ai dc u7:St}(h:jZ ev ev R1 du L1 ai R2 Cs L2 dc (fun _=>False))(k:jZ ev ev R2 Cs L2 dc R3 φ3 L3 u7 (fun _=>False)):
 jZ ev ev R1 du L1 ai R3 φ3 L3 u7 (fun _=>False):=by
 refine⟨fun _ _ h=>h,⟨fun id m hm=>?_,fun id m cs au mn hm aA=>?_,k.grow.fits⟩,fun j cs hj=>?_,fun j kt es hj=>?_,fun j s st cut fr z hj hb=>?_⟩
 ·obtain⟨m1,h1,h2⟩:=h.grow.le id m hm;obtain⟨m2,h3,h4⟩:=k.grow.le id m1 h1;exact⟨m2,h3,aq2 h2 h4⟩
 ·obtain⟨nJ,AU,h1,h2,h3⟩:=h.grow.keep id m cs au mn hm aA;obtain⟨m1,h4,h5⟩:=h.grow.le id m hm;obtain⟨cs2,sS,h6,h7,h8⟩:=k.grow.keep id m1 nJ AU mn h4 h1;exact⟨cs2,sS,h6,aq2 h2 h7,fun j hj=>by rw[h8 j (by omega),h3 j hj]⟩
 ·obtain⟨⟨cq,h1⟩,h2⟩:=h.var j cs hj;obtain⟨h3,h4⟩:=k.var j cq h1;exact⟨h3,h4.trans h2⟩
 ·obtain⟨⟨aB,h1⟩,h2⟩:=h.map j kt es hj;obtain⟨h3,h4⟩:=k.map j kt aB h1;exact⟨h3,h4.trans h2⟩
 ·obtain⟨⟨rS,rT,z1,h1,cW⟩,h2,h3⟩:=h.row j _ _ _ _ _ hj hb;obtain⟨⟨Xf,Xg,z2,h4,h4'⟩,h5,h6⟩:=k.row j _ _ _ _ _ h1 hb;refine⟨⟨Xf,Xg,z2,h4,fun es he=>?_⟩,h5.trans h2,fun id cs au mn hid aA=>?_⟩
  ·obtain⟨eP,a1,a2⟩:=cW es he;obtain⟨gK,b1,b2⟩:=h4' eP a1;exact⟨gK,b1,b2.trans a2⟩
  ·obtain⟨nJ,z7,a1,a2,a3⟩:=h3 id cs au mn hid aA;obtain⟨cs2,Ct,b1,b2,b3⟩:=h6 id nJ au z7 (by rw[h2];exact hid) a1;exact⟨cs2,Ct,b1,b2.trans a2,fun h=>b3 (a3 h)⟩
theorem iY.refl{V:SS}(h:J (aj P ν) R φ V.g V.l E σ):iY P ν R φ V σ R V:=
 ⟨rfl,rfl,rfl,.mk' (fun _ _ h=>h) (iv.refl h.fits) (fun k cs hk=>⟨⟨cs,hk⟩,rfl⟩) (fun k kt es hk=>⟨⟨es,hk⟩,rfl⟩) (fun k s st cut fr z hk _=>⟨⟨st,hk⟩,rfl,fun _ _=>rfl⟩)⟩
theorem iY.trans{V V1 V2:SS}{R1 R2:Rs}(h:iY P ν R φ V σ R1 V1)(k:iY P ν R1 φ V1 σ R2 V2):iY P ν R φ V σ R2 V2:=
 ⟨k.1.trans h.1,k.2.1.trans h.2.1,k.2.2.1.trans h.2.2.1,h.2.2.2.trans k.2.2.2⟩
theorem iY.Lf{V V1:SS}{R1:Rs}(h:iY P ν R φ V σ R1 V1){x:IV}{c:Cl SE}(hx:cz (aj P ν) R φ V.l σ x c):cz (aj P ν) R1 φ V1.l σ x c:=hx.step h.2.2.2 c.aU
theorem iY.vr{V V1:SS}{R1:Rs}(h:iY P ν R φ V σ R1 V1){x:IV}{c:PV SE}(hx:VR (aj P ν) R φ V.l σ x c):VR (aj P ν) R1 φ V1.l σ x c:=hx.step h.2.2.2 c.aU
theorem FZ{V:SS}(h:J (aj P ν) R φ V.g V.l E σ)(k:Nat):∃R',iY P ν R φ V σ R' (oT k V)∧J (aj P ν) R' φ (oT k V).g (oT k V).l E σ∧
 (∀s st cut fr z,V.l[k]?=some (.row s st cut fr z)→(oT k V).l[k]?=some (.row s true cut fr z)):=by
 unfold oT;split
 ·rename_i s cut fr es hk;obtain⟨R',h1,h2⟩:=aac h hk;refine⟨R',⟨rfl,rfl,rfl,h1⟩,h2,fun s' lr tV cX z' cy=>?_⟩;rw[hk]at cy;cases cy;simp[U6,c7 hk]
 ·rename_i hn;refine⟨R,.refl h,h,fun s st cut fr z hk=>?_⟩;cases st with
  |true=>exact hk
  |false=>exact absurd hk (hn _ _ _ _)
theorem Dy{V V':SS}{c:Cl SE}{fr:Bool}{z:SE}(h:J (aj P ν) R φ V.g V.l E σ)(hr:vK V c=some (fr,z,V')):
 ∃R',iY P ν R φ V σ R' V'∧J (aj P ν) R' φ V'.g V'.l E σ∧∀x,cz (aj P ν) R φ V.l σ x c→∃y,z.den P ν=some y∧aY fr R' σ x y∧af y=true:=by
 cases c with
 |v z'=>
  simp only[vK,aqH,aq6]at hr;obtain⟨rfl,rfl,rfl⟩:=hr;refine⟨R,.refl h,h,fun x ⟨y,h1,h2,h3⟩=>⟨y,h1,?_,h3⟩⟩;have hg:iv (fun _=>none) ⟨0,.lf⟩ R σ:=⟨fun _ _ h=>(by cases h),fun _ _ _ _ _ h=>(by cases h),h.fits⟩;exact h2.mono hg
 |w f z'=>
  simp only[vK,aqH,aq6]at hr;obtain⟨rfl,rfl,rfl⟩:=hr;exact⟨R,.refl h,h,fun x hx=>hx⟩
 |nl b s=>
  simp only[vK,aqH,aq6]at hr;obtain⟨rfl,rfl,rfl⟩:=hr;refine⟨R,.refl h,h,fun x ⟨h1,h2⟩=>⟨.tree s [],?_,?_,rfl⟩⟩
  ·simp[SE.den,h1]
  ·subst h2;cases b
   ·exact .emp s h1
   ·exact .nil s h1
 |sr k=>
  simp only[vK]at hr;split at hr
  ·rename_i s st cut cX es hk;simp only[aqH,aq6]at hr;obtain⟨rfl,rfl,rfl⟩:=hr;obtain⟨R',h1,h2,h3⟩:=FZ h k;exact⟨R',h1,h2,fun x hx=>OA h2 (h3 _ _ _ _ _ hk) (h1.Lf hx)⟩
  ·cases hr
 |un|pt|tp|tw|sv|pr|mp|fn=>simp[vK]at hr
theorem ua:∀{cs:List (Cl SE)} {V V':SS} {R:Rs} {fr:Bool} {zs:List SE},J (aj P ν) R φ V.g V.l E σ→sM V cs=some (fr,zs,V')→
 ∃R',iY P ν R φ V σ R' V'∧J (aj P ν) R' φ V'.g V'.l E σ∧zs.length=cs.length∧∀xs,All2 (cz (aj P ν) R φ V.l σ) xs cs→∃ys,All2 (fun(z:SE) y=>z.den P ν=some y) zs ys∧All2 (aY fr R' σ) xs ys∧ys.all Ev.af=true
 |[],V,V',R,fr,zs,h,hr=>by
  simp only[sM,aqH,aq6]at hr;obtain⟨rfl,rfl,rfl⟩:=hr;refine⟨R,.refl h,h,rfl,fun xs hx=>⟨[],trivial,?_,rfl⟩⟩;cases xs with
  |nil=>trivial
  |cons=>exact hx.elim
 |c::cs,V,V',R,fr,zs,h,hr=>by
  simp only[sM]at hr;split at hr
  ·rename_i f1 z V1 h1;split at hr
   ·rename_i f2 zs' V2 h2;simp only[aqH,aq6]at hr;obtain⟨rfl,rfl,rfl⟩:=hr;obtain⟨R1,a1,a2,a3⟩:=Dy h h1;obtain⟨R2,b1,b2,bl,b3⟩:=ua a2 h2;refine⟨R2,a1.trans b1,b2,by simp[bl],fun xs hx=>?_⟩;cases xs with
    |nil=>exact hx.elim
    |cons x xs=>
     obtain⟨y,c1,c2,c3⟩:=a3 x hx.1;obtain⟨ys,d1,d2,d3⟩:=b3 xs (hx.2.mono fun _ _ bT=>a1.Lf bT);exact⟨y::ys,⟨c1,d1⟩,⟨(c2.mono b1.2.2.2.grow).wide (fun h=>by simp[h]),d2.mono fun _ _ bT=>bT.wide (fun h=>by simp[h])⟩,by simp[c3,d3]⟩
   ·cases hr
  ·cases hr
theorem ew:∀{zs:List SE} {ys:List IV},All2 (fun(z:SE) y=>z.den P ν=some y) zs ys→(dO zs).den P ν=some (.agg ys)
 |[],[],_=>rfl
 |z::zs,y::ys,h=>by simp[dO,SE.den,h.1,ew h.2]
 |[],_::_,h=>h.elim
 |_::_,[],h=>h.elim
end Go.Ev
namespace Go.Ev
abbrev ab.nt(e:SE)(a b:ab):ab:=.aQ e (.test e a b)
abbrev ab.nr(e:SE):ab:=.aQ e (.ret e)
abbrev ab.nx(n:Nat)(e r:SE):ab:=.aQ e (.next n (.ac e r))
abbrev ju(a b:Nat):SE:=.bN (.var a) b
abbrev gL(a:Nat):SE:=.ok (.var a)
abbrev OB(a:BinOp)(b:TypeId)(c d:SE):SE:=.ok (.bin a b c d)
abbrev Cu(a b c:SE):SE:=.ac a (.ac b c)
abbrev Xh(a b:SE)(c d:ab):ab:=.aQ a (.nt b c d)
abbrev rp5(a:BinOp)(b:TypeId)(c:Nat)(d:SE):SE:=OB a b (.var c) d
abbrev H4(a b:Nat):SE:=.len (ju a b)
abbrev jf(a:SE):SE:=.ac a .an
abbrev Dz:SE:=.b false
abbrev kA(a:Nat):SE:=.len (gL a)
abbrev ub(a:SE)(b c:Nat)(d:SE):SE:=Cu a (ju b c) d
abbrev GO(a b c d:Nat)(e:SE):SE:=ub (ju a b) c d e
abbrev sU(a:FuncId)(b:SE)(c:ab):ab:=.call a false b c
abbrev DA(a:Nat)(b c:SE)(d:ab):ab:=.bind (.idx a b c) d
abbrev dI(a b:SE)(c:ab):ab:=.aQ a (.aQ b c)
abbrev a_:ab:=.ret Dz
abbrev lM(a b:Nat):SE:=.rM a (.var b)
abbrev cH:SE:=.i 0
abbrev lN(a:Nat)(b:SE)(c:Nat)(d:ab):ab:=DA a b (.var c) d
abbrev afd(a:BinOp)(b:TypeId)(c:Nat)(d:Int):SE:=rp5 a b c (.i d)
abbrev amA(a:Nat)(b:BinOp)(c:TypeId)(d:Nat)(e:Int)(f:SE):ab:=.nx a (afd b c d e) f
abbrev DB(a:SE)(b:BinOp)(c:TypeId)(d e:SE)(f g:ab):ab:=Xh a (OB b c d e) f g
abbrev amB(a:Nat)(b:TypeId)(c:Nat)(d:Int)(e:SE):ab:=amA a .add b c d e
abbrev bt:SE:=gL 0
abbrev zm(a b:Nat):SE:=.proj (.var a) b
abbrev amC(a:UnOp)(b:SE):SE:=.ok (.un a b)
abbrev sV(a:SE):SE:=amC .not a
abbrev aad:SE:=jf cH
abbrev afe(a:TypeId)(b:Nat)(c:SE):SE:=rp5 .lss a b c
abbrev kB(a:FuncId)(b:SE)(c:ab):ab:=sU a (jf b) c
abbrev lO(a b:Nat)(c:ab):ab:=.aQ (lM a b) c
abbrev GP(a b:SE)(c d:ab):ab:=Xh a (sV b) c d
abbrev n_(a:BinOp)(b:TypeId)(c d:SE)(e f:ab):ab:=.nt (OB a b c d) e f
abbrev vw(a b:SE):SE:=Cu a b .an
abbrev oW(a b c d:Nat):SE:=GO a b c d .an
abbrev aae(a:ab):ab:=.loop aad a
abbrev amD(a b:Nat)(c:Int)(d:SE):ab:=amB a 3 b c d
abbrev GQ(a b:Nat)(c:SE):ab:=amD a b 1 c
abbrev eZ(a:Nat)(b:ab):ab:=.aQ (gL a) b
abbrev GR(a:SE)(b:TypeId)(c:Nat)(d:SE)(e f:ab):ab:=Xh a (afe b c d) e f
abbrev dT(a b:Nat):ab:=GQ a b .an
abbrev amE(a:Nat)(b:SE)(c d:ab):ab:=GP (gL a) b c d
abbrev qp(a b:Nat)(c d:ab):ab:=amE a (gL b) c d
abbrev rp(a:SE)(b:BinOp)(c d:SE)(e f:ab):ab:=DB a b 3 c d e f
abbrev cj:SE:=kA 0
abbrev aaf(a:SE)(b:TypeId)(c:Nat)(d:SE)(e:Nat)(f:SE)(g:Nat)(h i:ab):ab:=GR a b c d (lN e f g h) i
abbrev kZ:SE:=.b true
abbrev DC(a:TypeId)(b:Nat)(c:SE)(d e:ab):ab:=.nt (afe a b c) d e
abbrev GS(a:Nat):SE:=.tr a .an
abbrev OC(a:TypeId)(b:Nat)(c:SE)(d:Nat)(e:SE)(f:Nat)(g h:ab):ab:=DC a b c (lN d e f g) h
abbrev rq(a:Nat):SE:=jf (.var a)
abbrev aff(a:BinOp)(b:TypeId)(c d:Nat)(e:SE)(f g:ab):ab:=n_ a b (ju c d) e f g
abbrev nb(a b:Nat)(c d:SE)(e:ab):ab:=.bind (.cat a b c d) e
abbrev ru(a:Int):ab:=.ret (.i a)
abbrev aag(a b:SE)(c:ab):ab:=.loop (vw a b) c
abbrev oa(a:SE)(b:BinOp)(c:SE)(d:Int)(e f:ab):ab:=rp a b c (.i d) e f
abbrev afg(a b c d e f g h:Nat):SE:=GO a b c d (oW e f g h)
abbrev vy(a:SE)(b:ab):ab:=.aQ (.rw a) b
abbrev gi(a b:Nat)(c:FuncId)(d:SE)(e:ab):ab:=lO a b (kB c d e)
abbrev afh(a:SE):ab:=.ret (.tp a)
abbrev AV(a b c:Nat):ab:=GQ a b (rq c)
abbrev JT(a:Nat):SE:=H4 1 a
abbrev uc:ab:=.ret kZ
abbrev dP:SE:=.var 5
abbrev dy:SE:=gL 1
abbrev DE(a:Nat)(b:SE):ab:=.next a (jf b)
abbrev amF(a:SE)(b:Int):ab:=vy a (ru b)
abbrev amG(a:SE)(b:TypeId)(c:Nat)(d:SE)(e:Nat)(f:SE)(g:Nat)(h i:ab):ab:=aae (aaf a b c d e f g h i)
abbrev sW:SE:=GS 4
abbrev afi(a b:Nat):SE:=.ok (zm a b)
abbrev gZ(a:FuncId)(b:SE)(c:ab):ab:=.call a true b c
abbrev JU(a:SE)(b:ab):ab:=aag cH a b
abbrev dQ:SE:=gL 2
abbrev mw(a b:Nat)(c:SE)(d:ab):ab:=dI (lM a b) c d
abbrev sX(a:FuncId)(b c:SE)(d:ab):ab:=sU a (vw b c) d
abbrev sY(a b:SE):ab:=afh (vw a b)
abbrev DF(a b:Nat):SE:=jf (ju a b)
abbrev iO(a b:Int):ab:=amF (.i a) b
abbrev amH(a:TypeId)(b:Nat)(c:SE)(d:Nat)(e:SE)(f:Nat)(g h:ab):ab:=aae (OC a b c d e f g h)
abbrev OD(a b c:Nat):SE:=.bN (zm a b) c
abbrev my(a b:Nat)(c:ab)(d e:Nat):ab:=qp a b c (dT d e)
abbrev lP(a b c:Nat)(d:SE)(e:ab):ab:=nb a b (.var c) d e
abbrev AW(a b:SE)(c:Int)(d e:ab):ab:=oa a .gtr b c d e
abbrev vA(a b c:SE)(d e:ab):ab:=rp a .eql b c d e
abbrev dR(a:Nat):SE:=ju a 0
abbrev qq:SE:=kA 2
abbrev DG(a:Nat):SE:=H4 0 a
abbrev DH(a:BinOp)(b c:SE):SE:=OB a 3 b c
abbrev JV(a:BinOp)(b:SE)(c:Int):SE:=DH a b (.i c)
abbrev U7(a b:SE):SE:=Cu a cH b
abbrev g_:SE:=gL 3
abbrev sZ(a:Nat)(b:ab):ab:=.aQ (JT a) b
abbrev kC(a:FuncId)(b:SE)(c:Nat)(d:ab):ab:=kB a b (eZ c d)
abbrev amI(a:Nat)(b:SE)(c d:Nat):SE:=.FX a b (.var c) d
abbrev k_(a:Int):SE:=.k .u8 a
abbrev JW(a:Int):SE:=jf (.i a)
abbrev jI:SE:=gL 5
abbrev OE(a:SE)(b:ab):ab:=dI bt a b
abbrev nc:SE:=.var 2
abbrev OF(a:BinOp)(b c:Nat)(d:SE)(e f:ab):ab:=aff a 3 b c d e f
abbrev jS(a:BinOp)(b c:Nat)(d:Int)(e f:ab):ab:=OF a b c (.i d) e f
abbrev AX(a:Nat):SE:=ju 1 a
abbrev gD:SE:=kA 1
abbrev fc:SE:=DG 1
abbrev M4(a:BinOp)(b:TypeId)(c:SE)(d e:ab):ab:=n_ a b bt c d e
abbrev jv:SE:=.len dP
abbrev abT(a:Nat)(b c d:SE)(e:ab):ab:=.bind (.sub a b c d) e
abbrev qS(a b:SE):SE:=DH .add a b
abbrev eW:SE:=GS 1
abbrev fy:SE:=JT 3
abbrev jx:SE:=.var 8
abbrev fe(a b:SE)(c:Int)(d:ab):ab:=AW a b c a_ d
abbrev vW(a b c d e f:Nat):SE:=GO a b c d (DF e f)
abbrev AY(a b:Nat)(c:ab):ab:=qp a b a_ c
abbrev abU(a:BinOp)(b:Nat)(c:Int):SE:=afd a 3 b c
abbrev U8(a:BinOp)(b:Nat):SE:=abU a b 1
abbrev vX(a:Nat):SE:=U8 .sub a
abbrev fz:SE:=gL 4
abbrev ait(a b:SE):ab:=afh (U7 a b)
abbrev aiu(a:Nat)(b:SE):SE:=U7 (GS a) b
abbrev aiv(a:SE)(b:Int):ab:=ait a (JW b)
abbrev ou:SE:=JT 1
abbrev aiw(a b c:Nat):SE:=oW a b c 1
abbrev H5(a b:Nat):SE:=aiw a 0 b
abbrev E3(a:Int):ab:=.ret (k_ a)
abbrev iZ:SE:=.var 10
abbrev s5(a:BinOp)(b:TypeId)(c:Nat):SE:=rp5 a b c cH
abbrev aix(a:SE)(b:TypeId)(c:Nat)(d:SE)(e:Nat)(f:SE)(g:Nat)(h i:ab):ab:=JU a (OC b c d e f g h i)
abbrev aiy(a b:SE)(c:Nat)(d:SE):SE:=Cu a b (aiu c d)
abbrev aiz(a b:SE)(c:Nat)(d:SE)(e:Int):ab:=aiv (aiy a b c d) e
abbrev jy:SE:=gL 6
abbrev U9:SE:=.rw Dz
abbrev aiA(a:TypeId)(b:Nat):SE:=s5 .geq a b
abbrev U_(a:Nat):SE:=jf (vX a)
abbrev vY(a:Nat):SE:=U8 .add a
abbrev jz:SE:=.var 11
abbrev AZ(a:Nat):ab:=DE a Dz
abbrev Va(a:SE)(b:Nat):ab:=sY a (U_ b)
abbrev i_(a:Nat):SE:=ju a 1
abbrev E4:SE:=JT 0
abbrev vZ:SE:=AX 4
abbrev jA:SE:=JT 2
abbrev M5(a:Nat):ab:=dT 0 a
abbrev l9(a:Nat):SE:=H4 a 1
abbrev aiB(a b c:Nat)(d:SE):SE:=GO a 0 b c d
abbrev H6(a b:Nat)(c:SE):SE:=aiB a b 1 c
abbrev fA(a:SE)(b:Nat)(c:SE)(d:Nat)(e:SE)(f:Nat)(g h:ab):ab:=amG a 3 b c d e f g h
abbrev lB:SE:=DG 2
abbrev kM:ab:=AZ 4
abbrev yz(a:TypeId)(b:SE)(c d:ab):ab:=M4 .eql a b c d
abbrev ov(a:SE)(b:BinOp)(c d:SE)(e:ab):ab:=rp a b c d a_ e
abbrev v7(a:Nat):SE:=H4 a 3
abbrev pL:SE:=AX 3
abbrev qT(a:ab):ab:=OE dy a
abbrev aiC(a b:SE)(c:TypeId)(d:Nat)(e:SE)(f:Nat)(g:SE)(h:Nat)(i j:ab):ab:=JU a (aaf b c d e f g h i j)
abbrev aiD(a:SE)(b:Nat)(c:SE)(d:Int):ab:=aiz sW a b c d
abbrev aiE(a:Nat)(b:SE)(c:Int):ab:=aiD sW a b c
abbrev aiF(a:Nat)(b:Int):ab:=aiE a aad b
abbrev kN(a b c d e f g h i j:Nat):SE:=H6 a b (afg c d e f g h i j)
abbrev lC:SE:=DG 3
abbrev pM(a b:SE)(c d:ab):ab:=vA a b cH c d
abbrev uy(a b c d e f g h:Nat):SE:=H6 a b (vW c d e f g h)
abbrev yA(a:Nat)(b:SE):SE:=vw (.var a) b
abbrev aiG(a b c d e f g:Nat):SE:=afg a 0 b c d e f g
abbrev aiH(a b c d e f:Nat):SE:=aiG a b 1 c d e f
abbrev aiI(a b c d e:Nat):SE:=aiH a b c 2 d e
abbrev kO(a b c d:Nat):SE:=aiI a b c d 3
abbrev aiJ(a:Nat):SE:=H5 0 a
abbrev nf:SE:=aiJ 0
abbrev uz(a:SE)(b c:ab):ab:=.nt (sV a) b c
abbrev s6:SE:=.rj bt
abbrev aiK(a:Nat):ab:=Va U9 a
abbrev v8:ab:=.ret cH
abbrev ng:SE:=i_ 0
abbrev H7(a:SE):SE:=.FY bt a
abbrev aiL(a:Nat):SE:=H7 (.var a)
abbrev s7(a:Nat)(b:SE)(c:Nat)(d:SE)(e:Nat)(f g:ab):ab:=amH 3 a b c d e f g
abbrev yB(a b:SE)(c d:Int)(e:ab):ab:=GP a b (iO c d) e
abbrev s8(a:ab):ab:=.aQ bt a
abbrev lD:SE:=.var 6
abbrev s9:SE:=gL 7
abbrev jB:SE:=gL 9
abbrev kP(a b:Nat):SE:=OD a 0 b
abbrev fB(a:Nat):SE:=H4 a 2
abbrev abV(a:Nat)(b:SE):SE:=.tr a (jf b)
abbrev aiM(a:SE):SE:=qS E4 a
abbrev H8:SE:=aiM ou
abbrev ow:SE:=v7 2
abbrev qU:SE:=.var 9
abbrev yC:SE:=.s []
abbrev uA:SE:=.len jx
abbrev yD(a:SE)(b:TypeId)(c d:SE)(e f:ab):ab:=DB a .eql b c d e f
abbrev qV:SE:=v7 15
abbrev yE(a:ab):ab:=.aQ cj a
abbrev aiN(a b c d:Nat)(e:ab):ab:=mw a b (lM c d) e
abbrev lE(a:BinOp)(b c:Nat)(d e:ab):ab:=OF a b c cH d e
abbrev E5(a:Nat):SE:=aiA 3 a
abbrev aiO(a b c:Nat):SE:=.tr a (DF b c)
abbrev oz(a b:Nat)(c:SE):ab:=GQ a b (jf c)
abbrev s_(a b c d:Nat)(e:SE)(f:ab):ab:=lP a b c (abV d e) f
abbrev jC(a:Nat):SE:=afi a 1
abbrev pN:SE:=.var 14
abbrev ta:ab:=M5 2
abbrev pO:SE:=dR 0
abbrev pP:ab:=aiK 0
abbrev oA(a b:Nat)(c:FuncId)(d e f g:Nat)(h:ab):ab:=gi a b c (kO d e f g) h
abbrev aiP(a:SE)(b c:Nat):SE:=amI 1 a b c
abbrev tb(a:SE)(b:Nat):SE:=aiP a b 0
abbrev E6(a:BinOp)(b:SE):SE:=JV a b 1
abbrev pQ(a:SE):SE:=.ok (.rw a)
abbrev A4(a b:Nat):ab:=AV 1 a b
abbrev abW(a:Int):ab:=aiF 6 a
abbrev qW:SE:=AX 1
abbrev qX(a:Nat):ab:=A4 4 a
abbrev qY:SE:=l9 2
abbrev qZ:SE:=aiL 1
abbrev A5(a:Nat)(b:ab):ab:=.aQ (vY a) b
abbrev oB(a:SE)(b:Nat)(c:SE)(d:Nat)(e:SE)(f:Nat)(g:ab):ab:=fA a b c d e f g uc
abbrev tc:SE:=kA 3
abbrev aiQ(a b:Nat)(c:SE)(d:Nat)(e f:ab):ab:=s7 a cj b c d e f
abbrev ni(a b c:Nat)(d e:ab):ab:=aiQ a b bt c d e
abbrev E7(a b c:Nat)(d:SE)(e:ab):ab:=DA a (ju b c) d e
abbrev aiR(a:BinOp):SE:=E6 a vZ
abbrev apT:SE:=aiR .add
abbrev q0(a b:Nat)(c:Int)(d e:ab):ab:=jS .eql a b c d e
abbrev aiS(a b c:Nat):SE:=.rM a (zm b c)
abbrev pR:SE:=.var 3
abbrev aiT(a:FuncId)(b c d e:Nat)(f:ab):ab:=sU a (oW b c d e) f
abbrev yF:SE:=AX 2
abbrev te(a:FuncId)(b:SE)(c d:Nat)(e:ab):ab:=kB a b (AY c d e)
abbrev tf(a b c:SE)(d:ab):ab:=abT 1 a b c d
abbrev abX(a b:Nat)(c:TypeId)(d e:SE)(f g:ab):ab:=yD (lM a b) c d e f g
abbrev aiU(a:TypeId)(b:SE)(c:ab):ab:=yz a b uc c
abbrev M6(a:TypeId)(b:List UInt8)(c:ab):ab:=aiU a (.s b) c
abbrev q3:SE:=.var 4
abbrev th:SE:=gL 8
abbrev gE(a:SE)(b:Nat)(c:SE)(d:Nat)(e:SE)(f:Nat)(g h:ab):ab:=aix a 3 b c d e f g h
abbrev v_:SE:=l9 15
abbrev Vb(a:SE)(b c:Nat)(d:SE):SE:=ub a b c (jf d)
abbrev uB(a:SE):SE:=E6 .sub a
abbrev apU:ab:=abW 6
abbrev uC:SE:=.var 13
abbrev q4(a:SE)(b:Int):SE:=JV .leq a b
abbrev yG:ab:=.ret nc
abbrev uD:ab:=M5 1
abbrev uE:SE:=i_ 2
abbrev uF:SE:=v7 4
abbrev ti(a:Nat):ab:=DE a kZ
abbrev E8(a b:SE):SE:=.idx 1 a b
abbrev A6:SE:=dR 1
abbrev uG(a:Nat)(b:FuncId)(c d:SE)(e:ab):ab:=eZ a (sX b c d e)
abbrev tj:SE:=JT 4
abbrev tl:SE:=DG 0
abbrev A7:ab:=.ret U9
abbrev tq(a b:Nat)(c:TypeId)(d:Nat)(e:SE)(f g:ab):ab:=abX a b c (dR d) e f g
abbrev H9(a:TypeId)(b:List UInt8)(c:TypeId)(d:List UInt8)(e:ab):ab:=M6 a b (M6 c d e)
abbrev yH(a:SE):ab:=.ret (.rws a)
abbrev uH(a:FuncId)(b c:SE)(d:ab):ab:=gZ a (vw b c) d
abbrev wa:SE:=fB 2
abbrev A8(a b:Nat)(c:FuncId)(d e:Nat)(f:ab):ab:=gi a b c (H5 d e) f
abbrev kQ(a b:Nat):ab:=AV 0 a b
abbrev aiV(a:FuncId)(b:SE)(c d:Nat)(e:SE)(f:ab):ab:=sU a (Vb b c d e) f
abbrev wb(a:SE)(b:TypeId)(c:Nat)(d:SE)(e f:ab):ab:=aae (GR a b c d e f)
abbrev aiW(a b c d:SE)(e f:ab):ab:=vA (E8 a b) c d e f
abbrev uI(a b c:SE)(d:Nat)(e:SE)(f g:ab):ab:=aiW a b (tb c d) e f g
abbrev uJ:SE:=gL 11
abbrev we(a:SE)(b:BinOp)(c:SE)(d e:ab):ab:=rp a b c cH d e
abbrev aiX(a:TypeId)(b:Nat)(c:SE):SE:=rp5 .add a b c
abbrev uK(a b:SE)(c:ab):ab:=tf a cH b c
abbrev oC(a b:Nat):SE:=aiO 1 a b
abbrev uL(a b c d:Nat):ab:=my a b a_ c d
abbrev q5(a:Nat)(b:ab):ab:=lO 4 a b
abbrev wg(a:TypeId)(b c d:SE)(e:ab):ab:=.bind (.ins a b c d) e
abbrev abY(a:BinOp)(b:TypeId)(c d:Nat)(e f:ab):ab:=aff a b c d yC e f
abbrev Vc(a:SE):ab:=.ret (.rw a)
abbrev E9:ab:=Vc kZ
abbrev abZ:SE:=.i (-1)
abbrev yI:ab:=E3 0
abbrev yJ:ab:=M5 3
abbrev M7(a:ab):ab:=qT (yE a)
abbrev wh(a:ab):ab:=OE cj a
abbrev uM(a b c d:SE):SE:=Cu a b (vw c d)
abbrev A9:SE:=l9 16
abbrev tv(a:TypeId)(b c:Nat)(d e:ab):ab:=abY .eql a b c d e
abbrev wi:SE:=.var 0
abbrev wj(a:Nat):SE:=afi a 0
abbrev aiY(a:Nat):ab:=.nr (wj a)
abbrev aiZ:SE:=JW 200
abbrev A_:SE:=jf aiZ
abbrev ai0(a:Nat)(b:SE)(c d:Int)(e:ab):ab:=yB (E5 a) b c d e
abbrev yK(a b:Nat)(c d:Int)(e:ab):ab:=ai0 a (E5 b) c d e
abbrev wk(a:SE)(b:ab):ab:=.nt a b a_
abbrev Vd(a:Nat)(b:SE):SE:=aiX 3 a b
abbrev M8(a b c:SE):SE:=Cu a b (jf c)
abbrev tx(a:SE)(b:BinOp)(c:SE)(d:Int)(e:ab):ab:=oa a b c d e a_
abbrev uN(a:Nat):SE:=ju a 2
abbrev yL:SE:=uN 0
abbrev Ba:SE:=dR 6
abbrev Bb:SE:=.tp .an
abbrev Bc(a:Nat)(b c:ab):ab:=uz (.var a) b c
abbrev uO(a:Nat)(b:SE)(c:Nat)(d:SE)(e:Nat)(f:ab)(g:Nat)(h:ab):ab:=s7 a b c d e f (sZ g h)
abbrev Ve(a b:SE):SE:=DH .eql a b
abbrev Be:ab:=qX 5
abbrev Bf:ab:=ru 2
abbrev E_(a:SE):SE:=Vd 2 a
abbrev Fb:SE:=E_ tc
abbrev Bg(a:FuncId)(b:SE)(c:Nat):ab:=gZ a b (aiY c)
abbrev Bh:SE:=JW 20
abbrev Fc(a:FuncId)(b:SE)(c d:Nat)(e:ab):ab:=sU a b (AY c d e)
abbrev tz(a:Nat):SE:=lM 4 a
abbrev uP(a:FuncId)(b c:Nat)(d:SE)(e:ab):ab:=aiV a bt b c d e
abbrev wm(a:BinOp)(b:TypeId)(c:SE)(d:Int):SE:=OB a b c (k_ d)
abbrev ab0(a:Nat):SE:=zm 3 a
abbrev Bi:SE:=ab0 1
abbrev Bj(a:SE):ab:=sY abZ a
abbrev yM(a b c:SE)(d e:ab):ab:=.aQ a (GP b c d e)
abbrev ai1(a:Nat):SE:=tb nc a
abbrev Bk:SE:=ai1 4
abbrev Fe(a:SE):SE:=Ve a cH
abbrev ai2(a b c:Nat)(d:ab):ab:=aiN a 0 b c d
abbrev ai3(a b:Nat)(c:ab):ab:=ai2 a b 1 c
abbrev Bl(a:Nat)(b:ab):ab:=ai3 2 a b
abbrev Vf(a:SE)(b:TypeId)(c d:SE)(e f:ab):ab:=DB a .neq b c d e f
abbrev yN(a:SE)(b:TypeId)(c:SE)(d e:ab):ab:=Vf a b c cH d e
abbrev jD(a b:SE)(c:Nat)(d:SE)(e:Nat)(f:SE)(g:Nat)(h i:ab):ab:=aiC a b 3 c d e f g h i
abbrev wo(a b c:Nat)(d:ab):ab:=E7 a b c cH d
abbrev M9(a b c:SE)(d:ab):ab:=ov a .neq b c d
abbrev Ff(a b:SE)(c:ab):ab:=.aQ (E8 a b) c
abbrev wq(a b:Nat):SE:=aiS a b 0
abbrev Bm(a:TypeId)(b c:SE)(d:ab):ab:=.bind (.has a b c) d
abbrev Bo:SE:=.var 7
abbrev Bp(a b c:Nat)(d:SE):ab:=GQ a b (yA c d)
abbrev Bq(a:BinOp)(b:TypeId)(c:SE)(d:Int)(e:ab):ab:=M4 a b c (E3 d) e
abbrev Br:SE:=gL 10
abbrev H_:ab:=.fail 146
abbrev Vh:ab:=ru (-1)
abbrev apV:ab:=abW 2
abbrev yO(a:SE)(b:ab):ab:=dI jI a b
abbrev Fg:SE:=ab0 0
abbrev Fh:SE:=k_ 95
end Go.Ev
