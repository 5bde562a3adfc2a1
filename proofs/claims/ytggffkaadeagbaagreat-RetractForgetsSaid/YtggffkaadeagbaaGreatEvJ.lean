/- Lemmas over the model, without conditions of their own: code run on expressions, definitions. -/
import Derived.Test.YtggffkaadeagbaaGreatEvI
open Nat renaming beq->ase,ble->as4,blt->as_,rec->avp,eq_of_beq_eq_true->asd,add_mul->asG,le_refl->ar9,le_trans->asr
open List renaming replicate->asn,range->atI,getElem?_append_left->asf,getElem?_eq_some_iff->ar5,getElem?_eq_getElem->ar4,flatMap_cons->auA
open Go.Utf8 renaming decode->atG
open Option renaming bind_eq_some_iff->ass
open Option.some renaming injEq->ar7
open Prod.mk renaming injEq->asx
set_option linter.all false
namespace Go.Ev
inductive SE where
 |var (i:Nat)
 |i (n:Int)
 |k (k:IntKind) (n:Int)
 |b (t:Bool)
 |s (l:List UInt8)
 |raw (v:Value)
 |ok (e:SE)
 |qL (n:Nat) (e:SE)
 |bM (e:SE) (j:Nat)
 |idx (s:Nat) (e i:SE)
 |CK (s:Nat) (e i:SE) (j:Nat)
 |len (e:SE)
 |rB (e:SE)
 |an
 |ac (a r:SE)
 |tr (s:Nat) (r:SE)
 |tp (r:SE)
 |cat (s bytes:Nat) (e f:SE)
 |Bl (s:Nat) (e i x:SE)
 |sub (s:Nat) (e lo hi:SE)
 |HN (s:Nat) (e lo z:SE)
 |proj (e:SE) (j:Nat)
 |bin (op:BinOp) (t:TypeId) (a b:SE)
 |un (op:UnOp) (a:SE)
 |cv (src dst:TypeId) (a:SE)
 |mx (DF:Bool) (a b:SE)
 |As (e i:SE)
 |Gx (e lo hi:SE)
 |rw(e:SE)
 |rws (e:SE)
 |has (kt:TypeId) (m key:SE)
 |get (kt:TypeId) (m key z:SE)
 |ins (kt:TypeId) (m key x:SE)
 |dec (w:Nat) (a p:SE)
 deriving Inhabited
inductive af where
 |fail (why:Nat)
 |ret (e:SE)
 |test (e:SE) (a b:af)
 |two (e:SE) (a b:af)
 |bind (e:SE) (k:af)
 |aG (e:SE) (k:af)
 |call (f:FuncId) (new:Bool) (args:SE) (k:af)
 |loop (init:SE) (body:af)
 |pick (es x:SE) (a b:af)
 |same (es x:SE) (k:af)
 |uniq (k:af)
 |o8 (body:af) (m:Nat) (cont:af)
 |next (lv:Nat) (args:SE)
 |bad (d f id n0 nm:Nat) (hd:List (Nat×Nat×PV SE)) (hl:List (LO SE)) (g:List (Nat×Nat×PV SE)) (l:List (LO SE))
 deriving Inhabited
section eqs
def afh(a b:IntKind):Bool:=a==b
def lA{α:Type}(f:α→α→Bool):List α→List α→Bool
 |[],[]=>true
 |a::as,b::bs=>f a b&&lA f as bs
 |_,_=>false
def SE.eq:SE→SE→Bool
 |.var x,.var y=>ase x y
 |.i x,.i y=>x==y
 |.k j x,.k j' y=>afh j j'&&x==y
 |.b x,.b y=>x==y
 |.s x,.s y=>lA (·==·) x y
 |.ok x,.ok y=>x.eq y
 |.bM e j,.bM f j'=>ase j j'&&e.eq f
 |.idx q e x,.idx q' e' x'=>ase q q'&&e.eq e'&&x.eq x'
 |.CK q e x j,.CK q' e' x' j'=>ase q q'&&ase j j'&&e.eq e'&&x.eq x'
 |.len e,.len f=>e.eq f
 |.rB e,.rB f=>e.eq f
 |.an,.an=>true
 |.ac a r,.ac a' r'=>a.eq a'&&r.eq r'
 |.tr q r,.tr q' r'=>ase q q'&&r.eq r'
 |.tp r,.tp r'=>r.eq r'
 |.proj e j,.proj f j'=>ase j j'&&e.eq f
 |.bin op t x y,.bin op' t' x' y'=>op==op'&&ase t t'&&x.eq x'&&y.eq y'
 |.un op x,.un op' x'=>op==op'&&x.eq x'
 |.cv q d x,.cv q' d' x'=>ase q q'&&ase d d'&&x.eq x'
 |.mx t x y,.mx t' x' y'=>t==t'&&x.eq x'&&y.eq y'
 |.rw x,.rw y=>x.eq y
 |.As e x,.As e' x'=>e.eq e'&&x.eq x'
 |.dec w e x,.dec w' e' x'=>ase w w'&&e.eq e'&&x.eq x'
 |_,_=>false
end eqs
structure SS where
 g:List (Nat×Nat×PV SE)
 l:List (LO SE)
 n:Nat
 lv:Nat
 nt:Nat
 deriving Inhabited
def SS.ln(V:SS):Nat×Nat:=(V.lv,V.nt)
structure Hint where
 d:Nat
 f:Nat
 id:Nat
 HO:List (Nat×Nat×Nat)
 xN:List (Nat×Nat)
 drop:List (Nat×Nat)
 xO:List (Nat×Nat×Nat)
 deriving Inhabited
structure aL where
 pure:List Nat
 dM:List Nat
 stop:List Nat
 hints:List Hint
 rows:List Nat
section run
variable(P:Program)(cfg:aL)
def fieldAt(s:TypeId)(f:Nat):Option (Nat×Nat):=
 match P.underlying s with
 |some (.struct fields)=>match fields[f]? with
  |some fd=>match aI P fd.type with
   |some sz=>some (fd.offset,sz)
   |none=>none
  |none=>none
 |_=>none
def elemOf(t:TypeId):Option TypeId:=
 match P.underlying t with
 |some (.slice e)=>some e
 |_=>none
def rT:Nat→TypeId→List TypeId
 |0,_=>[]
 |n+1,t=>match P.underlying t with
  |some (.struct fields)=>fields.toList.flatMap fun f=>rT n f.type
  |some (.array m e)=>(asn m (rT n e)).flatten
  |_=>[t]
def EI(t:TypeId):Bool:=
 match P.underlying t with
 |some .bool|some (.int _)|some .string=>true
 |_=>false
def xP(t:TypeId):Value→Cl SE
 |.bool b=>.v (.b b)
 |.int .i64 n=>.v (.i n)
 |.int k n=>.v (.k k n)
 |.string b=>.v (.s b.data.toList)
 |.slice none 0 0=>match(elemOf P t).bind (aI P)with
  |some s=>if ase s 0 then .v (.raw (.slice none 0 0))else .nl true s
  |none=>.v (.raw (.slice none 0 0))
 |.agg _|.tuple _=>.un
 |v=>.v (.raw v)
def Uu{α β γ:Type}(f:α→β→γ):List α→List β→List γ
 |a::as,b::bs=>f a b::Uu f as bs
 |_,_=>[]
def Js(t:TypeId):Value→PV SE
 |.agg cs=>if ase (rT P 9 t).length cs.toList.length then .ag (Uu (xP P) (rT P 9 t) cs.toList)else .one .un
 |v=>.one (xP P t v)
def zeroCells(t:TypeId):List (Cl SE):=
 match cj P t with
 |some z=>if ase (rT P 9 t).length z.cells.toList.length then Uu (xP P) (rT P 9 t) z.cells.toList else z.cells.toList.map fun _=>.un
 |none=>[]
def isAgg(t:TypeId):Bool:=(qo P t)==some true
def bG(d:Nat)(V:SS)(t:TypeId):Operand→PV SE
 |.tmp x=>(cn d x V.g).getD (.one .un)
 |.const v=>Js P t v
 |.func f=>.one (.fn f [])
 |.global _=>.one .un
def ew{α:Type}:PV α→List (Cl α)
 |.one c=>[c]
 |.ag cs=>cs
 |.tu _=>[.un]
def rC:List (Cl SE)→Bool
 |[]=>true
 |.un::_=>false
 |_::cs=>rC cs
def SS.bH(V:SS)(d:Nat)(dst:Option Nat)(pv:PV SE):SS:=
 match dst with
 |none=>V
 |some t=>{V with g:=NH d t pv V.g}
def SS.jm(V:SS)(d:Nat)(dst:Option Nat):SS:=
 match dst with
 |none=>V
 |some t=>{V with g:=Bk d t V.g}
def SS.rU(V:SS)(k:Nat):SS:={V with g:=HJ k V.g,l:=V.l.map (LO.drop k)}
def SS.setObj(V:SS)(k:Nat)(o:LO SE):SS:={V with l:=V.l.set k o}
def dN:List SE→SE
 |[]=>.an
 |a::as=>.ac a (dN as)
def o9(k:Nat)(V:SS):SS:=
 match V.l[k]? with
 |some (.row s false cut fr es)=>V.setObj k (.row s true cut fr es)
 |_=>V
def wj(V:SS):Cl SE→Option (Bool×SE×SS)
 |.v z=>some (true,z,V)
 |.w fr z=>some (fr,z,V)
 |.nl _ s=>some (false,.tr s .an,V)
 |.sr k=>match V.l[k]? with
  |some (.row _ _ _ fr es)=>some (fr,es,o9 k V)
  |_=>none
 |_=>none
def sN(V:SS):List (Cl SE)→Option (Bool×List SE×SS)
 |[]=>some (false,[],V)
 |c::cs=>match wj V c with
  |some (f1,z,V)=>match sN V cs with
   |some (f2,zs,V)=>some (f1||f2,z::zs,V)
   |none=>none
  |none=>none
def sO(V:SS):PV SE→Option (Bool×SE×SS)
 |.one c=>wj V c
 |.ag cs=>match sN V cs with
  |some (f,zs,V)=>some (f,dN zs,V)
  |none=>none
 |.tu vs=>match NQ V vs with
  |some (f,zs,V)=>some (f,.tp (dN zs),V)
  |none=>none
where NQ (V:SS):List (Bool×List (Cl SE))→Option (Bool×List SE×SS)
 |[]=>some (false,[],V)
 |(a,cs)::vs=>match sN V cs with
  |some (f1,zs,V)=>match NQ V vs with
   |some (f2,ys,V)=>match a,zs with
    |true,zs=>some (f1||f2,dN zs::ys,V)
    |false,[z]=>some (f1||f2,z::ys,V)
    |_,_=>none
   |none=>none
  |none=>none
def ui:List (Cl SE)→Bool
 |[]=>true
 |.v _::cs=>ui cs
 |.nl _ _::cs=>ui cs
 |_::_=>false
def od:PV SE→Bool
 |.one c=>ui [c]
 |.ag cs=>ui cs
 |.tu _=>false
def ofType(t:TypeId)(e:SE):PV SE:=
 if isAgg P t then .ag ((atI ((aI P t).getD 0)).map fun j=>.v (.bM e j))else .one (.v (.ok e))
def qV(t:TypeId)(e:SE)(k:af):af:=if isAgg P t then .aG (.qL ((aI P t).getD 0) e) k else .aG (.ok e) k
def NR(e:SE):Nat→List TypeId→af→af
 |_,[],k=>k
 |j,t::ts,k=>qV P t (.proj e j) (NR e (j+1) ts k)
def vk(e:SE)(V:SS)(k:PV SE→SS→af):af:=.aG e (k (.one (.v e)) V)
def Jt(e:SE):Nat→List TypeId→List (Bool×List (Cl SE))
 |_,[]=>[]
 |j,t::ts=>(isAgg P t,ew (ofType P t (.proj e j)))::Jt e (j+1) ts
def gO(d:Nat)(V:SS):List Operand→List TypeId→List (PV SE)
 |x::xs,t::ts=>bG P d V t x::gO d V xs ts
 |x::xs,[]=>bG P d V 0 x::gO d V xs []
 |[],_=>[]
def NS(d:Nat)(V:SS):List Operand→Option (List (Nat×Nat))
 |[]=>some []
 |x::xs=>match bG P d V 0 x with
  |.one (.pt k 0 ext)=>match NS d V xs with
   |some l=>some ((k,ext)::l)
   |none=>none
  |_=>none
def Au(cells:List (Cl SE))(off:Nat)(new:List (Cl SE)):List (Cl SE):=cells.take off++new++cells.drop (off+new.length)
def mY(get:Nat→Operand→List (Cl SE))(place:Nat→Option (Nat×Nat)):List (Nat×Operand)→List (Cl SE)→Option (List (Cl SE))
 |[],cs=>some cs
 |(j,x)::ps,cs=>match place j with
  |some (off,sz)=>
   let new:=get j x
   if rC new&&ase new.length sz&&as4 (off+sz) cs.length then mY get place ps (Au cs off new)else none
  |none=>none
def afi(fields:Array Field)(j:Nat):TypeId:=((fields[j]?).map (·.type)).getD 0
def adB(fields:Array Field)(j:Nat):Option (Nat×Nat):=(fields[j]?).bind fun f=>(aI P f.type).map fun s=>(f.offset,s)
def RT(s j:Nat):Option (Nat×Nat):=some (j*s,s)
def HP:SE→Bool
 |.i _|.k _ _|.b _|.s _=>true
 |_=>false
def rdT(V:SS)(c:Cl SE)(t:TypeId):Option (Bool×SE×SS×List SE):=
 match c with
 |.v z=>if EI P t then some (false,z,V,if HP z then[]else[z])else some (true,z,V,[])
 |c=>match wj V c with
  |some (fr,z,V)=>some (fr,z,V,[])
  |none=>none
def Ju(V:SS):List (Cl SE)→List TypeId→Option (Bool×List SE×SS×List SE)
 |[],_=>some (false,[],V,[])
 |c::cs,t::ts=>match rdT P V c t with
  |some (f1,z,V,r1)=>match Ju V cs ts with
   |some (f2,zs,V,r2)=>some (f1||f2,z::zs,V,r1++r2)
   |none=>none
  |none=>none
 |_::_,[]=>none
def xQ(s:Nat):Nat→List SE→List SE
 |0,_=>[]
 |n+1,zs=>dN (zs.take s)::xQ s n (zs.drop s)
def NT(zero:List (Cl SE)):Nat→List (Cl SE)
 |0=>[]
 |n+1=>zero++NT zero n
def W7(ts:List TypeId):Nat→List TypeId
 |0=>[]
 |n+1=>ts++W7 ts n
def Uv:List SE→af→af
 |[],k=>k
 |e::es,k=>.aG (.rw e) (Uv es k)
def newVar(V:SS)(e:SE)(k:SE→SS→af):af:=.bind e (k (.var V.n) {V with n:=V.n+1})
def newObj(V:SS)(o:LO SE)(k:Nat→SS→af):af:=k V.l.length {V with l:=V.l++[o]}
def Uw(t:TypeId)(a:PV SE)(V:SS)(k:PV SE→SS→af):af:=
 let ag:=isAgg P t
 match aI P t,qo P t with
 |none,_=>.fail 1
 |_,none=>.fail 1
 |some s,some _=>
  let out (cs:List (Cl SE)):af:=if ag then(if ase cs.length s then k (.ag cs) V else .fail 2)else match cs with
   |[c]=>k (.one c) V
   |_=>.fail 3
  match a with
  |.one (.pt j off ext)=>match V.l[j]? with
   |some (.var cs)=>if as4 s ext&&as4 (off+s) cs.length then out ((cs.drop off).take s)else .fail 4
   |_=>.fail 5
  |.one (.tp cs)=>if as4 s cs.length then out (((cs.map .v).drop 0).take s)else .fail 4
  |.one (.tw fr cs)=>if as4 s cs.length then out (((cs.map (.w fr)).drop 0).take s)else .fail 4
  |.one (.pr j i off ext)=>match V.l[j]? with
   |some (.row sz _ _ fr es)=>if as4 s ext then out ((((atI sz).map fun q=>.w fr (.CK sz es i q)).drop off).take s)else .fail 4
   |_=>.fail 6
  |_=>.fail 7
def Av(bytes:Nat)(s:Nat)(base:Cl SE)(fr:Bool)(es:SE)(V:SS)(k:PV SE→SS→af):af:=
 match base with
 |.nl _ s'=>if ase s s' then newVar V (.cat s bytes (.tr s .an) es) fun z V=>newObj V (.row s false false fr z) fun j V=>k (.one (.sr j)) V else .fail 10
 |.sr j=>match V.l[j]? with
  |some (.row s' st cut cL aB)=>
   if ase s s'&& !(st&&cut)then newVar V (.cat s bytes aB es) fun z V=>k (.one (.sr j)) (((V.rU j)).setObj j (.row s st cut (fr||cL) z))else .fail 11
  |_=>.fail 12
 |_=>.fail 13
def ai4(j:Nat):Cl SE→Bool
 |.sr j'=> !ase j j'
 |_=>true
def pN(V:SS)(et:TypeId)(s:Nat)(base:Cl SE):Cl SE→Option (Bool×SE×Bool)
 |.sr j=>match V.l[j]? with
  |some (.row s' _ _ fr es)=>if ase s s'&&ai4 j base then some (fr,es,false)else none
  |_=>none
 |.nl _ _=>some (false,.tr s .an,false)
 |.w fr z=>some (fr,z,false)
 |.v z=>if(rT P 9 et).all (EI P)then some (false,z,true)else some (true,z,false)
 |_=>none
def Mr(o:Option (LO SE))(s:Nat)(cut fr:Bool)(es:SE):Bool:=
 match o with
 |some (.row s' false uj cL aB)=>ase s s'&&cut==uj&&fr==cL&&es.eq aB
 |_=>false
def EJ(t:TypeId):Option SE:=
 match cj P t with
 |some (.bool b)=>some (.b b)
 |some (.int q n)=>some (.k q n)
 |some (.string b)=>some (.s b.data.toList)
 |_=>none
def EK:List (Cl SE)→Option (List SE)
 |[]=>some []
 |.v e::ds=>match EK ds with
  |some es=>some (e::es)
  |none=>none
 |_::_=>none
def vu:List (Cl SE)→Option (List SE)
 |[]=>some []
 |c::ds=>match c with
  |.v e|.w _ e=>(vu ds).map (e::·)
  |.nl _ s=>(vu ds).map (.tr s .an::·)
  |_=>none
def Gy:PV SE→Option SE
 |.one (.v e)=>some e
 |.one (.w _ e)=>some e
 |.ag cs=>(vu cs).map dN
 |_=>none
def Jv(kt:TypeId)(m key x:PV SE)(V:SS)(k:PV SE→SS→af):af:=
 match m,Gy key,Gy x with
 |.one (.mp j),some ke,some xe=>match V.l[j]? with
  |some (.mp lz es)=>if ase kt lz&& !gk kt then newVar V (.ins kt es ke xe) fun z V=>k (.one .un) (V.setObj j (.mp kt z))else .fail 63
  |_=>.fail 64
 |_,_,_=>.fail 65
def RU(kt et:TypeId)(m key:PV SE)(ok:Bool)(V:SS)(k:PV SE→SS→af):af:=
 match m,Gy key,EJ P et with
 |.one (.mp j),some ke,some z0=>match V.l[j]? with
  |some (.mp lz es)=>if ase kt lz&& !gk kt then newVar V (.ok (.rw (.get kt es ke z0))) fun r V=>
    if ok then newVar V (.has kt es ke) fun h V=>k (.tu [(false,[.v r]),(false,[.v h])]) V else k (.one (.v r)) V
   else .fail 67
  |_=>.fail 68
 |_,_,_=>.fail 69
def Ms(t:TypeId):Bool:=
 match cj P t with
 |some (.agg cs)=>cs.toList.isEmpty
 |_=>false
def Jw(kt et:TypeId)(m key:PV SE)(ok:Bool)(V:SS)(k:PV SE→SS→af):af:=
 match m,Gy key,(match cj P et with|some (.agg _)=>vu (zeroCells P et)|_=>none),aI P et with
 |.one (.mp j),some ke,some zs,some n=>match V.l[j]? with
  |some (.mp lz es)=>if ase kt lz&& !gk kt then newVar V (.qL n (.get kt es ke (dN zs))) fun r V=>
    let cs:List (Cl SE):=(atI n).map fun j=>.w true (.bM r j)
    if ok then newVar V (.has kt es ke) fun h V=>k (.tu [(true,cs),(false,[.v h])]) V else k (.ag cs) V
   else .fail 67
  |_=>.fail 68
 |_,_,_,_=>.fail 70
def Jy(kt:TypeId)(m key:PV SE)(V:SS)(k:PV SE→SS→af):af:=
 match m,Gy key with
 |.one (.mp j),some ke=>match V.l[j]? with
  |some (.mp lz es)=>if ase kt lz&& !gk kt then .aG (.qL 0 (.get kt es ke .an)) (newVar V (.has kt es ke) fun h V=>k (.tu [(true,[]),(false,[.v h])]) V)else .fail 67
  |_=>.fail 68
 |_,_=>.fail 69
def Gz(d:Nat)(V:SS)(Ux:SE):Option Operand→Option SE
 |none=>some Ux
 |some o=>match bG P d V 3 o with
  |.one (.v e)=>some e
  |_=>none
def stood(V:SS):Cl SE→Bool
 |.sr j=>match V.l[j]? with
  |some (.row _ st _ _ _)=>st
  |_=>false
 |_=>false
def Jz(d:Nat)(t:TypeId)(x:PV SE)(lo hi mx:Option Operand)(V:SS)(k:PV SE→SS→af):af:=
 match P.underlying t,x,mx with
 |some (.slice el),.one c,none=>match aI P el with
  |some s=>match c,lo,hi,stood V c with
   |.sr j,some l,none,false=>match V.l[j]?,bG P d V 3 l with
    |some (.row s' false cut fr es),.one (.v e)=>if ase s s' then .aG (.sub s es e (.len es)) (k (.one (.sv j e)) V)else .fail 24
    |_,_=>.fail 25
   |c,lo,hi,_=>match(match c with|.v _|.nl _ _|.sr _=>wj V c|_=>none)with
    |some (fr,z,V2)=>match Gz P d V (.i 0) lo,Gz P d V (.len z) hi with
     |some l,some h=>newVar V2 (.sub s z l h) fun y V=>k (.one (.w fr y)) V
     |_,_=>.fail 26
    |none=>.fail 27
  |none=>.fail 28
 |_,_,_=>.fail 29
def W8(c:Call)(cP:List (PV SE))(V:SS)(k:PV SE→SS→af):af:=
 match(c.argTypes[0]?).bind P.underlying,cP with
 |some (.slice et),[.one (.sv j lo)]=>match V.l[j]?,cj P et with
  |some (.row s false cut fr es),some z=>
   if ase z.cells.size s&&(isAgg P et||ase s 1)&&rC (zeroCells P et)&&ase (zeroCells P et).length s then
    match sN V (zeroCells P et)with
    |some (f,zs,V2)=>if Mr V2.l[j]? s cut fr es then newVar V2 (.HN s es lo (if isAgg P et then dN zs else zs.headD .an)) fun z V=>k (.one .un) (V.setObj j (.row s false cut (fr||f) z))else .fail 103
    |none=>.fail 103
   else .fail 104
  |_,_=>.fail 105
 |_,_=>.fail 106
def uo:PV SE→Option SE
 |.one (.v e)=>some e
 |.one (.w _ e)=>some e
 |_=>none
def mxS(DF:Bool)(cP:List (PV SE))(V:SS)(k:PV SE→SS→af):af:=
 match cP with
 |[a,b]=>match uo a,uo b with
  |some a,some b=>vk (.ok (.rw (.mx DF a b))) V k
  |_,_=>.fail 75
 |_=>.fail 76
def isStr(t:TypeId):Bool:=match P.underlying t with
 |some .string=>true
 |_=>false
def GA(d:Nat)(x:PV SE)(lo hi mx:Option Operand)(V:SS)(k:PV SE→SS→af):af:=
 match uo x,mx with
 |some a,none=>match Gz P d V (.i 0) lo,Gz P d V (.rB a) hi with
  |some l,some h=>newVar V (.Gx a l h) fun z V=>k (.one (.v z)) V
  |_,_=>.fail 20
 |_,_=>.fail 21
def Uy(d:Nat)(t:TypeId)(l c:Operand)(V:SS)(k:PV SE→SS→af):af:=
 match P.underlying t,bG P d V 0 l,uo (bG P d V 0 c)with
 |some (.slice el),.one (.v (.i 0)),some ce=>match aI P el,cj P el,(P.info? el).map (·.bytes)with
  |some s,some z,some bytes=>if !ase s 0&&ase z.cells.size s&&as4 bytes 1000000&&(z.cells.toList.map IV.raw).all Ev.ab then
    .aG (.dec 7 ce (.b true)) (newObj V (.row s false false false (.tr s .an)) fun j V=>k (.one (.sr j)) V)else .fail 202
  |_,_,_=>.fail 202
 |_,_,_=>.fail 202
def Uz(t:TypeId)(e:SE):Bool×List (Cl SE):=
 if isAgg P t then(true,(atI ((aI P t).getD 0)).map fun j=>.w true (.bM e j))else if EI P t then(false,[.v (.ok (.rw e))])else(false,[.w true (.ok e)])
def HQ(t:TypeId)(e:SE)(k:af):af:=
 if isAgg P t then .aG (.qL ((aI P t).getD 0) e) k else if EI P t then .aG (.ok (.rw e)) k else .aG (.ok e) k
def W9(d:Nat)(it:Operand)(V:SS)(k:PV SE→SS→af):af:=
 match bG P d V 0 it with
 |.one (.mp j)=>match V.l[j]? with
  |some (.mp kt x)=>if as4 1000000 kt then(match V.l[kt % 1000000]?,P.underlying (kt/1000000- 1)with
   |some (.mp lB es),some (.map _ et)=>if gk lB then .fail 191 else .same es x (HQ P lB (.proj (.proj x 2) 0) (HQ P et (.proj (.proj x 2) 1) (k (.tu [Uz P lB (.proj (.proj x 2) 0),Uz P et (.proj (.proj x 2) 1)]) V)))
   |_,_=>.fail 191)else .fail 191
  |_=>.fail 191
 |_=>.fail 191
def NU(d:Nat)(t:TypeId)(x:PV SE)(lo hi mx:Option Operand)(V:SS)(k:PV SE→SS→af):Option af:=
 match P.underlying t,x,lo,hi,mx with
 |some (.slice el),.one c,none,some h,none=>match bG P d V 3 h,aI P el,c with
  |.one (.v (.i 0)),some s,.nl true s'=>if ase s s' then some (k (.one (.nl true s)) V)else none
  |.one (.v (.i 0)),some s,.sr j=>match V.l[j]? with
   |some (.row s' false _ fr es)=>if ase s s' then some (.aG (.idx s es (.i 0)) (k (.one (.sr j)) ((V.rU j).setObj j (.row s false true fr (.tr s .an)))))else none
   |_=>none
  |_,_,_=>none
 |_,_,_,_,_=>none
def fU(d:Nat)(o:Oper)(V:SS)(k:PV SE→SS→af):af:=
 match o.op with
 |.makeFunc (.func f) first cap=>if first.toList.isEmpty then match NS P d V cap.toList with
   |some bs=>k (.one (.fn f bs)) V
   |none=>.fail 60
  else .fail 61
 |.makeMap t r=>match r,P.underlying t with
  |none,some (.map kt _)=>if gk kt then .fail 76 else newObj V (.mp kt (.tp .an)) fun j V=>k (.one (.mp j)) V
  |_,_=>.fail 62
 |.makeSlice t l c=>Uy P d t l c V k
 |.mapUpdate t m key x|.insert t m key x=>match P.underlying t with
  |some (.map kt et)=>Jv kt (bG P d V t m) (bG P d V kt key) (bG P d V et x) V k
  |_=>.fail 66
 |.lookup t m key ok=>match P.underlying t with
  |some (.map kt et)=>if ok&&Ms P et then Jy kt (bG P d V t m) (bG P d V kt key) V k else if isAgg P et then Jw P kt et (bG P d V t m) (bG P d V kt key) ok V k else RU P kt et (bG P d V t m) (bG P d V kt key) ok V k
  |_=>.fail 70
 |.range t x=>match P.underlying t,uo (bG P d V t x)with
  |some .string,some a=>.aG (.rB a) (newObj V (.mp 0 (.tp (.ac a (.ac (.i 0) .an)))) fun j V=>k (.one (.mp j)) V)
  |some (.map _ _),_=>match bG P d V t x with
   |.one (.mp m)=>match V.l[m]? with
    |some (.mp kt es)=>if gk kt|| !as_ m 1000000 then .fail 77 else .aG (.dec 9 es (.b true)) (newObj V (.mp ((t+1)*1000000+m) (.tp (.ac es (.ac es .an)))) fun j V=>k (.one (.mp j)) V)
    |_=>.fail 77
   |_=>.fail 77
  |_,_=>.fail 77
 |.next it true=>match bG P d V 0 it with
  |.one (.mp j)=>match V.l[j]? with
   |some (.mp kt es)=>if ase kt 0 then .test (.dec 0 (.proj es 0) (.proj es 1))
     (newVar V (.tp (.ac (.proj es 0) (.ac (.dec 2 (.proj es 0) (.proj es 1)) .an))) fun z V=>k (.tu [(false,[.v (.b true)]),(false,[.v (.proj es 1)]),(false,[.v (.dec 1 (.proj es 0) (.proj es 1))])]) (V.setObj j (.mp 0 z)))
     (k (.tu [(false,[.v (.b false)])]) V)else .fail 78
   |_=>.fail 79
  |_=>.fail 79
 |.entry it=>W9 P d it V k
 |.index t x ix=>match P.underlying t,uo (bG P d V t x),uo (bG P d V 0 ix)with
  |some .string,some a,some b=>vk (.As a b) V k
  |_,_,_=>.fail 74
 |.slice t x lo hi mx=>match NU P d t (bG P d V t x) lo hi mx V k with
  |some f=>f
  |none=>if isStr P t then GA P d (bG P d V t x) lo hi mx V k else Jz P d t (bG P d V t x) lo hi mx V k
 |.call c=>match c.callee with
  |.builtin .clear=>W8 P c (gO P d V c.args.toList c.argTypes.toList) V k
  |.builtin .cap=>match gO P d V c.args.toList c.argTypes.toList,(c.argTypes[0]?).bind P.underlying with
   |[.one (.nl true _)],some (.slice _)=>k (.one (.v (.i 0))) V
   |_,_=>.fail 207
  |.builtin .max=>mxS true (gO P d V c.args.toList c.argTypes.toList) V k
  |.builtin .min=>mxS false (gO P d V c.args.toList c.argTypes.toList) V k
  |_=>.fail 201
 |_=>.fail 200
def UA(et t1:TypeId)(base x:Cl SE)(V:SS)(k:PV SE→SS→af):af:=
 match P.underlying t1,base,x with
 |some (.int _),.nl true s,.v n=>match aI P et,cj P et,EJ P et,(P.info? et).map (·.bytes)with
  |some s',some z,some ze,some bytes=>if ase s 1&&ase s' 1&&as4 bytes 1000000&&ase z.cells.size 1&&(z.cells.toList.map IV.raw).all Ev.ab then
    newVar V (.dec 8 n ze) fun e V=>newObj V (.row 1 false false false e) fun j V=>k (.one (.sr j)) V else .fail 208
  |_,_,_,_=>.fail 208
 |_,_,_=>.fail 208
def fE(d:Nat)(o:Oper)(V:SS)(k:PV SE→SS→af):af:=
 let get (t:TypeId) (x:Operand):PV SE:=bG P d V t x
 match o.op with
 |.move x|.assign x=>k (get o.type x) V
 |.pick c a b=>match get 0 c with
  |.one (.v (.b true))=>k (get o.type a) V
  |.one (.v (.b false))=>k (get o.type b) V
  |_=>.fail 40
 |.alloc t=>let cs:=zeroCells P t;if(cj P t).isNone then .fail 38 else newObj V (.var cs) fun j V=>k (.one (.pt j 0 cs.length)) V
 |.box t x=>let cs:=ew (get t x);if !rC cs then .fail 39 else newObj V (.var cs) fun j V=>k (.one (.pt j 0 cs.length)) V
 |.load t a=>Uw P t (get 0 a) V k
 |.store t a x=>match get 0 a with
  |.one (.pt j off ext)=>match V.l[j]? with
   |some (.var cs)=>
    let new:=ew (get t x)
    if rC new&&as4 new.length ext&&as4 (off+new.length) cs.length&&(aI P t)==some new.length then k (.one .un) (V.setObj j (.var (Au cs off new)))else .fail 41
   |_=>.fail 42
  |.one (.pr j i off ext)=>match V.l[j]? with
   |some (.row s false cut fr es)=>
    let new:=ew (get t x)
    if ase off 0&&ase new.length s&&ase s ext&&aI P t==some s&&rC new&&(isAgg P t||ase s 1)then
     match sN V new with
     |some (f,zs,V2)=>if Mr V2.l[j]? s cut fr es then newVar V2 (.Bl s es i (if isAgg P t then dN zs else zs.headD .an)) fun z V=>k (.one .un) (V.setObj j (.row s false cut (fr||f) z))else .fail 43
     |none=>.fail 43
    else .fail 44
   |_=>.fail 45
  |_=>.fail 46
 |.nilCheck x=>match get 0 x with
  |.one (.pt a b c)=>k (.one (.pt a b c)) V
  |.one (.fn _ _)=>.fail 47
  |.one (.tp a)=>k (.one (.tp a)) V
  |_=>.fail 47
 |.binOp op t x y _=>match get t x,get t y with
  |.ag cs,.ag ds=>match sN V cs,sN V ds with
   |some (_,a,_),some (_,b,_)=>vk (.ok (.bin op t (dN a) (dN b))) V k
   |_,_=>.fail 48
  |.one (.v a),.one (.v b)=>vk (.ok (.bin op t a b)) V k
  |.one (.w _ a),.one (.v b)=>vk (.ok (.bin op t a b)) V k
  |.one (.v a),.one (.w _ b)=>vk (.ok (.bin op t a b)) V k
  |.one (.w _ a),.one (.w _ b)=>vk (.ok (.bin op t a b)) V k
  |_,_=>.fail 50
 |.unOp op _ x=>match get 0 x with
  |.one (.v (.b t))=>match op with
   |.not=>k (.one (.v (.b (!t)))) V
   |_=>.fail 51
  |.one (.v a)=>vk (.ok (.un op a)) V k
  |.one (.w _ a)=>vk (.ok (.un op a)) V k
  |_=>.fail 52
 |.convert src dst x=>match get src x with
  |.one (.v a)=>vk (.ok (.cv src dst a)) V k
  |.one (.w _ a)=>vk (.ok (.cv src dst a)) V k
  |_=>.fail 53
 |.build t parts=>match P.underlying t with
  |some (.struct fields)=>
   if !(fields.all fun f=>(aI P f.type).isSome)||(cj P t).isNone then .fail 53 else
   match mY (fun j x=>ew (bG P d V (afi fields j) x)) (adB P fields) parts.toList (zeroCells P t)with
   |some cs=>k (.ag cs) V
   |none=>.fail 54
  |some (.array _ et)=>match aI P et with
   |some s=>if(cj P t).isNone then .fail 53 else
    match mY (fun _ x=>ew (bG P d V et x)) (RT s) parts.toList (zeroCells P t)with
    |some cs=>k (.ag cs) V
    |none=>.fail 55
   |none=>.fail 56
  |_=>.fail 56
 |.buildSlice t len parts=>match elemOf P t with
  |some et=>match aI P et,cj P et with
   |some s,some z=>if ase s 0|| !ase z.cells.size s|| !as4 (len*s) 1048576 then .fail 58 else
    if ase len 0 then(if parts.toList.isEmpty then k (.one (.nl false s)) V else .fail 58)else
    match mY (fun _ x=>ew (bG P d V et x)) (RT s) parts.toList (NT (zeroCells P et) len)with
    |some cs=>match Ju P V cs (W7 (rT P 9 et) len)with
     |some (fr,zs,V,rws)=>if !(isAgg P et||ase s 1)then .fail 57 else
      Uv (if fr then[]else rws) (newObj V (.row s false false fr (.tr s (dN (if isAgg P et then xQ s len zs else zs)))) fun j V=>k (.one (.sr j)) V)
     |none=>.fail 57
    |none=>.fail 57
   |_,_=>.fail 58
  |none=>.fail 59
 |.fieldAddr s x f=>match fieldAt P s f with
  |some (fo,sz)=>if ase sz 0 then .fail 71 else match get 0 x with
   |.one (.pt j off ext)=>if as4 (fo+sz) ext then k (.one (.pt j (off+fo) sz)) V else .fail 72
   |.one (.tp cs)=>if as4 (fo+sz) cs.length then k (.one (.tp ((cs.drop fo).take sz))) V else .fail 73
   |.one (.tw fr cs)=>if as4 (fo+sz) cs.length then k (.one (.tw fr ((cs.drop fo).take sz))) V else .fail 73
   |.one (.pr j i off ext)=>if as4 (fo+sz) ext then k (.one (.pr j i (off+fo) sz)) V else .fail 74
   |_=>.fail 75
  |none=>.fail 76
 |.field t x f=>match get t x,fieldAt P t f with
  |.ag cs,some (fo,sz)=>match P.underlying t with
   |some (.struct fields)=>
    if as4 (fo+sz) cs.length&&(qo P ((fields[f]?).map (·.type)|>.getD 0)).isSome then
     if isAgg P ((fields[f]?).map (·.type)|>.getD 0)then(if ase ((cs.drop fo).take sz).length sz then k (.ag ((cs.drop fo).take sz)) V else .fail 77)else match(cs.drop fo).take sz with
     |[c]=>k (.one c) V
     |_=>.fail 78
    else .fail 79
   |_=>.fail 79
  |_,_=>.fail 80
 |.indexAddr t x ix=>match P.underlying t,get 3 ix with
  |some (.slice et),.one (.v i)=>match aI P et with
   |some s=>match get t x with
    |.one (.v z)=>newVar V (.idx s z i) fun e V=>qV P et e (k (.one (.tp (if isAgg P et then(atI s).map (fun j=>.bM e j)else[.ok e]))) V)
    |.one (.w fr z)=>newVar V (.idx s z i) fun e V=>qV P et e (k (.one (.tw fr (if isAgg P et then(atI s).map (fun j=>.bM e j)else[.ok e]))) V)
    |.one (.sr j)=>match V.l[j]? with
     |some (.row s' _ _ _ es)=>if ase s s' then .aG (.idx s es i) (k (.one (.pr j i 0 s)) V)else .fail 81
     |_=>.fail 82
    |_=>.fail 83
   |none=>.fail 84
  |some (.array n et),.one (.v (.i i))=>match aI P et,get t x with
   |some s,.one (.pt j off ext)=>if !ase s 0&&decide (0≤i)&&as_ i.toNat n&&as4 (i.toNat*s+s) ext then k (.one (.pt j (off+i.toNat*s) s)) V else .fail 85
   |some s,.one (.tp cs)=>.fail 86
   |_,_=>.fail 87
  |_,_=>.fail 88
 |.extract x i=>match get 0 x with
  |.tu vs=>match vs[i]? with
   |some (true,cs)=>k (.ag cs) V
   |some (false,[c])=>k (.one c) V
   |_=>.fail 93
  |_=>.fail 94
 |.call c=>match c.callee with
  |.builtin b=>match b,gO P d V c.args.toList c.argTypes.toList with
   |.len,[pv]=>match(c.argTypes[0]?).bind P.underlying with
    |some .string=>match pv with
     |.one (.v z)=>vk (.rB z) V k
     |.one (.w _ z)=>vk (.rB z) V k
     |_=>.fail 96
    |some (.slice _)=>match pv with
     |.one (.v z)=>vk (.len z) V k
     |.one (.w _ z)=>vk (.len z) V k
     |.one (.nl _ _)=>k (.one (.v (.i 0))) V
     |.one (.sr j)=>match V.l[j]? with
      |some (.row _ _ _ _ es)=>vk (.len es) V k
      |_=>.fail 95
     |_=>.fail 96
    |some (.map _ _)=>match pv with
     |.one (.mp j)=>match V.l[j]? with
      |some (.mp kt es)=>if gk kt then .fail 95 else vk (.dec 9 es (.b true)) V k
      |_=>.fail 95
     |_=>.fail 96
    |_=>.fail 96
   |.append,[.one base,.one x]=>match c.argTypes[0]?,c.argTypes[1]? with
    |some t0,some t1=>match elemOf P t0,elemOf P t1 with
     |some et,some _=>match aI P et,cj P et,(P.info? et).map (·.bytes)with
      |some s,some z,some bytes=>if ase s 0|| !ase z.cells.size s then .fail 97 else
       match pN P V et s base x with
       |some (fr,es,raw)=>if raw then .aG (.rws es) (Av bytes s base fr es V k)else Av bytes s base fr es V k
       |none=>.fail 98
      |_,_,_=>.fail 101
     |some et,none=>UA P et t1 base x V k
     |_,_=>.fail 102
    |_,_=>.fail 102
   |.len,_=>.fail 105
   |.append,_=>.fail 105
   |_,_=>fU P d o V k
  |_=>.fail 106
 |_=>fU P d o V k
inductive yV where
 |normal
 |exit (id:Nat)
 |ret
 |bC (t:TypeId) (pv:PV SE)
abbrev Kx:=TypeId→PV SE→SS→af
inductive Want where
 |run|skip|test (t:Nat) (e:SE) (want:Bool)|fail
def sP(ops:Array Oper)(d:Nat)(V:SS)(o:Oper):Want:=
 match o.guard with
 |none=>.run
 |some (j,want)=>match(ops[j]?).bind (·.dst)with
  |some t=>if !as_ t V.nt then .fail else match cn d t V.g with
   |some (.one (.v (.b x)))=>if x==want then .run else .skip
   |some (.one (.v e))=>.test t e want
   |some (.one (.w _ e))=>.test t e want
   |_=>.fail
  |none=>.fail
def Aw(l:List (Nat×Nat×Nat))(d t j:Nat):Bool:=l.any fun(a,b,c)=>ase a d&&ase b t&&ase c j
def oe(l:List (Nat×Nat))(a b:Nat):Bool:=l.any fun(c,d)=>ase a c&&ase b d
def afj(ch:Bool)(mode:Nat)(c:Cl SE)(n:Nat)(init:List SE):Cl SE×Nat×List SE:=
 match mode,c with
 |1,.v z=>(.v (.var n),n+1,z::init)
 |1,.nl _ s=>(.v (.var n),n+1,.tr s .an::init)
 |2,.v z=>(.w true (.var n),n+1,z::init)
 |2,.w _ z=>(.w true (.var n),n+1,z::init)
 |2,.nl _ s=>(.w true (.var n),n+1,.tr s .an::init)
 |_,c=>
  if ch then match c with
   |.v z=>(.v (.var n),n+1,z::init)
   |.w fr z=>(.w fr (.var n),n+1,z::init)
   |c=>(c,n,init)
  else(c,n,init)
def Mu(ch:Nat→Bool):Nat→List (Cl SE)→Nat→List SE→List (Cl SE)×Nat×List SE
 |_,[],n,init=>([],n,init)
 |j,c::cs,n,init=>
  let(c,n,init):=afj (ch j) 0 c n init
  let(cs,n,init):=Mu ch (j+1) cs n init
  (c::cs,n,init)
def W_(h:Hint)(d t:Nat):Nat:=if Aw h.xO d t 2 then 2 else if Aw h.xO d t 1 then 1 else 0
def abR(ch:Nat→Bool):Nat→List (Bool×List (Cl SE))→Nat→List SE→List (Bool×List (Cl SE))×Nat×List SE
 |_,[],n,init=>([],n,init)
 |j,(a,cs)::vs,n,init=>
  let(cs,n,init):=Mu ch j cs n init
  let(vs,n,init):=abR ch (j+cs.length) vs n init
  ((a,cs)::vs,n,init)
def JA(h:Hint):List (Nat×Nat×PV SE)→Nat→List SE→List (Nat×Nat×PV SE)×Nat×List SE
 |[],n,init=>([],n,init)
 |(d,t,pv)::g,n,init=>
  if oe h.drop d t then JA h g n init else
  match pv with
  |.one c=>
   let(c,n,init):=afj (Aw h.HO d t 0) (W_ h d t) c n init
   let(g,n,init):=JA h g n init
   ((d,t,.one c)::g,n,init)
  |.ag cs=>
   let(cs,n,init):=Mu (Aw h.HO d t) 0 cs n init
   let(g,n,init):=JA h g n init
   ((d,t,.ag cs)::g,n,init)
  |.tu vs=>
   let(vs,n,init):=abR (Aw h.HO d t) 0 vs n init
   let(g,n,init):=JA h g n init
   ((d,t,.tu vs)::g,n,init)
def xh(d t:Nat)(V:SS):SS:=
 match cn d t V.g with
 |some (.one (.sr k))=>match V.l[k]? with
  |some (.row _ _ _ fr es)=>(o9 k V).bH d (some t) (.one (.w fr es))
  |_=>V
 |_=>V
def settle:List (Nat×Nat×Nat)→SS→SS
 |[],V=>V
 |(d,t,m)::ws,V=>settle ws (if ase m 2 then xh d t V else V)
def aaa(h:Hint):Nat→List (LO SE)→Nat→List SE→List (LO SE)×Nat×List SE
 |_,[],n,init=>([],n,init)
 |k,o::l,n,init=>
  let(o,n,init):=(match o with
   |.var cs=>
    let(cs,n,init):=Mu (oe h.xN k) 0 cs n init
    (LO.var cs,n,init)
   |.row s st cut fr es=>if oe h.xN k 0 then(.row s (st||oe h.xN k 1) (cut||oe h.xN k 2) (fr||oe h.xN k 3) (.var n),n+1,es::init)else(.row s (st||oe h.xN k 1) (cut||oe h.xN k 2) (fr||oe h.xN k 3) es,n,init)
   |.mp kt es=>if oe h.xN k 0 then(.mp kt (.var n),n+1,es::init)else(.mp kt es,n,init)
   |.dead=>(.dead,n,init):LO SE×Nat×List SE)
  let(l,n,init):=aaa h (k+1) l n init
  (o::l,n,init)
def Ax(d t j:Nat)(V:SS):SS:=
 match cn d t V.g with
 |some (.one (.nl _ s))=>if ase j 0 then{V with l:=V.l++[.row s false false false (.tr s .an)],g:=NH d t (.one (.sr V.l.length)) V.g}else V
 |some (.ag cs)=>match cs[j]? with
  |some (.nl _ s)=>{V with l:=V.l++[.row s false false false (.tr s .an)],g:=NH d t (.ag (cs.set j (.sr V.l.length))) V.g}
  |_=>V
 |_=>V
def Ay(k j:Nat)(V:SS):SS:=
 match V.l[k]? with
 |some (.var cs)=>match cs[j]? with
  |some (.nl _ s)=>{V with l:=V.l.set k (.var (cs.set j (.sr V.l.length)))++[.row s false false false (.tr s .an)]}
  |_=>V
 |_=>V
def ur(h:Hint):List (Nat×Nat×Nat)→SS→SS
 |[],V=>V
 |(d,t,j)::l,V=>ur h l (if ase (W_ h d t) 0 then Ax d t j V else V)
def uu:List (Nat×Nat)→SS→SS
 |[],V=>V
 |(k,j)::l,V=>uu l (Ay k j V)
def uw(h:Hint)(V:SS):SS:=uu h.xN.reverse (ur h h.HO.reverse V)
def sQ:Cl SE→List Nat
 |.pt k _ _|.sr k|.sv k _|.pr k _ _ _|.mp k=>[k]
 |.fn _ bs=>bs.map (·.1)
 |_=>[]
def NV:PV SE→List Nat
 |.one c=>sQ c
 |.ag cs=>cs.flatMap sQ
 |.tu vs=>vs.flatMap fun p=>p.2.flatMap sQ
def reach(l:List (LO SE)):Nat→List Nat→List Nat→List Nat
 |0,_,seen=>seen
 |_,[],seen=>seen
 |n+1,k::ks,seen=>if seen.any (ase k)then reach l n ks seen else
  match l[k]? with
  |some (.var cs)=>reach l n (cs.flatMap sQ++ks) (k::seen)
  |some (.mp kt _)=>reach l n (if as4 1000000 kt then(kt % 1000000)::ks else ks) (k::seen)
  |_=>reach l n ks (k::seen)
def marks(seen:List Nat):Nat→List (LO SE)→List (LO SE)
 |_,[]=>[]
 |k,o::os=>(if seen.any (ase k)then o else .dead)::marks seen (k+1) os
def gcS(V:SS):SS:={V with l:=marks (reach V.l 2000 (V.g.flatMap fun p=>NV p.2.2) []) 0 V.l}
def SE.wk(n:Nat):SE→Bool
 |.var x=>as_ x n
 |.i _|.k _ _|.b _|.s _|.raw _|.an=>true
 |.ok e|.qL _ e|.bM e _|.len e|.rB e|.tr _ e|.tp e|.proj e _|.un _ e|.cv _ _ e|.rw e|.rws e=>e.wk n
 |.idx _ e f|.CK _ e f _|.ac e f|.cat _ _ e f|.bin _ _ e f|.mx _ e f|.As e f|.has _ e f|.dec _ e f=>e.wk n&&f.wk n
 |.Bl _ e f g|.sub _ e f g|.HN _ e f g|.Gx e f g|.ins _ e f g=>e.wk n&&f.wk n&&g.wk n
 |.get _ e f g=>e.wk n&&f.wk n&&g.wk n
structure Mt where
 args:List (Nat×SE)
 dR:List (Nat×Nat)
def rD{α:Type}(l:List (Nat×α))(k:Nat):Option α:=
 match l with
 |[]=>none
 |(a,b)::l=>if ase a k then some b else rD l k
def yW(n nm:Nat)(h e:SE)(m:Mt):Option Mt:=
 match h with
 |.var i=>if as_ i n then(if h.eq e then some m else none)else if as4 nm i then none else(match rD m.args i with
  |some e'=>if e'.eq e then some m else none
  |none=>some {m with args:=(i,e)::m.args})
 |h=>if h.wk n&&h.eq e then some m else none
def NW(h e:Nat)(m:Mt):Option Mt:=
 match rD m.dR h with
 |some e'=>if ase e e' then some m else none
 |none=>if m.dR.any (fun p=>ase p.2 e)then none else some {m with dR:=(h,e)::m.dR}
def NX(n nm:Nat):List SE→List SE→Mt→Option Mt
 |[],[],m=>some m
 |a::as,b::bs,m=>match yW n nm a b m with
  |some m=>NX n nm as bs m
  |none=>none
 |_,_,_=>none
def afk:List (Nat×Nat)→List (Nat×Nat)→Mt→Option Mt
 |[],[],m=>some m
 |(a,x)::as,(b,y)::bs,m=>if ase x y then(match NW a b m with
  |some m=>afk as bs m
  |none=>none)else none
 |_,_,_=>none
def afl(n nm:Nat)(h e:Cl SE)(m:Mt):Option Mt:=
 match h,e with
 |.un,_=>some m
 |.v a,.v b=>yW n nm a b m
 |.w f a,.w f' b=>if f|| !f' then yW n nm a b m else none
 |.w f a,.v b=>if f then yW n nm a b m else none
 |.v a,.nl _ s=>yW n nm a (.tr s .an) m
 |.w _ a,.nl _ s=>yW n nm a (.tr s .an) m
 |.nl a s,.nl b s'=>if a==b&&ase s s' then some m else none
 |.pt k o x,.pt k' o' x'=>if ase o o'&&ase x x' then NW k k' m else none
 |.tp a,.tp b=>NX n nm a b m
 |.tw f a,.tw f' b=>if f|| !f' then NX n nm a b m else none
 |.sr k,.sr k'=>NW k k' m
 |.mp k,.mp k'=>NW k k' m
 |.fn f a,.fn f' b=>if ase f f' then afk a b m else none
 |_,_=>none
def Mv(n nm:Nat):List (Cl SE)→List (Cl SE)→Mt→Option Mt
 |[],[],m=>some m
 |a::as,b::bs,m=>match afl n nm a b m with
  |some m=>Mv n nm as bs m
  |none=>none
 |_,_,_=>none
def abS(n nm:Nat):List (Bool×List (Cl SE))→List (Bool×List (Cl SE))→Mt→Option Mt
 |[],[],m=>some m
 |(x,a)::as,(y,b)::bs,m=>if x==y then(match Mv n nm a b m with
  |some m=>abS n nm as bs m
  |none=>none)else none
 |_,_,_=>none
def ai5(n nm:Nat)(h e:PV SE)(m:Mt):Option Mt:=
 match h,e with
 |.one a,.one b=>afl n nm a b m
 |.ag as,.ag bs=>Mv n nm as bs m
 |.tu as,.tu bs=>abS n nm as bs m
 |_,_=>none
def afm(n nm:Nat)(g:List (Nat×Nat×PV SE)):List (Nat×Nat×PV SE)→Mt→Option Mt
 |[],m=>some m
 |(d,t,pv)::h,m=>match cn d t g with
  |some CH=>match ai5 n nm pv CH m with
   |some m=>afm n nm g h m
   |none=>none
  |none=>none
def anE(n nm:Nat)(h e:LO SE)(m:Mt):Option Mt:=
 match h,e with
 |.var cs,.var ds=>Mv n nm cs ds m
 |.row s st cut fr es,.row s' lu uj cL aB=>if ase s s'&&st==lu&&(cut|| !uj)&&(fr|| !cL)then yW n nm es aB m else none
 |.mp kt es,.mp lz aB=>if ase kt lz then yW n nm es aB m else none
 |.dead,_=>some m
 |_,_=>none
def aab(n nm:Nat)(l:List (LO SE)):Nat→List (LO SE)→Mt→Option Mt
 |_,[],m=>some m
 |k,o::os,m=>
  match o with
  |.dead=>aab n nm l (k+1) os m
  |o=>match NW k ((rD m.dR k).getD k) m with
  |some m=>match l[(rD m.dR k).getD k]? with
   |some o'=>match anE n nm o o' m with
    |some m=>aab n nm l (k+1) os m
    |none=>none
   |none=>none
  |none=>none
def NY(n:Nat)(m:Mt):Nat→List SE→Option (List SE)
 |0,acc=>some acc
 |j+1,acc=>match rD m.args (n+j)with
  |some e=>NY n m j (e::acc)
  |none=>none
def isLive(l:List (LO SE))(k:Nat):Bool:=
 match l[k]? with
 |some .dead|none=>false
 |_=>true
def afn(l:List (LO SE))(k:Nat):Bool:=
 match l[k]? with
 |some (.mp _ _)=>true
 |_=>false
def GB(H:SS):Bool:=
 (H.g.all fun p=>(NV p.2.2).all (isLive H.l))&&H.l.all fun|.var cs=>(cs.flatMap sQ).all (isLive H.l)|.mp kt _=>as_ kt 1000000||afn H.l (kt % 1000000)|_=>true
def uO(n:Nat)(args:List SE)(h e:SE):Bool:=
 match h with
 |.var x=>if as_ x n then h.eq e else(match args[x- n]? with
  |some a=>a.eq e
  |none=>false)
 |h=>h.wk n&&h.eq e
def DG(dR:List (Nat×Nat))(h e:Nat):Bool:=
 match rD dR h with
 |some e'=>ase e e'
 |none=>false
def qt(n:Nat)(args:List SE)(dR:List (Nat×Nat))(h e:Cl SE):Bool:=
 match h,e with
 |.un,_=>true
 |.v a,.v b=>uO n args a b
 |.w f a,.w f' b=>(f|| !f')&&uO n args a b
 |.w f a,.v b=>f&&uO n args a b
 |.v a,.nl _ s=>uO n args a (.tr s .an)
 |.w _ a,.nl _ s=>uO n args a (.tr s .an)
 |.nl a s,.nl b s'=>a==b&&ase s s'
 |.pt k o x,.pt k' o' x'=>ase o o'&&ase x x'&&DG dR k k'
 |.tp a,.tp b=>lA (uO n args) a b
 |.sr k,.sr k'=>DG dR k k'
 |.mp k,.mp k'=>DG dR k k'
 |.fn f a,.fn f' b=>ase f f'&&lA (fun(p q:Nat×Nat)=>ase p.2 q.2&&DG dR p.1 q.1) a b
 |_,_=>false
def HR(n:Nat)(args:List SE)(dR:List (Nat×Nat))(h e:PV SE):Bool:=
 match h,e with
 |.one a,.one b=>qt n args dR a b
 |.ag as,.ag bs=>lA (qt n args dR) as bs
 |.tu as,.tu bs=>lA (fun(p q:Bool×List (Cl SE))=>p.1==q.1&&lA (qt n args dR) p.2 q.2) as bs
 |_,_=>false
def afo(n:Nat)(args:List SE)(dR:List (Nat×Nat))(g:List (Nat×Nat×PV SE))(h:List (Nat×Nat×PV SE)):Bool:=
 h.all fun(d,t,pv)=>match cn d t g with
  |some CH=>HR n args dR pv CH
  |none=>false
def zQ(n:Nat)(args:List SE)(dR:List (Nat×Nat))(h e:LO SE):Bool:=
 match h,e with
 |.var cs,.var ds=>lA (qt n args dR) cs ds
 |.row s st cut fr es,.row s' lu uj cL aB=>ase s s'&&st==lu&&(cut|| !uj)&&(fr|| !cL)&&uO n args es aB
 |.mp kt es,.mp lz aB=>ase kt lz&&uO n args es aB&&(as_ kt 1000000||DG dR (kt % 1000000) (kt % 1000000))
 |_,_=>false
def NZ(n:Nat)(args:List SE)(dR:List (Nat×Nat))(l:List (LO SE)):Nat→List (LO SE)→Bool
 |_,[]=>true
 |k,o::os=>(match o with
  |.dead=>true
  |o=>match rD dR k with
   |some k'=>match l[k']? with
    |some o'=>zQ n args dR o o'
    |none=>false
   |none=>false)&&NZ n args dR l (k+1) os
def aac(dR:List (Nat×Nat)):Bool:=dR.all fun p=>dR.all fun q=> !ase p.2 q.2||ase p.1 q.1
def inst(n m:Nat)(H V:SS):Option (List SE×List (Nat×Nat)):=
 if !GB H then none else match afm n (n+m) V.g H.g ⟨[],[]⟩with
 |some mt=>match aab n (n+m) V.l 0 H.l mt with
  |some mt=>match NY n mt m []with
   |some args=>if afo n args mt.dR V.g H.g&&NZ n args mt.dR V.l 0 H.l&&aac mt.dR&&ase args.length m then some (args,mt.dR)else none
   |none=>none
  |none=>none
 |none=>none
def Az:Code→Nat
 |.region id _ _=>id
 |.seq a _=>Az a
 |.block _ a=>Az a
 |.loop a=>Az a
 |.scope a=>Az a
 |_=>0
abbrev mZ:=Nat→Nat→Code→SS→(yV→SS→af)→af
section step
variable(self:mZ)(kx:Kx)
def setArgs(d:Nat):Nat→List (PV SE)→List (Nat×Nat×PV SE)
 |_,[]=>[]
 |j,pv::cP=>(d,j,pv)::setArgs d (j+1) cP
def jn(d:Nat):List (Nat×Nat×PV SE)→List (Nat×Nat×PV SE)
 |[]=>[]
 |(d',t,pv)::g=>if ase d' d=true then jn d g else(d',t,pv)::jn d g
def N0(t:TypeId)(pa:PV SE)(V:SS):Option (PV SE):=
 match aI P t,qo P t,pa with
 |some s,some _,.one (.pt j off ext)=>match V.l[j]? with
  |some (.var cs)=>if as4 s ext&&as4 (off+s) cs.length then(if isAgg P t then some (.ag ((cs.drop off).take s))else match(cs.drop off).take s with
   |[c]=>some (.one c)
   |_=>none)else none
  |_=>none
 |_,_,_=>none
def kT(d:Nat)(V:SS):List ResultVar→Option (List (PV SE))
 |[]=>some []
 |.tmp t::rs=>match kT d V rs with
  |some cP=>some ((cn d t V.g).getD (.one .un)::cP)
  |none=>none
 |.cell a t::rs=>match cn d a V.g with
  |some pa=>match N0 P t pa V,kT d V rs with
   |some pv,some cP=>some (pv::cP)
   |_,_=>none
  |none=>none
def DH(cP:List (PV SE)):PV SE:=
 match cP with
 |[]=>.one .un
 |[pv]=>pv
 |cP=>.tu (cP.map fun pv=>match pv with
  |.one c=>(false,[c])
  |.ag cs=>(true,cs)
  |.tu _=>(false,[.un]))
def rV(d f:Nat)(dst:Option Nat)(g:FuncId)(args:List (PV SE))(V:SS)(k:PV SE→SS→af):af:=
 match P.funcs[g]? with
 |some fn=>match fn.body with
  |some body=>
   if cfg.stop.any (ase g)then .fail 119 else if as4 args.length fn.ntmps&&fn.name != "runtime.NumGoroutine" then
    self (d+1) (f*1000+dst.getD 999+1) body {V with g:=setArgs (d+1) 0 args++jn (d+1) V.g,nt:=fn.ntmps} fun ex W=>match ex with
     |.exit _=>.fail 111
     |.bC t pv=>kx t pv {W with g:=jn (d+1) W.g,nt:=V.nt}
     |_=>match kT P (d+1) W fn.results.toList with
      |some cP=>k (DH cP) {W with g:=jn (d+1) W.g,nt:=V.nt}
      |none=>.fail 110
   else .fail 112
  |none=>.fail 113
 |none=>.fail 114
def o_:af→Option (SS×SS)
 |.test _ a b|.two _ a b=>match o_ a with
  |some x=>some x
  |none=>o_ b
 |.bind _ k|.aG _ k|.call _ _ _ k|.loop _ k|.uniq k|.same _ _ k=>o_ k
 |.pick _ _ a b=>match o_ a with
  |some x=>some x
  |none=>o_ b
 |.o8 a _ b=>match o_ a with
  |some x=>some x
  |none=>o_ b
 |.bad 999999 n lv _ _ hg hl g l=>some (⟨hg,hl,n,lv,0⟩,⟨g,l,n,lv,0⟩)
 |_=>none
def guardOf(g:FuncId):Option TypeId:=(cfg.rows.find? fun n=>as4 1000000 n&&ase (n % 1000000) g).map fun n=>n/1000000- 1
def EL(g:FuncId)(bs:List (Nat×Nat))(args:List (PV SE)):Option (TypeId×FuncId×List (Nat×Nat)):=
 match bs,args with
 |[],[.one (.fn c tU)]=>(guardOf cfg g).map fun t=>(t,c,tU)
 |_,_=>none
def DI(d:Nat)(V:SS):Option Nat:=
 match cn d 2 V.g with
 |some (.one (.pt j 0 1))=>match V.l[j]? with
  |some (.var [.v (.i z)])=>if z==0 then some j else none
  |_=>none
 |_=>none
def HS(d f:Nat)(dst:Option Nat)(g:FuncId)(t:TypeId)(c:FuncId)(tU:List (Nat×Nat))(V:SS)(k:PV SE→SS→af):af:=
 .call (3*P.funcs.size+g) true (dN [.i t])<|
  rV P cfg self (fun t' pv W=>match pv,DI (d+1) W with
   |.ag [.v e],some j=>if ase t' t then .aG (.rw e) (k (.one (.v e)) {W with g:=jn (d+1) W.g,nt:=V.nt,l:=((W.l++[LO.dead]).set W.l.length LO.dead).set j (.var [.v e])})else .fail 171
   |_,_=>.fail 172) (d+1) (f*1000+dst.getD 999+1) none c (tU.map fun(k,ext)=>.one (.pt k 0 ext))
   {V with n:=V.n+1,l:=V.l++[.var [.v (.i 0)]],g:=(d+1,2,.one (.pt V.l.length 0 1))::jn (d+1) V.g,nt:=3} fun _ W=>match DI (d+1) W with
    |some j=>k (.one (.v (.i 0))) {W with g:=jn (d+1) W.g,nt:=V.nt,l:=W.l.set j (.var [.v (.i 0)])}
    |none=>.fail 173
def EM(d f:Nat)(dst:Option Nat)(g:FuncId)(args:List (PV SE))(V:SS)(k:PV SE→SS→af):af:=
 match EL cfg g [] args with
 |some (t,c,tU)=>match P.funcs[g]? with
  |some fn=>if fn.body.isSome&&fn.name != "runtime.NumGoroutine" then HS P cfg self d f dst g t c tU V k else .fail 18
  |none=>.fail 18
 |none=>rV P cfg self kx d f dst g args V k
def EN(d f:Nat)(dst:Option Nat)(g:FuncId)(args:List (PV SE))(V:SS)(k:SS→af):af:=
 let V1:SS:={V with lv:=V.lv+1}
 match o_ (EM P cfg self (fun _ _ _=>.fail 0) d f dst g args V1 fun pv W=>let W:=W.bH d dst pv;.bad 999999 W.n W.lv 0 0 W.g W.l W.g W.l)with
 |none=>.fail 150
 |some (V2,_)=>
  let h:=(cfg.hints.find? fun h=>ase h.d d&&ase h.f f&&ase h.id (1000000+dst.getD 999)).getD ⟨d,f,1000000+dst.getD 999,[],[],[],[]⟩
  let Vg:=gcS (uw h (settle h.xO V2))
  let(g',n,init):=JA h Vg.g V.n []
  let(l',n,_):=aaa h 0 Vg.l n init
  let H:SS:=⟨g',l',V.n+(n- V.n),V.lv,V.nt⟩
  .o8 (EM P cfg self kx d f dst g args V1 fun pv W=>
   let W:=uw h (settle h.xO (W.bH d dst pv))
   match inst V.n (n- V.n) H W with
   |some (args,_)=>.next V.lv (dN args)
   |none=>.bad d f (1000000+dst.getD 999) V.n n H.g H.l W.g W.l) (n- V.n) (k H)
def sR(V:SS):List (PV SE)→Option (List SE×SS)
 |[]=>some ([],V)
 |pv::cP=>match sO V pv with
  |some (_,z,V)=>match sR V cP with
   |some (zs,V)=>some (z::zs,V)
   |none=>none
  |none=>none
def Bm:List (PV SE)→Bool
 |[]=>true
 |.tu _::_=>false
 |_::l=>Bm l
def Mw(fn:Func)(V:SS)(r:SE)(k:PV SE→SS→af):af:=
 match fn.resultTypes.toList with
 |[t]=>qV P t r (k (ofType P t r) V)
 |ts=>NR P r 0 ts (k (.tu (Jt P r 0 ts)) V)
def EO(g:FuncId)(zs:List SE)(j:Nat)(V:SS)(k:PV SE→SS→af):af:=
 match V.l[j]? with
 |some (.row s false false _ es)=>if as_ g P.funcs.size then .aG (.rws es) (.call (P.funcs.size+g) true (dN (es::zs)) (k (.one (.sr j)) ((({V with n:=V.n+1}:SS).rU j).setObj j (.row s false false false (.var V.n)))))else .fail 13
 |_=>.fail 14
def rW:List (PV SE)→List (Nat×Nat)×List (PV SE)
 |.one (.pt k 0 ext)::r=>((k,ext)::(rW r).1,(rW r).2)
 |r=>([],r)
def xR(V:SS):List (Nat×Nat)→Option (List (List SE))
 |[]=>some []
 |(k,n)::l=>match V.l[k]? with
  |some (.var ds)=>if ase ds.length n then(match EK ds,xR V l with
   |some es,some r=>some (es::r)
   |_,_=>none)else none
  |_=>none
def distinct:List Nat→Bool
 |[]=>true
 |k::l=> !(l.any (ase k))&&distinct l
def lh(y:SE):Nat→List (Nat×Nat)→List (LO SE)→List (LO SE)
 |_,[],L=>L
 |i,(k,n)::l,L=>lh y (i+1) l (L.set k (.var ((atI n).map fun q=>.v (.bM (.proj y (i+1)) q))))
def aad(g:FuncId)(l:List (Nat×Nat))(rest:List (PV SE))(V:SS)(k:PV SE→SS→af):af:=
 match sR V rest,xR V l,P.funcs[g]? with
 |some (zs,_),some DJ,some fn=>if !rest.all od then .fail 161 else if !distinct (l.map (·.1))then .fail 162 else match fn.resultTypes.toList with
  |[t]=>.call (2*P.funcs.size+g) true (.ac (dN (DJ.map dN)) (dN zs)) (qV P t (.proj (.var V.n) 0) (k (ofType P t (.proj (.var V.n) 0)) {V with n:=V.n+1,l:=lh (.var V.n) 0 l V.l}))
  |_=>.fail 163
 |_,_,_=>.fail 164
def aae(g:FuncId)(args:List (PV SE))(V:SS)(k:PV SE→SS→af):af:=
 if !(rW args).1.isEmpty then aad P g (rW args).1 (rW args).2 V k else
 match args with
 |.one c::rest=>match sR V rest with
  |some (zs,_)=>if !rest.all od then .fail 16 else match c with
   |.sr j=>EO P g zs j V k
   |.nl _ s=>newObj V (.row s false false false (.tr s .an)) fun j V=>EO P g zs j V k
   |_=>.fail 17
  |none=>.fail 15
 |_=>.fail 15
def xi(g:FuncId):Bool:=as_ g 100000&&cfg.rows.any (ase (g+500000))
def AA:aL:={cfg with rows:=cfg.rows.filter fun n=>as_ n 500000||as4 600000 n}
def afp(g:FuncId):Bool:=cfg.rows.any (ase (g+600000))
def cA(g:FuncId):Nat:=
 match P.funcs[g]? with
 |some fn=>match fn.resultTypes.toList with
  |[t]=>match P.underlying t with
   |some (.slice el)=>(aI P el).getD 0
   |_=>0
  |_=>0
 |none=>0
def N1(g:FuncId)(args:List (PV SE))(V:SS)(k:PV SE→SS→af):af:=
 match sR V args,P.funcs[g]? with
 |some (zs,V'),some fn=>if Bm args&&(fn.body.isSome&&fn.name != "runtime.NumGoroutine")then
   .call (4*P.funcs.size+g) true (dN zs) (k (.one (.sr V'.l.length)) {V' with n:=V'.n+1,l:=V'.l++[.row (cA P g) false false false (.var V'.n)]})else .fail 181
 |_,_=>.fail 181
def aaf(g:FuncId):Option TypeId:=
 match P.funcs[g]? with
 |some fn=>match fn.resultTypes.toList with
  |[t]=>match P.underlying t with
   |some (.map kt _)=>if gk kt then none else some kt
   |_=>none
  |_=>none
 |none=>none
def JB(g:FuncId)(kt:TypeId)(args:List (PV SE))(V:SS)(k:PV SE→SS→af):af:=
 match sR V args,P.funcs[g]? with
 |some (zs,V'),some fn=>if Bm args&&(fn.body.isSome&&fn.name != "runtime.NumGoroutine")then
   .call (5*P.funcs.size+g) true (dN zs) (k (.one (.mp V'.l.length)) {V' with n:=V'.n+1,l:=V'.l++[.mp kt (.var V'.n)]})else .fail 182
 |_,_=>.fail 182
def UB(g:FuncId)(args:List (PV SE))(V:SS)(k:PV SE→SS→af):af:=
 match args with
 |.one (.mp j)::rest=>match V.l[j]?,sR V rest,P.funcs[g]? with
  |some (.mp kt es),some (zs,V'),some fn=>if Bm rest&& !gk kt&&(fn.body.isSome&&fn.name != "runtime.NumGoroutine")then
    .call (6*P.funcs.size+g) true (dN (es::zs)) (k (.one (.v (.var V'.n))) {V' with n:=V'.n+1})else .fail 183
  |_,_,_=>.fail 183
 |_=>.fail 183
def UC(d f0:Nat)(qd:Bool)(o:Oper)(c:Call)(V:SS)(k:PV SE→SS→af):af:=
 match c.callee with
 |.builtin _=>fE P d o V k
 |.value f=>match bG P d V 0 f with
  |.one (.fn g bs)=>
   let args:=gO P d V c.args.toList c.argTypes.toList
   match EL cfg g bs args with
   |some (t,cf,tU)=>match P.funcs[g]? with
    |some fn=>if !qd&&fn.body.isSome&&fn.name != "runtime.NumGoroutine" then HS P cfg self d f0 o.dst g t cf tU V k else .fail 18
    |none=>.fail 18
   |none=>
   if bs.isEmpty&&xi cfg g then(match aaf P g with|some kt=>JB P g kt args V k|none=>N1 P g args V k)
   else if bs.isEmpty&&afp cfg g then UB P g args V k
   else if bs.isEmpty&&cfg.rows.any (ase g)then
    match P.funcs[g]? with
    |some fn=>if !qd&&fn.body.isSome&&fn.name != "runtime.NumGoroutine" then aae P g args V k else .fail 18
    |none=>.fail 18
   else if bs.isEmpty&&cfg.pure.any (ase g)then
    match sR V args,P.funcs[g]? with
    |some (zs,V'),some fn=>if Bm args&&fn.body.isSome&&fn.name != "runtime.NumGoroutine" then .call g (!args.all od) (dN zs) (Mw P fn {V' with n:=V'.n+1} (.var V'.n) k)else .fail 115
    |_,_=>.fail 115
   else if qd then .fail 116 else rV P cfg self kx d f0 o.dst g (args++bs.map fun(k,ext)=>.one (.pt k 0 ext)) V k
  |_=>.fail 117
 |.invoke .. =>.fail 118
def HT(d f0:Nat)(qd:Bool)(o:Oper)(V:SS)(k:PV SE→SS→af):af:=
 match o.op with
 |.call c=>UC P cfg self kx d f0 qd o c V k
 |_=>fE P d o V k
def UD(d:Nat)(o:Oper)(V:SS):Option (Bool×Cl SE):=
 match o.op with
 |.binOp op t x y _=>match P.underlying t,bG P d V t x,y with
  |some (.slice _),.one c,.const (.slice none 0 0)=>match op with
   |.eql=>some (true,c)
   |.neq=>some (false,c)
   |_=>none
  |_,_,_=>none
 |_=>none
def afq(e:Bool)(c:Cl SE)(V:SS)(k:PV SE→SS→af):af:=
 match c with
 |.v z=>.two z (k (.one (.v (.b e))) V) (k (.one (.v (.b (!e)))) V)
 |.w _ z=>.two z (k (.one (.v (.b e))) V) (k (.one (.v (.b (!e)))) V)
 |.nl b _=>k (.one (.v (.b (if b then e else !e)))) V
 |.sr j=>match V.l[j]? with
  |some (.row _ _ _ _ es)=>.two es (k (.one (.v (.b e))) V) (k (.one (.v (.b (!e)))) V)
  |_=>.fail 31
 |_=>.fail 31
def Mx:SE→Option IV
 |.i n=>some (.int n)
 |.b t=>some (.bool t)
 |_=>none
def abT:IV→Option SE
 |.raw (.int .i64 n)=>some (.i n)
 |.raw (.bool b)=>some (.b b)
 |_=>none
def N2(d:Nat)(V:SS)(o:Oper):Option (PV SE):=
 match o.op with
 |.binOp op t x y _=>match bG P d V t x,bG P d V t y with
  |.one (.v a),.one (.v b)=>match Mx a,Mx b with
   |some u,some v=>((oT P op t x y u v).bind abT).map fun e=>.one (.v e)
   |_,_=>none
  |_,_=>none
 |.index t x ix=>match P.underlying t,bG P d V t x,bG P d V 0 ix with
  |some (.array n el),.ag cs,.one (.v (.i z))=>match aI P el,qo P el with
   |some s,some _=>if 0≤z∧z<n∧z.toNat*s+s≤cs.length then(if isAgg P el then some (.ag ((cs.drop (z.toNat*s)).take s))else match(cs.drop (z.toNat*s)).take s with
    |[c]=>some (.one c)
    |_=>none)else none
   |_,_=>none
  |_,_,_=>none
 |_=>none
def abU:Bool:=cfg.hints.any fun h=>ase h.d 999999
def anF:Bool:=cfg.hints.any fun h=>ase h.d 999998
def UE(d:Nat)(V:SS)(o:Oper):Option (SE×Nat×Cl SE):=
 match o.op with
 |.call c=>match c.callee with
  |.builtin .append=>match gO P d V c.args.toList c.argTypes.toList with
   |[.one base,.one x]=>match c.argTypes[0]?,c.argTypes[1]? with
    |some t0,some t1=>match elemOf P t0,elemOf P t1 with
     |some et,some _=>match aI P et,cj P et,(P.info? et).map (·.bytes)with
      |some s,some z,some bytes=>if ase s 0|| !ase z.cells.size s|| !as4 bytes 1000000 then none else
       match pN P V et s base x,base with
       |some (_,es,_),.nl b w=>some (es,s,.nl b w)
       |_,_=>none
      |_,_,_=>none
     |_,_=>none
    |_,_=>none
   |_=>none
  |_=>none
 |_=>none
def HU(d:Nat)(V:SS)(o:Oper):Option (Nat×Nat×TypeId×SE×SE):=
 match o.op with
 |.next it false=>match bG P d V 0 it with
  |.one (.mp j)=>match V.l[j]? with
   |some (.mp kt x)=>if as4 1000000 kt then(match V.l[kt % 1000000]? with
    |some (.mp lB es)=>if gk lB then none else some (j,kt,lB,es,x)
    |_=>none)else none
   |_=>none
  |_=>none
 |_=>none
def UF(j kt:Nat)(lB:TypeId)(es x:SE)(V:SS)(k:PV SE→SS→af):af:=
 match P.underlying (kt/1000000- 1)with
 |some (.map _ _)=>.pick es x (k (.tu [(false,[.v (.b false)])]) V)
   (k (.tu [(false,[.v (.b true)]),(false,[.un]),(false,[.un])]) {V with n:=V.n+2,l:=V.l.set j (.mp kt (.var (V.n+1)))})
 |_=>.fail 190
def Bo(d f0:Nat)(qd:Bool)(o:Oper)(V:SS)(k:PV SE→SS→af):af:=
 match(if qd then none else HU P d V o)with
 |some (j,kt,lB,es,x)=>UF P j kt lB es x V k
 |none=>match(if qd then none else UD P d o V)with
 |some (e,c)=>afq e c V k
 |none=>match(if !qd&&anF cfg then UE P d V o else none)with
 |some (es,s,c)=>.aG (.sub s es (.len es) (.i 0)) (k (.one c) V)
 |none=>match(if !qd&&abU cfg then N2 P d V o else none)with
  |some pv=>k pv V
  |none=>HT P cfg self kx d f0 qd o V k
def xS(d:Nat)(qd:Bool)(o:Oper)(V:SS):Option (FuncId×List (PV SE)):=
 if qd then none else match o.op with
 |.call c=>match c.callee with
  |.value f=>match bG P d V 0 f with
   |.one (.fn g bs)=>if cfg.dM.any (ase g)&& !(bs.isEmpty&&cfg.pure.any (ase g))then some (g,gO P d V c.args.toList c.argTypes.toList++bs.map fun(k,ext)=>.one (.pt k 0 ext))else none
   |_=>none
  |_=>none
 |_=>none
def sS(sk:List Nat):Option Nat→List Nat
 |some t=>sk.filter fun x=> !ase x t
 |none=>sk
def EP(sk:List Nat):Option Nat→List Nat
 |some t=>t::sS sk (some t)
 |none=>sk
def mC(sk:List Nat)(ops:Array Oper)(o:Oper):Bool:=
 match o.guard with
 |some (j,_)=>match(ops[j]?).bind (·.dst)with
  |some t=>vN sk t
  |none=>false
 |none=>false
def GC(t:TypeId):Bool:=
 match P.underlying t with
 |some (.interface _)=>false
 |some _=>true
 |none=>false
def UG(d:Nat)(V:SS)(o:Oper)(rest:List Oper):Option (TypeId×PV SE):=
 match o.op,rest with
 |.makeInterface t x,[p]=>match p.op,o.dst,o.guard,p.guard with
  |.panic (.tmp a),some b,none,none=>if ase a b&&GC P t then some (t,bG P d V t x)else none
  |_,_,_,_=>none
 |_,_=>none
def gP(d f0:Nat)(qd:Bool)(ops:Array Oper):List Nat→List Oper→SS→(SS→af)→af
 |_,[],V,k=>k V
 |sk,o::rest,V,k=>
  if !(match o.dst with|some t=>as_ t V.nt|none=>true)then .fail 121 else
  match(if qd then none else UG P d V o rest)with
  |some (t,pv)=>kx t pv (V.jm d o.dst)
  |none=>
  let run (V:SS):af:=match xS P cfg d qd o V with
   |some (g,args)=>EN P cfg self kx d f0 o.dst g args V fun V=>gP d f0 qd ops (sS sk o.dst) rest V k
   |none=>Bo P cfg self kx d f0 qd o V fun pv V=>gP d f0 qd ops (sS sk o.dst) rest (V.bH d o.dst pv) k
  let skip (V:SS):af:=gP d f0 qd ops (EP sk o.dst) rest (V.jm d o.dst) k
  match(if mC sk ops o then .skip else sP ops d V o)with
  |.run=>run V
  |.skip=>skip V
  |.test t e want=>.test e ((if want then run else skip) (V.bH d (some t) (.one (.v (.b true))))) ((if want then skip else run) (V.bH d (some t) (.one (.v (.b false)))))
  |.fail=>.fail 120
def DK(d:Nat)(V:SS):jE:=⟨V.nt,(V.g.filterMap fun(d',t,_)=>if ase d d' then some t else none).filter (fun t=>match cn d t V.g with
 |some (.one (.pt _ _ _))=>true
 |some (.one (.tp _))=>true
 |_=>false),[],V.g.filterMap fun(d',t,_)=>if ase d d' then(match cn d t V.g with
  |some (.one (.pt k _ _))=>some (t,k)
  |_=>none)else none,[]⟩
def ai6(d:Nat)(a:Code)(V:SS):Option Nat:=
 match a with
 |.seq (.region _ ops false) _=>match ops.toList with
  |[o]=>match o.op with
   |.binOp .lss _ (.tmp i) (.const (.int .i64 n)) _=>match cn d i V.g with
    |some (.one (.v (.i z)))=>if z==0&&decide (0≤n)&&decide (n≤4)then some (n.toNat+1)else none
    |_=>none
   |_=>none
  |_=>none
 |_=>none
def RV:Code→Bool
 |.seq a _=>RV a
 |.region _ ops _=>ops.toList.any fun o=>match o.op with
  |.next _ false=>true
  |_=>false
 |_=>false
def JC(d f:Nat)(a:Code)(k:yV→SS→af):Nat→SS→af
 |0,_=>.fail 180
 |n+1,V=>self d f a V fun ex W=>match ex with
  |.normal=>JC d f a k n W
  |ex=>k ex W
def m_:mZ:=fun d f c V k=>
 match c with
 |.skip|.label _=>k .normal V
 |.region _ ops draw=>
  if draw then(if(dp ops).ok&&(ED ops (dp ops)||mA P (dp ops) ops.toList.zipIdx (DK d V))then gP P (if mA P (dp ops) ops.toList.zipIdx (DK d V)then cfg else AA cfg) self (fun t pv V=>k (.bC t pv) V) d f true ops [] ops.toList V fun V=>k .normal V else .fail 130)
  else gP P cfg self (fun t pv V=>k (.bC t pv) V) d f false ops [] ops.toList V fun V=>k .normal V
 |.seq a b=>self d f a V fun ex V=>match ex with
  |.normal=>self d f b V k
  |ex=>k ex V
 |.cond c a b=>match bG P d V 0 c with
  |.one (.v (.b true))=>self d f a V k
  |.one (.v (.b false))=>self d f b V k
  |.one (.v e)=>match c with
   |.tmp t=>if !as_ t V.nt then .fail 131 else .test e (self d f a (V.bH d (some t) (.one (.v (.b true)))) k) (self d f b (V.bH d (some t) (.one (.v (.b false)))) k)
   |_=>.fail 131
  |.one (.w _ e)=>match c with
   |.tmp t=>if !as_ t V.nt then .fail 131 else .test e (self d f a (V.bH d (some t) (.one (.v (.b true)))) k) (self d f b (V.bH d (some t) (.one (.v (.b false)))) k)
   |_=>.fail 131
  |_=>.fail 132
 |.block id a=>self d f a V fun ex V=>match ex with
  |.exit bp=>if ase id bp then k .normal V else k (.exit bp) V
  |ex=>k ex V
 |.loop a=>match(if abU cfg then ai6 d a V else none)with
  |some n=>JC self d f a k n V
  |none=>
  let id:=Az a
  let h:=(cfg.hints.find? fun h=>ase h.d d&&ase h.f f&&ase h.id id).getD ⟨d,f,id,[],[],[],[]⟩
  let V0:=uw h (settle h.xO V)
  let Vg:=gcS V0
  let(g,n,init):=JA h Vg.g Vg.n []
  let(l,n,_):=aaa h 0 Vg.l n init
  let H:SS:=⟨g,l,V0.n+(n- V0.n),V.lv+1,V.nt⟩
  match inst V0.n (n- V0.n) H V0 with
  |some (args,_)=>(if RV a then af.uniq else fun k=>k)<|.loop (dN args) (self d f a H fun ex W=>match ex with
   |.normal=>match inst V0.n (n- V0.n) H (settle h.xO W)with
    |some (args,_)=>.next V.lv (dN args)
    |none=>.bad d f id V0.n n H.g H.l W.g W.l
   |ex=>k ex W)
  |none=>.bad d f id V0.n n H.g H.l V0.g V0.l
 |.scope a=>self d f a V k
 |.exit id=>k (.exit id) V
 |.ret=>k .ret V
 |_=>.fail 133
end step
def exec(n:Nat):mZ:=avp (fun _ _ _ _ _=>.fail 140) (fun _ s=>m_ P cfg s) n
def dg:Nat→List TypeId→List (PV SE)
 |_,[]=>[]
 |j,t::ts=>ofType P t (.var j)::dg (j+1) ts
def pc:Nat→List TypeId→af→af
 |_,[],k=>k
 |j,t::ts,k=>qV P t (.var j) (pc (j+1) ts k)
def aA(n:Nat)(new:Bool)(f:FuncId):af:=
 match P.funcs[f]? with
 |some fn=>match fn.body with
  |some c=>
   if as4 fn.params.size fn.ntmps then
    pc P 0 fn.params.toList<|exec P cfg n 0 f c ⟨setArgs 0 0 (dg P 0 fn.params.toList),[],fn.params.size,0,fn.ntmps⟩ fun ex V=>match ex with
     |.exit _=>.fail 141
     |.bC _ _=>.fail 146
     |_=>match kT P 0 V fn.results.toList with
      |some cP=>match sO V (DH cP)with
       |some (fr,z,_)=>.ret (if new&&fr then .rw z else z)
       |none=>.fail 142
      |none=>.fail 110
   else .fail 143
  |none=>.fail 144
 |none=>.fail 145
end run
end Go.Ev
namespace Go.Ev
variable(P:Program)
def xU(z:IV):Option IV:=if ab z then some z else none
def au:IV→Bool
 |.raw _=>true
 |_=>false
def fa:IV→Option Int
 |.raw (.int _ n)=>some n
 |_=>none
def da(op:BinOp)(t:TypeId)(a b:IV):Option IV:=
 match ib a,ib b with
 |some .nilIface,_=>none
 |some _,some _=>oT P op t (.func 0) (.func 0) a b
 |_,_=>none
def UH(op:UnOp):IV→Option IV
 |.raw v=>(aJ P (Op.unary op v)).map lift
 |_=>none
def UI(src dst:TypeId):IV→Option IV
 |.raw (.string s)=>match P.underlying src,P.underlying dst with
  |some _,some .string=>some (.raw (.string s))
  |_,_=>none
 |.raw v=>(aJ P (convert src dst v)).map lift
 |_=>none
def cq(s:Nat):IV→IV→Option IV
 |.tree s' es,i=>match fa i with
  |some n=>if s'=s∧0≤n then match es[n.toNat]? with
   |some x=>if(cellsOf x).length=s then some x else none
   |none=>none
   else none
  |none=>none
 |_,_=>none
def iz(s:Nat)(es:List IV):Bool:=es.all fun e=>(cellsOf e).length==s&&(cellsOf e).all ab
def gl(s bytes:Nat):IV→IV→Option IV
 |.tree s1 es,.tree s2 fs=>if s1=s∧s2=s∧0<s∧iz s fs=true∧(4*(es.length+fs.length)+4096)*bytes≤2 ^47∧es.length+fs.length≤2 ^40 then some (.tree s (es++fs))else none
 |_,_=>none
def vw(s:Nat):IV→IV→IV→Option IV
 |.tree s1 es,i,x=>match fa i with
  |some n=>if s1=s∧0≤n∧n.toNat<es.length∧(cellsOf x).length=s then some (.tree s (es.set n.toNat x))else none
  |none=>none
 |_,_,_=>none
def jF(s:Nat):IV→IV→IV→Option IV
 |.tree s1 es,lo,hi=>match fa lo,fa hi with
  |some l,some h=>if s1=s∧0≤l∧l.toNat≤h.toNat∧0≤h∧h.toNat≤es.length then some (.tree s ((es.take h.toNat).drop l.toNat))else none
  |_,_=>none
 |_,_,_=>none
def DL(s:Nat):IV→IV→IV→Option IV
 |.tree s1 es,lo,z=>match fa lo with
  |some l=>if s1=s∧0≤l∧l.toNat≤es.length∧(cellsOf z).length=s then some (.tree s (es.take l.toNat++asn (es.length- l.toNat) z))else none
  |none=>none
 |_,_,_=>none
def HV:IV→Option IV
 |.tree _ es=>some (.int es.length)
 |_=>none
def xj:IV→Option IV
 |.raw (.string b)=>some (.int b.size)
 |_=>none
def ux:List IV→Option (List Value)
 |[]=>some []
 |c::cs=>match c with
  |.raw (.int q n)=>(ux cs).map (Value.int q n::·)
  |.raw (.string q)=>(ux cs).map (Value.string q::·)
  |_=>none
def keyOf:IV→Option Value
 |.raw (.int q n)=>some (.int q n)
 |.raw (.string q)=>some (.string q)
 |.agg cs=>(ux cs).map fun vs=>.agg vs.toArray
 |_=>none
def nM:List IV→Option (List Value)
 |[]=>some []
 |d::ds=>match d with
  |.av [k,_]=>match keyOf k,nM ds with
   |some v,some vs=>some (v::vs)
   |_,_=>none
  |_=>none
def nowAt(kd:TypeDesc)(k:Value):List Value→Nat→Option (Option Nat)
 |[],_=>some none
 |e::es,n=>match Instr.sameNow kd k e with
  |some true=>some (some n)
  |some false=>nowAt kd k es (n+1)
  |none=>none
def ER(kt:TypeId):Option TypeDesc:=
 match P.underlying kt with
 |some (.int q)=>some (.int q)
 |some .string=>some .string
 |_=>none
def HW(kt:TypeId)(ks:List Value)(k:Value):Option (Option Nat):=
 match gG P true kt k (ks.map fun e=>(e,.undef,0)),gG P false kt k (ks.map fun e=>(e,.undef,0))with
 |some q,some q'=>if q=q' then(match q with
  |none=>some none
  |some j=>match ks[j]? with
   |some e=>if Instr.sameBits 10000 e k then some (some j)else none
   |none=>none)else none
 |_,_=>none
def fc(kt:TypeId)(ds:List IV)(key:IV):Option (Option Nat):=
 match ER P kt,nM ds,keyOf key with
 |some kd,some ks,some k=>nowAt kd k ks 0
 |none,some ks,some k=>HW P kt ks k
 |_,_,_=>none
def lO(w:Nat):IV→IV→Option IV
 |.raw (.string s),.raw (.int .i64 p)=>if 0≤p then(match w with
  |0=>some (.raw (.bool (decide (p.toNat<s.size))))
  |1=>some (.raw (.int .i32 (atG s p.toNat).1))
  |2=>some (.raw (.int .i64 ((p.toNat+(atG s p.toNat).2:Nat))))
  |_=>none)else none
 |.raw (.int q c),p=>if w=7∧0≤c∧c≤1000000 then some (.raw (.int q c))
  else if w=8∧1≤c∧c≤1000000∧(q==IntKind.i64)=true∧(cellsOf p).length=1 then some (.tree 1 (asn c.toNat p))else none
 |.av ds,_=>if w=9 then some (.int ds.length)else none
 |_,_=>none
def SE.den(ν:List IV):SE→Option IV
 |.var x=>ν[x]?
 |.i n=>some (.raw (.int .i64 n))
 |.k q n=>some (.raw (.int q n))
 |.b t=>some (.raw (.bool t))
 |.s l=>some (.raw (.string ⟨l.toArray⟩))
 |.raw v=>some (.raw v)
 |.ok e=>(e.den ν).bind xU
 |.qL n e=>(e.den ν).bind fun|.agg cs=>if cs.length=n∧cs.all ab then some (.agg cs)else none|_=>none
 |.bM e j=>(e.den ν).bind fun|.agg cs=>(cs[j]?).bind xU|_=>none
 |.idx q e x=>(e.den ν).bind fun a1=>(x.den ν).bind fun b1=>cq q a1 b1
 |.CK q e x j=>(e.den ν).bind fun a1=>(x.den ν).bind fun b1=>(cq q a1 b1).bind fun y=>((cellsOf y)[j]?).bind xU
 |.len e=>(e.den ν).bind HV
 |.rB e=>(e.den ν).bind xj
 |.an=>some (.agg [])
 |.ac a r=>(a.den ν).bind fun x=>(r.den ν).bind fun|.agg cs=>some (.agg (x::cs))|_=>none
 |.tr q r=>(r.den ν).bind fun|.agg cs=>if 0<q∧cs.all (fun e=>(cellsOf e).length==q)then some (.tree q cs)else none|_=>none
 |.tp r=>(r.den ν).bind fun|.agg cs=>some (.av cs)|_=>none
 |.cat q bytes e f=>(e.den ν).bind fun a1=>(f.den ν).bind fun b1=>gl q bytes a1 b1
 |.Bl q e x y=>(e.den ν).bind fun a1=>(x.den ν).bind fun b1=>(y.den ν).bind fun c1=>vw q a1 b1 c1
 |.sub q e lo hi=>(e.den ν).bind fun a1=>(lo.den ν).bind fun b1=>(hi.den ν).bind fun c1=>jF q a1 b1 c1
 |.HN q e lo z=>(e.den ν).bind fun a1=>(lo.den ν).bind fun b1=>(z.den ν).bind fun c1=>DL q a1 b1 c1
 |.proj e j=>(e.den ν).bind fun|.av cs=>cs[j]? |_=>none
 |.bin op t a2 b2=>(a2.den ν).bind fun x1=>(b2.den ν).bind fun y1=>da P op t x1 y1
 |.un op a=>(a.den ν).bind (UH P op)
 |.cv q d a=>(a.den ν).bind (UI P q d)
 |.mx DF a2 b2=>(a2.den ν).bind fun x1=>(b2.den ν).bind fun y1=>if DF then I7 P [x1,y1]else MN P [x1,y1]
 |.As e x=>(e.den ν).bind fun a1=>(x.den ν).bind fun b1=>match a1,b1 with
  |.raw (.string q),.raw (.int _ n)=>if 0≤n then(q.data.toList[n.toNat]?).map fun c=>.raw (.int .u8 c.toNat)else none
  |_,_=>none
 |.Gx e lo hi=>(e.den ν).bind fun a1=>(lo.den ν).bind fun b1=>(hi.den ν).bind fun c1=>match a1,fa b1,fa c1 with
  |.raw (.string q),some l,some h=>if 0≤l∧l.toNat≤h.toNat∧0≤h∧h.toNat≤q.size then some (.raw (.string ⟨((q.data.toList.drop l.toNat).take (h.toNat- l.toNat)).toArray⟩))else none
  |_,_,_=>none
 |.dec w a p=>(a.den ν).bind fun a1=>(p.den ν).bind fun b1=>lO w a1 b1
 |.rw e=>(e.den ν).bind fun z=>if au z then some z else none
 |.rws e=>(e.den ν).bind fun|.tree q es=>if es.all (fun e=>(cellsOf e).all au)then some (.tree q es)else none|_=>none
 |.has kt m key=>(m.den ν).bind fun a1=>(key.den ν).bind fun k1=>match a1 with
  |.av ds=>(fc P kt ds k1).map fun r=>.bool r.isSome
  |_=>none
 |.get kt m key z=>(m.den ν).bind fun a1=>(key.den ν).bind fun k1=>(z.den ν).bind fun d1=>match a1 with
  |.av ds=>match fc P kt ds k1 with
   |some (some j)=>match ds[j]? with
    |some (.av [_,y1])=>some y1
    |_=>none
   |some none=>some d1
   |none=>none
  |_=>none
 |.ins kt m key x=>(m.den ν).bind fun a1=>(key.den ν).bind fun k1=>(x.den ν).bind fun y1=>match a1 with
  |.av ds=>match fc P kt ds k1 with
   |some (some j)=>some (.av (ds.set j (.av [k1,y1])))
   |some none=>some (.av (ds++[.av [k1,y1]]))
   |none=>none
  |_=>none
theorem SE.cI{ν μ:List IV}:∀(e:SE) {z:IV},e.den P ν=some z→e.den P (ν++μ)=some z:=by
 have hb:∀{o o':Option IV} {f:IV→Option IV} {z:IV},(∀y,o=some y→o'=some y)→o.bind f=some z→o'.bind f=some z:=by
  intro o o' f z h hz;cases o with
  |none=>cases hz
  |some y=>rw[h y rfl];exact hz
 intro e;induction e with
 |var x=>intro z h;simp only[SE.den]at h⊢;rw[asf (ar5.1 h).1];exact h
 |i n=>intro z h;exact h
 |k q n=>intro z h;exact h
 |b t=>intro z h;exact h
 |s l=>intro z h;exact h
 |raw v=>intro z h;exact h
 |an=>intro z h;exact h
 |ok e ih=>intro z h;exact hb (fun y=>ih) h
 |qL n e ih=>intro z h;exact hb (fun y=>ih) h
 |bM e j ih=>intro z h;exact hb (fun y=>ih) h
 |rB e ih=>intro z h;exact hb (fun y=>ih) h
 |len e ih=>intro z h;exact hb (fun y=>ih) h
 |tr q r ih=>intro z h;exact hb (fun y=>ih) h
 |tp r ih=>intro z h;exact hb (fun y=>ih) h
 |proj e j ih=>intro z h;exact hb (fun y=>ih) h
 |un op a ih=>intro z h;exact hb (fun y=>ih) h
 |cv q d a ih=>intro z h;exact hb (fun y=>ih) h
 |rw e ih=>intro z h;exact hb (fun y=>ih) h
 |rws e ih=>intro z h;exact hb (fun y=>ih) h
 |idx q e x fm eH|CK q e x j fm eH|ac a r fm eH|cat q by' e f fm eH|bin op t a b fm eH|mx DF a b fm eH|As e x fm eH|has kt m key fm eH|dec w a p fm eH=>
  intro z h;simp only[SE.den,ass]at h⊢;obtain⟨a,h1,b,h2,h3⟩:=h;exact⟨a,fm h1,b,eH h2,h3⟩
 |Bl q e x y fm eH AB|sub q e lo hi fm eH AB|HN q e lo z' fm eH AB|Gx e lo hi fm eH AB|ins kt m key x fm eH AB|get kt m key z' fm eH AB=>
  intro z h;simp only[SE.den,ass]at h⊢;obtain⟨a,h1,b,h2,c,h3,h4⟩:=h;exact⟨a,fm h1,b,eH h2,c,AB h3,h4⟩
abbrev Cr:=FuncId→Bool→List IV→IV→Prop
def h_(ν:List IV)(e:SE):Option (List IV):=
 match e.den P ν with
 |some (.agg cs)=>some cs
 |_=>none
def af.sat(C:Cr)(Q:IV→Prop):af→List (List IV→Prop)→List IV→Prop
 |.fail _,_,_=>False
 |.ret e,_,ν=>∃z,e.den P ν=some z∧Q z
 |.test e a b,K,ν=>(e.den P ν=some (.bool true)∧a.sat C Q K ν)∨(e.den P ν=some (.bool false)∧b.sat C Q K ν)
 |.two e a b,K,ν=>∃q es,e.den P ν=some (.tree q es)∧b.sat C Q K ν∧(es=[]→a.sat C Q K ν)
 |.bind e k,K,ν=>∃z,e.den P ν=some z∧k.sat C Q K (ν++[z])
 |.aG e k,K,ν=>(∃z,e.den P ν=some z)∧k.sat C Q K ν
 |.call f new args k,K,ν=>∃xs z,h_ P ν args=some xs∧C f new xs z∧k.sat C Q K (ν++[z])
 |.pick es x a b,K,ν=>∃ds rem,es.den P ν=some (.av ds)∧(∃r,x.den P ν=some (.av (.av ds::.av rem::r)))∧(rem=[]→a.sat C Q K ν)∧∀i y,rem[i]?=some y→b.sat C Q K (ν++[y,.av [.av ds,.av (rem.eraseIdx i),y]])
 |.same es x k,K,ν=>∃ds r,es.den P ν=some (.av ds)∧x.den P ν=some (.av (.av ds::r))∧k.sat C Q K ν
 |.uniq k,K,ν=>∃z,Q z∧k.sat C (·=z) (K.map fun _ _=>False) ν
 |.loop init body,K,ν=>∃vs,h_ P ν init=some vs∧∃m:Nat,(avp (motive:=fun _=>List IV→Prop) (fun _=>False) (fun _ ih vs=>body.sat C Q (K++[ih]) (ν++vs)) m) vs
 |.o8 body m cont,K,ν=>body.sat C Q (K++[fun vs=>vs.length=m∧cont.sat C Q K (ν++vs)]) ν
 |.next lv args,K,ν=>∃vs p,h_ P ν args=some vs∧K[lv]?=some p∧p vs
 |.bad ..,_,_=>False
abbrev qM(K K':List (List IV→Prop)):Prop:=All2 (fun p q=>∀vs,p vs→q vs) K K'
theorem qM.snoc{K K':List (List IV→Prop)}(h:qM K K'){p q:List IV→Prop}(hp:∀vs,p vs→q vs):qM (K++[p]) (K'++[q]):=h.app ⟨hp,trivial⟩
theorem qM.refl:∀(K:List (List IV→Prop)),qM K K
 |[]=>trivial
 |_::K=>⟨fun _ h=>h,qM.refl K⟩
theorem qM.no:∀(K:List (List IV→Prop)),qM (K.map fun _ _=>False) K
 |[]=>trivial
 |_::K=>⟨fun _ h=>h.elim,qM.no K⟩
theorem qM.nos:∀{K K':List (List IV→Prop)},qM K K'→qM (K.map fun _ _=>False) (K'.map fun _ _=>False)
 |[],[],_=>trivial
 |_::_,_::_,h=>⟨fun _ h=>h,qM.nos h.2⟩
 |[],_::_,h=>h.elim
 |_::_,[],h=>h.elim
theorem af.dV{C:Cr}:∀(f:af) {Q Q':IV→Prop} {K K':List (List IV→Prop)} {ν:List IV},(∀z,Q z→Q' z)→qM K K'→f.sat P C Q K ν→f.sat P C Q' K' ν
 |.fail _,_,_,_,_,_,_,_,h=>h
 |.bad ..,_,_,_,_,_,_,_,h=>h
 |.ret _,_,_,_,_,_,hq,_,⟨z,h1,h2⟩=>⟨z,h1,hq z h2⟩
 |.test _ a b,_,_,_,_,_,hq,hk,h=>h.imp (fun h=>⟨h.1,dV a hq hk h.2⟩) (fun h=>⟨h.1,dV b hq hk h.2⟩)
 |.two _ a b,_,_,_,_,_,hq,hk,⟨q,es,h1,h2,h3⟩=>⟨q,es,h1,dV b hq hk h2,fun he=>dV a hq hk (h3 he)⟩
 |.bind _ k,_,_,_,_,_,hq,hk,⟨z,h1,h2⟩=>⟨z,h1,dV k hq hk h2⟩
 |.aG _ k,_,_,_,_,_,hq,hk,⟨h1,h2⟩=>⟨h1,dV k hq hk h2⟩
 |.call _ _ _ k,_,_,_,_,_,hq,hk,⟨xs,z,h1,h2,h3⟩=>⟨xs,z,h1,h2,dV k hq hk h3⟩
 |.pick _ _ a b,_,_,_,_,_,hq,hk,⟨ds,rem,h1,h2,h3,h4⟩=>⟨ds,rem,h1,h2,fun he=>dV a hq hk (h3 he),fun i y hy=>dV b hq hk (h4 i y hy)⟩
 |.same _ _ k,_,_,_,_,_,hq,hk,⟨ds,r,h1,h2,h3⟩=>⟨ds,r,h1,h2,dV k hq hk h3⟩
 |.uniq k,_,_,_,_,_,hq,hk,⟨z,h1,h2⟩=>⟨z,hq z h1,dV k (fun _ h=>h) hk.nos h2⟩
 |.next lv _,_,_,_,_,_,_,hk,⟨vs,p,h1,h2,h3⟩=>by
  have DB:=ar4 (by rw[←hk.len];exact(ar5.1 h2).1);exact⟨vs,_,h1,DB,hk.get h2 DB vs h3⟩
 |.o8 a m b,_,_,_,_,_,hq,hk,h=>dV a hq (hk.snoc fun _ hv=>⟨hv.1,dV b hq hk hv.2⟩) h
 |.loop _ b,Q,Q',K,K',ν,hq,hk,⟨vs,h1,m,hm⟩=>by
  have key:∀(m:Nat) (vs:List IV),(avp (motive:=fun _=>List IV→Prop) (fun _=>False) (fun _ ih vs=>b.sat P C Q (K++[ih]) (ν++vs)) m) vs→(avp (motive:=fun _=>List IV→Prop) (fun _=>False) (fun _ ih vs=>b.sat P C Q' (K'++[ih]) (ν++vs)) m) vs:=by
   intro m;induction m with
   |zero=>intro vs h;exact h
   |succ m ih=>intro vs h;exact dV b hq (hk.snoc ih) h
  exact⟨vs,h1,m,key m vs hm⟩
end Go.Ev
namespace Go.Ev
variable{P:Program}{N:Nat}{σ ah:St}{R R':Rs}{φ aH:Ph}{E:Nat→Env}{ν:List IV}
abbrev aj(P:Program)(ν:List IV):SE→Option IV:=fun e=>e.den P ν
theorem bytes_eta(b:ByteArray):(⟨b.data.toList.toArray⟩:ByteArray)=b:=by cases b;simp
variable{L:List (LO SE)}{Γ:Gm SE}
theorem KN(t:TypeId)(v:Value):cw (aj P ν) R φ L σ (.raw v) (xP P t v):=by
 have raw:∀u:Value,(∀c,u≠.agg c)→(∀c,u≠.tuple c)→cw (aj P ν) R φ L σ (.raw u) (.v (.raw u)):=fun u h1 h2=>by
  refine⟨.raw u,rfl,.raw u,?_⟩;cases u<;>first|rfl|exact absurd rfl (h1 _)|exact absurd rfl (h2 _)
 unfold xP;split
 ·exact⟨_,rfl,.raw _,rfl⟩
 ·exact⟨_,rfl,.raw _,rfl⟩
 ·exact⟨_,rfl,.raw _,rfl⟩
 ·rename_i b;refine⟨.raw (.string b),?_,.raw _,rfl⟩;show some (IV.raw (.string ⟨b.data.toList.toArray⟩))=_;rw[bytes_eta]
 ·split
  ·rename_i s hs;split
   ·exact raw _ (by simp) (by simp)
   ·rename_i h;have:s≠0:=by simpa[Nat.beq_eq]using h
    exact⟨by omega,rfl⟩
  ·exact raw _ (by simp) (by simp)
 ·trivial
 ·trivial
 ·exact raw _ (fun c hc=>by subst hc;simp_all) (fun c hc=>by subst hc;simp_all)
theorem Bp:∀(ts:List TypeId) (vs:List Value),ts.length=vs.length→All2 (cw (aj P ν) R φ L σ) (vs.map .raw) (Uu (xP P) ts vs)
 |[],[],_=>trivial
 |t::ts,v::vs,h=>⟨KN t v,Bp ts vs (by simpa using h)⟩
 |[],_::_,h=>by simp at h
 |_::_,[],h=>by simp at h
theorem UJ(t:TypeId)(v:Value):VR (aj P ν) R φ L σ (lift v) (Js P t v):=by
 have key:cw (aj P ν) R φ L σ (.raw v) (xP P t v):=KN t v;cases v with
 |agg cs=>
  simp only[Js,lift];split
  ·rename_i h;exact⟨_,rfl,Bp _ _ (asd h)⟩
  ·trivial
 |_=>exact key
theorem mD{t:TypeId}{z:Value}(h:cj P t=some z):All2 (cw (aj P ν) R φ L σ) (z.cells.toList.map .raw) (zeroCells P t):=by
 unfold zeroCells;rw[h];simp only;split
 ·rename_i hh;exact Bp _ _ (asd hh)
 ·refine .mk (by simp) fun i a b h1 h2=>?_;rw[List.getElem?_map]at h2;obtain⟨_,_,rfl⟩:=Option.map_eq_some_iff.1 h2;trivial
theorem aW{V:SS}(h:J (aj P ν) R φ V.g V.l E σ)(d:Nat)(t:TypeId)(x:Operand):VR (aj P ν) R φ V.l σ (aq (E d) x) (bG P d V t x):=by
 cases x with
 |tmp y=>
  show VR _ _ _ _ _ ((E d).at y) ((cn d y V.g).getD (.one .un));cases hg:cn d y V.g with
  |none=>trivial
  |some pv=>exact h.slot d y pv hg
 |const v=>exact UJ t v
 |func f=>exact .inl ⟨rfl,rfl⟩
 |global g=>trivial
theorem aV.ab{fr:Bool}{x y:IV}(h:aV fr R σ x y)(hy:Ev.ab y=true):Ev.ab x=true:=by
 cases h<;>first|exact hy|rfl|(simp[Ev.ab]at hy;done)
theorem aV.adC{fr:Bool}{x y:IV}(h:aV fr R σ x y)(hx:Ev.ab x=true):Ev.ab y=true:=by
 cases h<;>first|exact hx|rfl|(simp[Ev.ab]at hx;done)
theorem cw.ab{x:IV}{c:Cl SE}(h:cw (aj P ν) R φ L σ x c)(hn:c≠.un):Ev.ab x=true:=by
 cases c with
 |un=>exact absurd rfl hn
 |v z=>obtain⟨y,_,h1,h2⟩:=h;exact h1.ab h2
 |w fr z=>obtain⟨y,_,h1,h2⟩:=h;exact h1.ab h2
 |pt k off ext=>obtain⟨id,cs,_,_,rfl⟩:=h;rfl
 |tp cs=>obtain⟨ds,rfl,_⟩:=h;rfl
 |tw fr cs=>obtain⟨_,⟨_,ds,rfl,_⟩|⟨id,off,ep,m,cx,ar,mn,_,_,_,_,rfl,_⟩⟩:=h<;>rfl
 |sr k=>obtain⟨s,st,cut,fr,z,es,_,_,⟨_,_,rfl|rfl⟩|⟨id,cs,ar,mn,cap,_,_,rfl,_⟩⟩:=h<;>rfl
 |sv k lo=>obtain⟨s,st,cut,fr,z,es,y,n,_,_,_,_,_,(⟨_,_,rfl|rfl⟩|⟨id,cs,ar,mn,cap,_,_,rfl,_⟩)|⟨_,rfl⟩⟩:=h<;>rfl
 |pr k i off ext=>obtain⟨s,st,cut,fr,z,es,y,n,id,cs,ar,mn,_,_,_,_,_,_,_,_,rfl⟩:=h;rfl
 |mp k=>obtain⟨id,kt,es,_,_,rfl⟩:=h;split<;>rfl
 |nl b s=>obtain⟨_,rfl⟩:=h;cases b<;>rfl
 |fn f bs=>obtain⟨_,rfl⟩|⟨ys,rfl,_⟩:=h<;>rfl
theorem GD:∀{cs:List (Cl SE)},rC cs=true→∀c∈cs,c≠.un
 |[],_,c,hc=>by cases hc
 |d::cs,h,c,hc=>by
  have hd:d≠.un∧rC cs=true:=by
   cases d<;>simp_all[rC]
  rcases List.mem_cons.1 hc with rfl|hc
  ·exact hd.1
  ·exact GD hd.2 c hc
theorem pO{xs:List IV}{cs:List (Cl SE)}(h:All2 (cw (aj P ν) R φ L σ) xs cs)(hn:rC cs=true):xs.all Ev.ab=true:=by
 rw[List.all_eq_true];intro x hx;obtain⟨i,hi⟩:=List.getElem?_of_mem hx;have hl:i<cs.length:=by rw[←h.len];exact(ar5.1 hi).1
 have hc:cs[i]?=some cs[i]:=ar4 hl;exact(h.get hi hc).ab (GD hn _ (List.mem_of_getElem? hc))
theorem yX{x:IV}{pv:PV SE}(h:VR (aj P ν) R φ L σ x pv)(hn:rC (ew pv)=true):All2 (cw (aj P ν) R φ L σ) (cellsOf x) (ew pv):=by
 cases pv with
 |one c=>
  have bf:=cw.ab (c:=c) h (GD hn c (by simp[ew]))
  have:cellsOf x=[x]:=by
   cases x<;>first|rfl|(simp[Ev.ab]at bf;done)
  rw[this];exact⟨h,trivial⟩
 |ag cs=>obtain⟨xs,rfl,h2⟩:=h;exact h2
 |tu vs=>simp[ew,rC]at hn
theorem Bq{s:Nat}:∀{es:List IV} (_:∀e∈es,(cellsOf e).length=s) {i j:Nat} {e d:IV},es[i]?=some e→(cellsOf e)[j]?=some d→(flat es)[i*s+j]?=some d:=by
 intro es;induction es with
 |nil=>intro _ i j e d h;simp at h
 |cons a es ih=>
  intro bD i j e d he hd;have ha:(cellsOf a).length=s:=bD a (by simp);unfold flat;rw[auA];cases i with
  |zero=>
   simp at he;subst he;rw[asf (by have:=(ar5.1 hd).1;omega)];simpa using hd
  |succ i=>
   simp at he;rw[asG,List.getElem?_append_right (by omega),ha];have:=ih (fun e he=>bD e (by simp[he])) he hd;rw[show i*s+1*s+j- s=i*s+j by omega];exact this
theorem na{s:Nat}:∀{es:List IV} (_:∀e∈es,(cellsOf e).length=s),(flat es).length=es.length*s:=by
 intro es;induction es with
 |nil=>intro _;simp[flat]
 |cons a es ih=>
  intro bD;have:=ih (fun e he=>bD e (by simp[he]));unfold flat at this⊢;rw[auA,List.length_append,this,bD a (by simp),List.length_cons,asG];omega
theorem UK(V:SS)(k:Nat)(o:LO SE):(V.setObj k o).l=V.l.set k o:=rfl
theorem aag{V:SS}{k s:Nat}{cut fr:Bool}{z:SE}(h:J (aj P ν) R φ V.g V.l E σ)(hk:V.l[k]?=some (.row s false cut fr z)):
 ∃R',jU (aj P ν) (aj P ν) R φ V.l σ R' φ (V.l.set k (.row s true cut fr z)) σ (fun _=>False)∧J (aj P ν) R' φ V.g (V.l.set k (.row s true cut fr z)) E σ:=by
 obtain⟨bu,es,he,bD,hor⟩:=h.obj k _ hk;have qc:=cO hk;have bn:(V.l.set k (.row s true cut fr z))[k]?=some (.row s true cut fr z):=by simp[qc]
 have bc:∀j,j≠k→(V.l.set k (.row s true cut fr z))[j]?=V.l[j]? :=fun j hj=>List.getElem?_set_ne (fun hc=>hj hc.symm)
 have abV:∀R',ic R σ R' σ→jU (aj P ν) (aj P ν) R φ V.l σ R' φ (V.l.set k (.row s true cut fr z)) σ (fun _=>False):=fun R' hg=>by
  refine .mk' (fun _ _ h=>h) hg (fun j cs hj=>?_) (fun j kt es hj=>?_) (fun j s' st uj cL z' hj _=>?_)
  ·by_cases bB:j=k
   ·subst bB;rw[hk]at hj;cases hj
   ·exact⟨⟨cs,by rw[bc j bB];exact hj⟩,rfl⟩
  ·by_cases bB:j=k
   ·subst bB;rw[hk]at hj;cases hj
   ·exact⟨⟨es,by rw[bc j bB];exact hj⟩,rfl⟩
  ·by_cases bB:j=k
   ·subst bB;rw[hk]at hj;cases hj;exact⟨⟨true,bn⟩,rfl,fun _ _=>rfl⟩
   ·exact⟨⟨st,by rw[bc j bB];exact hj⟩,rfl,fun _ _=>rfl⟩
 rcases hor with⟨h1,h2⟩|⟨id,cs,ar,mn,h1,h2,h3,h4,h5,h6,h7⟩
 ·have hs:=abV R (ic.refl h.fits);refine⟨R,hs,{h with slot:=fun d t pv hg=>(h.slot d t pv hg).step hs pv.aS,obj:=fun j o hj=>?_,lt:=fun j id hj=>by simpa using h.lt j id hj}⟩;by_cases bB:j=k
  ·subst bB;rw[bn]at hj;cases hj;exact⟨bu,es,he,bD,.inl ⟨h1,h2⟩⟩
  ·rw[bc j bB]at hj;exact(h.obj j o hj).step hs rfl (fun _ _=>⟨rfl,rfl⟩) o.aS
 ·let R':Rs:=fun i=>if i=id then some (es.length*s)else R i
  have Br:R id=none:=by simpa using h5
  have hg:ic R σ R' σ:=by
   refine⟨fun i m hm=>⟨m,?_,ar9 _⟩,fun i m cm g_ o7 hm az=>⟨cm,g_,az,ar9 _,fun _ _=>rfl⟩,fun i m cm g_ o7 hm az=>?_⟩
   ·have:i≠id:=fun hc=>by rw[hc,Br]at hm;cases hm
    simp[R',this,hm]
   ·simp only[R']at hm;split at hm
    ·rename_i hc;subst hc;cases hm;rw[h2]at az;cases az;exact h4
    ·exact h.fits i m cm g_ o7 hm az
  have hs:=abV R' hg;refine⟨R',hs,{h with slot:=fun d t pv M3=>(h.slot d t pv M3).step hs pv.aS,obj:=fun j o hj=>?_,lt:=fun j id hj=>by simpa using h.lt j id hj,qb:=fun i m hm=>?_,fits:=hg.fits}⟩
  ·by_cases bB:j=k
   ·subst bB;rw[bn]at hj;cases hj;exact⟨bu,es,he,bD,.inr ⟨id,cs,ar,mn,h1,h2,h3,h4,by simp[R'],h6,fun j x d hx hd=>(h7 j x d hx hd).mono hg⟩⟩
   ·rw[bc j bB]at hj;refine(h.obj j o hj).step hs rfl (fun i hi=>⟨rfl,?_⟩) o.aS;have:i≠id:=fun hc=>bB (h.inj j k id (by rw[←hc];exact hi) h1);simp[R',this]
  ·simp only[R']at hm;split at hm
   ·rename_i hc;subst hc;exact(h.lt _ _ h1).2
   ·exact h.qb i m hm
theorem N3{x:IV}{k s:Nat}{cut fr:Bool}{z:SE}(h:J (aj P ν) R φ Γ L E σ)(hk:L[k]?=some (.row s true cut fr z))(hx:cw (aj P ν) R φ L σ x (.sr k)):
 ∃y,z.den P ν=some y∧aV fr R σ x y∧ab y=true:=by
 obtain⟨bu,es,he,bD,hor⟩:=h.obj k _ hk;obtain⟨s',lu,uj,cL,z',aB,h1,h2,oE⟩:=hx;rw[hk]at h1;cases h1;rw[he]at h2;cases h2;refine⟨_,he,?_,rfl⟩;rcases oE with⟨h3,h4,h5⟩|⟨id,cs,ar,mn,cap,h3,h4,rfl,h5,h6,h7⟩
 ·have:es=[]:=List.eq_nil_of_length_eq_zero h4;subst this;rcases h5 with rfl|rfl
  ·exact .nil s bu
  ·exact .emp s bu
 ·rcases hor with⟨h8,_⟩|⟨bp,cm,g_,o7,h8,h9,Dx,HI,h12,h13,Xa⟩
  ·rw[h3]at h8;cases h8
  ·rw[h3]at h8;cases h8;rw[h4]at h9;cases h9;refine .sl id (0*s) (es.length- 0) cap ar s (es.length*s) cs ar mn es (by simpa using h12) h4 Dx (ar9 _) bu rfl (by simp) HI bD fun i e j c d he hd hc=>?_;refine Xa (i*s+j) c d (by simpa using hc) (Bq bD he hd)
def iQ(P:Program)(ν:List IV)(R:Rs)(φ:Ph)(V:SS)(σ:St)(R':Rs)(V':SS):Prop:=
 V'.g=V.g∧V'.n=V.n∧V'.ln=V.ln∧jU (aj P ν) (aj P ν) R φ V.l σ R' φ V'.l σ (fun _=>False)
theorem jU.trans{α:Type}{ev:α→Option IV}{R1 R2 R3:Rs}{dt CL φ3:Ph}{L1 L2 L3:List (LO α)}{ai c7 vo:St}(h:jU ev ev R1 dt L1 ai R2 CL L2 c7 (fun _=>False))(k:jU ev ev R2 CL L2 c7 R3 φ3 L3 vo (fun _=>False)):
 jU ev ev R1 dt L1 ai R3 φ3 L3 vo (fun _=>False):=by
 refine⟨fun _ _ h=>h,⟨fun id m hm=>?_,fun id m cs ar mn hm az=>?_,k.grow.fits⟩,fun j cs hj=>?_,fun j kt es hj=>?_,fun j s st cut fr z hj hb=>?_⟩
 ·obtain⟨m1,h1,h2⟩:=h.grow.le id m hm;obtain⟨m2,h3,h4⟩:=k.grow.le id m1 h1;exact⟨m2,h3,asr h2 h4⟩
 ·obtain⟨nN,Bs,h1,h2,h3⟩:=h.grow.keep id m cs ar mn hm az;obtain⟨m1,h4,h5⟩:=h.grow.le id m hm;obtain⟨cs2,sU,h6,h7,h8⟩:=k.grow.keep id m1 nN Bs mn h4 h1;exact⟨cs2,sU,h6,asr h2 h7,fun j hj=>by rw[h8 j (by omega),h3 j hj]⟩
 ·obtain⟨⟨cm,h1⟩,h2⟩:=h.var j cs hj;obtain⟨h3,h4⟩:=k.var j cm h1;exact⟨h3,h4.trans h2⟩
 ·obtain⟨⟨aB,h1⟩,h2⟩:=h.map j kt es hj;obtain⟨h3,h4⟩:=k.map j kt aB h1;exact⟨h3,h4.trans h2⟩
 ·obtain⟨⟨rX,rY,z1,h1,cH⟩,h2,h3⟩:=h.row j _ _ _ _ _ hj hb;obtain⟨⟨Xb,Xc,z2,h4,h4'⟩,h5,h6⟩:=k.row j _ _ _ _ _ h1 hb;refine⟨⟨Xb,Xc,z2,h4,fun es he=>?_⟩,h5.trans h2,fun id cs ar mn hid az=>?_⟩
  ·obtain⟨eP,a1,a2⟩:=cH es he;obtain⟨gF,b1,b2⟩:=h4' eP a1;exact⟨gF,b1,b2.trans a2⟩
  ·obtain⟨nN,AD,a1,a2,a3⟩:=h3 id cs ar mn hid az;obtain⟨cs2,CM,b1,b2,b3⟩:=h6 id nN ar AD (by rw[h2];exact hid) a1;exact⟨cs2,CM,b1,b2.trans a2,fun h=>b3 (a3 h)⟩
theorem iQ.refl{V:SS}(h:J (aj P ν) R φ V.g V.l E σ):iQ P ν R φ V σ R V:=
 ⟨rfl,rfl,rfl,.mk' (fun _ _ h=>h) (ic.refl h.fits) (fun k cs hk=>⟨⟨cs,hk⟩,rfl⟩) (fun k kt es hk=>⟨⟨es,hk⟩,rfl⟩) (fun k s st cut fr z hk _=>⟨⟨st,hk⟩,rfl,fun _ _=>rfl⟩)⟩
theorem iQ.trans{V V1 V2:SS}{R1 R2:Rs}(h:iQ P ν R φ V σ R1 V1)(k:iQ P ν R1 φ V1 σ R2 V2):iQ P ν R φ V σ R2 V2:=
 ⟨k.1.trans h.1,k.2.1.trans h.2.1,k.2.2.1.trans h.2.2.1,h.2.2.2.trans k.2.2.2⟩
theorem iQ.KO{V V1:SS}{R1:Rs}(h:iQ P ν R φ V σ R1 V1){x:IV}{c:Cl SE}(hx:cw (aj P ν) R φ V.l σ x c):cw (aj P ν) R1 φ V1.l σ x c:=hx.step h.2.2.2 c.aS
theorem iQ.vr{V V1:SS}{R1:Rs}(h:iQ P ν R φ V σ R1 V1){x:IV}{c:PV SE}(hx:VR (aj P ν) R φ V.l σ x c):VR (aj P ν) R1 φ V1.l σ x c:=hx.step h.2.2.2 c.aS
theorem FM{V:SS}(h:J (aj P ν) R φ V.g V.l E σ)(k:Nat):∃R',iQ P ν R φ V σ R' (o9 k V)∧J (aj P ν) R' φ (o9 k V).g (o9 k V).l E σ∧
 (∀s st cut fr z,V.l[k]?=some (.row s st cut fr z)→(o9 k V).l[k]?=some (.row s true cut fr z)):=by
 unfold o9;split
 ·rename_i s cut fr es hk;obtain⟨R',h1,h2⟩:=aag h hk;refine⟨R',⟨rfl,rfl,rfl,h1⟩,h2,fun s' lu uj cL z' cz=>?_⟩;rw[hk]at cz;cases cz;simp[UK,cO hk]
 ·rename_i hn;refine⟨R,.refl h,h,fun s st cut fr z hk=>?_⟩;cases st with
  |true=>exact hk
  |false=>exact absurd hk (hn _ _ _ _)
theorem DM{V V':SS}{c:Cl SE}{fr:Bool}{z:SE}(h:J (aj P ν) R φ V.g V.l E σ)(hr:wj V c=some (fr,z,V')):
 ∃R',iQ P ν R φ V σ R' V'∧J (aj P ν) R' φ V'.g V'.l E σ∧∀x,cw (aj P ν) R φ V.l σ x c→∃y,z.den P ν=some y∧aV fr R' σ x y∧ab y=true:=by
 cases c with
 |v z'=>
  simp only[wj,ar7,asx]at hr;obtain⟨rfl,rfl,rfl⟩:=hr;refine⟨R,.refl h,h,fun x ⟨y,h1,h2,h3⟩=>⟨y,h1,?_,h3⟩⟩;have hg:ic (fun _=>none) ⟨0,.lf⟩ R σ:=⟨fun _ _ h=>(by cases h),fun _ _ _ _ _ h=>(by cases h),h.fits⟩;exact h2.mono hg
 |w f z'=>
  simp only[wj,ar7,asx]at hr;obtain⟨rfl,rfl,rfl⟩:=hr;exact⟨R,.refl h,h,fun x hx=>hx⟩
 |nl b s=>
  simp only[wj,ar7,asx]at hr;obtain⟨rfl,rfl,rfl⟩:=hr;refine⟨R,.refl h,h,fun x ⟨h1,h2⟩=>⟨.tree s [],?_,?_,rfl⟩⟩
  ·simp[SE.den,h1]
  ·subst h2;cases b
   ·exact .emp s h1
   ·exact .nil s h1
 |sr k=>
  simp only[wj]at hr;split at hr
  ·rename_i s st cut cL es hk;simp only[ar7,asx]at hr;obtain⟨rfl,rfl,rfl⟩:=hr;obtain⟨R',h1,h2,h3⟩:=FM h k;exact⟨R',h1,h2,fun x hx=>N3 h2 (h3 _ _ _ _ _ hk) (h1.KO hx)⟩
  ·cases hr
 |un|pt|tp|tw|sv|pr|mp|fn=>simp[wj]at hr
theorem uy:∀{cs:List (Cl SE)} {V V':SS} {R:Rs} {fr:Bool} {zs:List SE},J (aj P ν) R φ V.g V.l E σ→sN V cs=some (fr,zs,V')→
 ∃R',iQ P ν R φ V σ R' V'∧J (aj P ν) R' φ V'.g V'.l E σ∧zs.length=cs.length∧∀xs,All2 (cw (aj P ν) R φ V.l σ) xs cs→∃ys,All2 (fun(z:SE) y=>z.den P ν=some y) zs ys∧All2 (aV fr R' σ) xs ys∧ys.all Ev.ab=true
 |[],V,V',R,fr,zs,h,hr=>by
  simp only[sN,ar7,asx]at hr;obtain⟨rfl,rfl,rfl⟩:=hr;refine⟨R,.refl h,h,rfl,fun xs hx=>⟨[],trivial,?_,rfl⟩⟩;cases xs with
  |nil=>trivial
  |cons=>exact hx.elim
 |c::cs,V,V',R,fr,zs,h,hr=>by
  simp only[sN]at hr;split at hr
  ·rename_i f1 z V1 h1;split at hr
   ·rename_i f2 zs' V2 h2;simp only[ar7,asx]at hr;obtain⟨rfl,rfl,rfl⟩:=hr;obtain⟨R1,a1,a2,a3⟩:=DM h h1;obtain⟨R2,b1,b2,bl,b3⟩:=uy a2 h2;refine⟨R2,a1.trans b1,b2,by simp[bl],fun xs hx=>?_⟩;cases xs with
    |nil=>exact hx.elim
    |cons x xs=>
     obtain⟨y,c1,c2,c3⟩:=a3 x hx.1;obtain⟨ys,d1,d2,d3⟩:=b3 xs (hx.2.mono fun _ _ bR=>a1.KO bR);exact⟨y::ys,⟨c1,d1⟩,⟨(c2.mono b1.2.2.2.grow).wide (fun h=>by simp[h]),d2.mono fun _ _ bR=>bR.wide (fun h=>by simp[h])⟩,by simp[c3,d3]⟩
   ·cases hr
  ·cases hr
theorem ey:∀{zs:List SE} {ys:List IV},All2 (fun(z:SE) y=>z.den P ν=some y) zs ys→(dN zs).den P ν=some (.agg ys)
 |[],[],_=>rfl
 |z::zs,y::ys,h=>by simp[dN,SE.den,h.1,ey h.2]
 |[],_::_,h=>h.elim
 |_::_,[],h=>h.elim
end Go.Ev
namespace Go.Ev
abbrev af.nt(e:SE)(a b:af):af:=.aG e (.test e a b)
abbrev af.nr(e:SE):af:=.aG e (.ret e)
abbrev af.nx(n:Nat)(e r:SE):af:=.aG e (.next n (.ac e r))
abbrev qN(a b:Nat):SE:=.bM (.var a) b
abbrev fF(a:Nat):SE:=.ok (.var a)
abbrev KQ(a:BinOp)(b:TypeId)(c d:SE):SE:=.ok (.bin a b c d)
abbrev yY(a b c:SE):SE:=.ac a (.ac b c)
abbrev HX(a:BinOp)(b:TypeId)(c:Nat)(d:SE):SE:=KQ a b (.var c) d
abbrev FN(a b:SE)(c d:af):af:=.aG a (.nt b c d)
abbrev HY(a b:Nat):SE:=.len (qN a b)
abbrev oH(a:SE):SE:=.ac a .an
abbrev rp8(a:BinOp)(b:TypeId)(c:Nat)(d:Int):SE:=HX a b c (.i d)
abbrev cB(a b:SE)(c:af):af:=.aG a (.aG b c)
abbrev xV:SE:=.b false
abbrev zR(a:SE)(b c:Nat)(d:SE):SE:=yY a (qN b c) d
abbrev ot(a b c d:Nat)(e:SE):SE:=zR (qN a b) c d e
abbrev kU(a:FuncId)(b:SE)(c:af):af:=.call a false b c
abbrev iA(a:Nat):SE:=.len (fF a)
abbrev aQ:af:=.ret xV
abbrev vP(a:Nat)(b c:SE)(d:af):af:=.bind (.idx a b c) d
abbrev kV(a b:Nat):SE:=.qL a (.var b)
abbrev bz:SE:=.i 0
abbrev N4(a:Nat)(b:BinOp)(c:TypeId)(d:Nat)(e:Int)(f:SE):af:=.nx a (rp8 b c d e) f
abbrev nb(a:SE)(b:BinOp)(c:TypeId)(d e:SE)(f g:af):af:=FN a (KQ b c d e) f g
abbrev anG(a:Nat)(b:TypeId)(c:Nat)(d:Int)(e:SE):af:=N4 a .add b c d e
abbrev pd(a:Nat)(b:SE)(c:Nat)(d:af):af:=vP a b (.var c) d
abbrev aY:SE:=fF 0
abbrev ko(a b:SE):SE:=yY a b .an
abbrev zS(a b:Nat):SE:=.proj (.var a) b
abbrev GF(a:TypeId)(b:Nat)(c:SE):SE:=HX .lss a b c
abbrev iC(a:FuncId)(b:SE)(c:af):af:=kU a (oH b) c
abbrev jy(a b:Nat)(c:af):af:=.aG (kV a b) c
abbrev anH(a:UnOp)(b:SE):SE:=.ok (.un a b)
abbrev sV(a:SE):SE:=anH .not a
abbrev xW(a:BinOp)(b:TypeId)(c d:SE)(e f:af):af:=.nt (KQ a b c d) e f
abbrev pe:SE:=oH bz
abbrev aah(a b:Nat)(c:Int)(d:SE):af:=anG a 3 b c d
abbrev Bt(a b:Nat)(c:SE):af:=aah a b 1 c
abbrev GG(a b:SE)(c d:af):af:=.loop a (.nt b c d)
abbrev sW(a b:SE)(c d:af):af:=FN a (sV b) c d
abbrev eI(a:Nat)(b:af):af:=.aG (fF a) b
abbrev anI(a b c d e f g h:Nat)(i:SE):SE:=ot a b c d (ot e f g h i)
abbrev aai(a b:Nat)(c:SE)(d:Nat):SE:=.CK a (.var b) c d
abbrev ou(a:Nat):SE:=oH (.var a)
abbrev sX(a:SE)(b:TypeId)(c:Nat)(d:SE)(e f:af):af:=GG a (GF b c d) e f
abbrev bI:SE:=iA 0
abbrev anJ(a b c:SE)(d e:af):af:=.loop a (FN b c d e)
abbrev fx(a:SE)(b:BinOp)(c d:SE)(e f:af):af:=nb a b 3 c d e f
abbrev gb(a b:Nat):af:=Bt a b .an
abbrev sY(a b:SE)(c:TypeId)(d:Nat)(e:SE)(f g:af):af:=anJ a b (GF c d e) f g
abbrev anK(a:SE)(b:TypeId)(c:Nat)(d:SE)(e:Nat)(f:SE)(g:Nat)(h i:af):af:=sX a b c d (pd e f g h) i
abbrev qu(a:Int):af:=.ret (.i a)
abbrev anL(a:Nat)(b:SE)(c d:af):af:=sW (fF a) b c d
abbrev kW(a b:Nat)(c d:af):af:=anL a (fF b) c d
abbrev jz(a:Nat):SE:=.len (.var a)
abbrev kX:SE:=.b true
abbrev rE(a b:Nat)(c d:SE)(e:af):af:=.bind (.cat a b c d) e
abbrev JD(a b c d:Nat):SE:=aai a b (.var c) d
abbrev er(a b c:Nat):af:=Bt a b (ou c)
abbrev ov(a b c d:Nat):SE:=ot a b c d .an
abbrev zT(a b:SE)(c:TypeId)(d:Nat)(e:SE)(f:Nat)(g:SE)(h:Nat)(i j:af):af:=sY a b c d e (pd f g h i) j
abbrev bK:SE:=fF 1
abbrev anM(a:TypeId)(b:Nat)(c:Int):SE:=rp8 .sub a b c
abbrev JE(a:BinOp)(b:TypeId)(c d:Nat)(e:SE)(f g:af):af:=xW a b (qN c d) e f g
abbrev uz(a:SE)(b:af):af:=.aG (.rw a) b
abbrev DN(a:Nat):SE:=.tr a .an
abbrev Bu(a:SE)(b:Nat):SE:=ko a (.var b)
abbrev mE(a:SE)(b:BinOp)(c:SE)(d:Int)(e f:af):af:=fx a b c (.i d) e f
abbrev kY(a b:Nat)(c:FuncId)(d:SE)(e:af):af:=jy a b (iC c d e)
abbrev rF(a b:Nat)(c:SE):SE:=.idx a (.var b) c
abbrev ow(a:FuncId)(b:SE)(c:af):af:=.call a true b c
abbrev vQ(a:Nat)(b:SE):af:=.next a (oH b)
abbrev JF(a:Nat):SE:=HY 1 a
abbrev UL(a:SE):af:=.ret (.tp a)
abbrev ja:af:=.ret kX
abbrev anN(a:SE)(b:Int):af:=uz a (qu b)
abbrev vR(a b c:Nat)(d:SE)(e:af):af:=rE a b (.var c) d e
abbrev fV(a:FuncId)(b c:SE)(d:af):af:=kU a (ko b c) d
abbrev bU:SE:=fF 2
abbrev GH(a:Nat)(b:Int):SE:=anM 3 a b
abbrev oz(a:SE)(b:BinOp)(c:SE)(d e:af):af:=fx a b c bz d e
abbrev UM(a b:Nat):SE:=.ok (zS a b)
abbrev vS(a b:SE):af:=UL (ko a b)
abbrev N5(a b c:Nat):SE:=.bM (zS a b) c
abbrev uA(a:Nat):SE:=GH a 1
abbrev nc(a b c:Nat):SE:=rF a b (.var c)
abbrev cW(a:Nat):SE:=qN a 0
abbrev iD(a b:Int):af:=anN (.i a) b
abbrev jJ(a b:Nat)(c:SE)(d:af):af:=cB (kV a b) c d
abbrev fH(a:FuncId)(b:SE)(c:Nat)(d:af):af:=iC a b (eI c d)
abbrev DO(a:Nat):SE:=HY 0 a
abbrev oA:SE:=DN 4
abbrev zU(a:BinOp)(b c:SE):SE:=KQ a 3 b c
abbrev lP(a b:Nat)(c:af)(d e:Nat):af:=kW a b c (gb d e)
abbrev qv(a b:Nat):SE:=oH (qN a b)
abbrev anO(a b c d e f g:Nat)(h:SE):SE:=anI a 0 b c d e f g h
abbrev anP(a b c d e f:Nat)(g:SE):SE:=anO a b 1 c d e f g
abbrev anQ(a b c d e:Nat)(f:SE):SE:=anP a b c 2 d e f
abbrev aaj(a b c d:Nat)(e:SE):SE:=anQ a b c d 3 e
abbrev xX(a:SE)(b:BinOp)(c:SE)(d:Int)(e:af):af:=mE a b c d aQ e
abbrev qw(a:SE)(b:Nat)(c:SE)(d:Nat)(e:SE)(f:Nat)(g h:af):af:=anK a 3 b c d e f g h
abbrev dy:SE:=fF 5
abbrev dz:SE:=fF 3
abbrev ai7(a:SE)(b:TypeId)(c:Nat)(d:SE)(e:Nat)(f:SE)(g:Nat)(h i:af):af:=zT pe a b c d e f g h i
abbrev ES(a:BinOp)(b:SE)(c:Int):SE:=zU a b (.i c)
abbrev nf(a:Nat)(b:af):af:=.aG (JF a) b
abbrev My(a:SE):SE:=ko bz a
abbrev pP(a:Nat)(b:SE)(c:Nat)(d:SE)(e:Nat)(f g:af):af:=qw pe a b c d e f g
abbrev uP(a:BinOp)(b:TypeId)(c:SE)(d e:af):af:=xW a b aY c d e
abbrev dE:SE:=iA 2
abbrev fy(a b c d:Nat):SE:=aaj a b c d .an
abbrev ng:SE:=uA 14
abbrev mb(a:Int):SE:=.k .u8 a
abbrev dS:SE:=DO 1
abbrev HZ(a:SE)(b:af):af:=cB aY a b
abbrev eX:SE:=.var 10
abbrev ET(a:Nat)(b c d:SE)(e:af):af:=.bind (.sub a b c d) e
abbrev eg:SE:=iA 1
abbrev gx:SE:=DN 1
abbrev eE:SE:=JF 3
abbrev ai8(a:BinOp)(b:TypeId)(c d:Nat)(e:Int)(f g:af):af:=JE a b c d (.i e) f g
abbrev ni(a:BinOp)(b:Nat)(c:Int):SE:=rp8 a 3 b c
abbrev ai9(a:Nat)(b:Int):SE:=ni .add a b
abbrev eh:SE:=fF 6
abbrev EU(a:Int):af:=.ret (mb a)
abbrev dO:SE:=fF 4
abbrev wB(a b:Nat):SE:=Bu (.var a) b
abbrev kB(a:af):af:=HZ bK a
abbrev nj(a b c:SE):SE:=yY a b (oH c)
abbrev fe(a b:SE)(c:Int)(d:af):af:=xX a .gtr b c d
abbrev gQ(a:Nat):SE:=qN a 1
abbrev abW(a:FuncId)(b c d e:Nat)(f:af):af:=kU a (ov b c d e) f
abbrev kC(a b:SE):SE:=zU .add a b
abbrev UN:SE:=.rw xV
abbrev yZ(a b:SE)(c:af):af:=.aG a (.bind b c)
abbrev Bv(a:Nat):af:=vQ a xV
abbrev kD:af:=.ret bz
abbrev oI(a:Nat):SE:=ai9 a 1
abbrev fz(a:SE)(b:Nat)(c:SE)(d:Nat)(e:SE)(f:Nat)(g h:af):af:=ai7 a 3 b c d e f g h
abbrev np(a b c d:SE):SE:=yY a b (ko c d)
abbrev UO(a b:Nat)(c d:SE)(e:af):af:=ET a (.var b) c d e
abbrev kE:SE:=JF 1
abbrev uQ(a:FuncId)(b c:SE)(d:af):af:=ow a (ko b c) d
abbrev ai_(a:Nat)(b:Int):SE:=ni .geq a b
abbrev sZ(a:Nat)(b:SE):SE:=.tr a (oH b)
abbrev wC(a:TypeId)(b:SE)(c d:af):af:=uP .eql a b c d
abbrev oJ(a:Nat)(b:af):af:=.aG (oI a) b
abbrev jo(a b c:Nat)(d:SE)(e f g:Nat):af:=vR a b c d (er e f g)
abbrev UP(a:Nat):SE:=sV (.var a)
abbrev wD(a:SE)(b:BinOp)(c d:SE)(e:af)(f g:Nat):af:=fx a b c d e (gb f g)
abbrev qW(a b:Nat)(c:af):af:=kW a b aQ c
abbrev ie:SE:=JF 2
abbrev nq:SE:=uA 8
abbrev Mz(a b:SE):af:=vS a (oH b)
abbrev UQ(a:SE)(b:Nat):af:=Mz a (uA b)
abbrev kF(a:SE)(b:Nat)(c:SE)(d:Nat)(e:SE)(f:Nat)(g h:af):af:=qw (My a) b c d e f g h
abbrev ig(a b:SE)(c d:af):af:=oz a .eql b c d
abbrev abX(a:SE)(b c:Nat)(d:SE):SE:=zR a b c (oH d)
abbrev iR:SE:=DO 3
abbrev kG:af:=Bv 4
abbrev kH(a:Nat):SE:=HY a 1
abbrev jq(a:BinOp)(b c:Nat)(d:Int)(e f:af):af:=ai8 a 3 b c d e f
abbrev wE(a:Nat):SE:=HY a 3
abbrev gy:SE:=fF 7
abbrev aja(a b c d e f g h:Nat):SE:=aaj a b c d (ov e f g h)
abbrev jr:SE:=jz 5
abbrev s5(a b c:Nat):SE:=JD a b c 0
abbrev mc(a:af):af:=.aG aY a
abbrev ej(a b:Nat):SE:=N5 a 0 b
abbrev gR:SE:=fF 9
abbrev jK:SE:=.var 9
abbrev jL:SE:=cW 0
abbrev jM:SE:=DO 2
abbrev EV(a:Nat):SE:=qN 1 a
abbrev me:SE:=gQ 0
abbrev y6(a:SE)(b:BinOp)(c:TypeId)(d e:SE)(f:af)(g h:Nat):af:=nb a b c d e f (gb g h)
abbrev qX(a:Nat):SE:=Bu bz a
abbrev uR:SE:=JF 0
abbrev s6:SE:=.var 2
abbrev gz(a b:Nat):SE:=s5 1 a b
abbrev ajb(a b c:Nat):SE:=ov a 0 b c
abbrev wF(a b:Nat):SE:=ajb a b 1
abbrev UR:SE:=.s []
abbrev gA(a:Nat):SE:=HY a 2
abbrev s7:SE:=.rB aY
abbrev ajc(a:Nat):af:=UQ UN a
abbrev ajd(a b c:Nat):SE:=aai a b ng c
abbrev y7(a:Nat)(b c:af):af:=.nt (UP a) b c
abbrev nu:SE:=.var 13
abbrev wG(a:SE):af:=.ret (.rw a)
abbrev H0(a:SE):SE:=.As aY a
abbrev aje(a:Nat):SE:=H0 (.var a)
abbrev pQ(a b c d:Nat):af:=Bt a b (wB c d)
abbrev y8(a b:SE)(c d:Int)(e:af):af:=sW a b (iD c d) e
abbrev nw(a b:Nat)(c:SE):af:=Bt a b (oH c)
abbrev oK:SE:=EV 3
abbrev oL:SE:=wE 2
abbrev ajf(a b:Nat)(c:SE)(d:Nat)(e f:af):af:=pP a bI b c d e f
abbrev lC(a b c:Nat)(d e:af):af:=ajf a b aY c d e
abbrev s8:SE:=iA 3
abbrev qY:SE:=wE 15
abbrev y9(a:af):af:=.aG bI a
abbrev ajg(a b c d:Nat)(e:af):af:=jJ a b (kV c d) e
abbrev EW(a:Nat):SE:=ai_ a 0
abbrev kI:SE:=fF 8
abbrev pR:SE:=EV 4
abbrev gB(a:Nat):SE:=UM a 1
abbrev pS:af:=ajc 0
abbrev MA(a b:SE):SE:=nj a bz b
abbrev oM(a b:Nat)(c:FuncId)(d e f g:Nat)(h:af):af:=kY a b c (fy d e f g) h
abbrev ajh(a:BinOp)(b:TypeId)(c d:Nat)(e f:af):af:=JE a b c d bz e f
abbrev Bw(a:TypeId)(b:SE)(c:af)(d:TypeId)(e:SE)(f g:af):af:=wC a b c (wC d e f g)
abbrev pT(a:SE):SE:=.ok (.rw a)
abbrev uS(a b:Nat):af:=.next a (ou b)
abbrev aji(a b:SE):af:=UL (MA a b)
abbrev qZ:SE:=gQ 1
abbrev q0:SE:=kH 2
abbrev q3:SE:=aje 1
abbrev q4(a:Nat):SE:=qN a 2
abbrev uT(a:BinOp)(b:SE):SE:=ES a b 1
abbrev ajj(a b:Nat):SE:=ajd a 15 b
abbrev q5(a:SE)(b:Int):SE:=ES .leq a b
abbrev q6(a b c d:Nat)(e:SE)(f:af):af:=vR a b c (sZ d e) f
abbrev ajk(a:FuncId)(b c d:Nat)(e:af):af:=abW a 0 b c d e
abbrev q7(a:FuncId)(b c:Nat)(d:af):af:=ajk a b 1 c d
abbrev abY:SE:=DN 6
abbrev pU:SE:=DO 0
abbrev H2(a b c:Nat):SE:=.qL a (zS b c)
abbrev pV:SE:=.var 6
abbrev wH:af:=qu (-1)
abbrev MB(a b:SE):SE:=yY a bz b
abbrev ajl(a:SE):SE:=MB abY a
abbrev ajm:SE:=ajl pe
abbrev s9:SE:=.var 11
abbrev s_:SE:=.var 14
abbrev y_:af:=.ret s6
abbrev ta(a:FuncId)(b:SE)(c d:Nat)(e:af):af:=iC a b (qW c d e)
abbrev uU(a:SE)(b:FuncId)(c d:SE)(e:af):af:=.aG a (uQ b c d e)
abbrev ny(a:SE)(b:Nat)(c:SE)(d:Nat)(e:SE)(f:Nat)(g:af):af:=fz a b c d e f g ja
abbrev ajn(a:Nat):SE:=wF 0 a
abbrev mh:SE:=ajn 0
abbrev mj(a:Nat):SE:=ajj 4 a
abbrev q8:SE:=.var 5
abbrev q9:SE:=.var 4
abbrev uV(a b:Nat)(c:SE)(d:af):af:=vP a (q4 b) c d
abbrev q_:SE:=fF 10
abbrev ra:SE:=fF 11
abbrev re:SE:=jz 8
abbrev tb(a:FuncId)(b c:Nat)(d:SE):af:=q7 a b c (.nr d)
abbrev uW(a:af):af:=HZ bI a
abbrev US(a:SE):SE:=kC uR a
abbrev Bx:SE:=US kE
abbrev wI:SE:=kH 15
abbrev uX(a:SE):SE:=uT .sub a
abbrev pW(a b:Nat)(c:Int)(d e:af):af:=jq .eql a b c d e
abbrev By(a b c:Nat):SE:=JD 4 a b c
abbrev H3(a b:Nat):SE:=By a 14 b
abbrev uY:SE:=.var 16
abbrev H4:SE:=.i (-1)
abbrev UT(a b:SE):SE:=yY a b ajm
abbrev ajo(a b c:SE):af:=aji (UT a b) c
abbrev rf(a b c d e f:Nat):SE:=aaj a b c d (qv e f)
abbrev uZ:SE:=gQ 2
abbrev u5(a:SE)(b:Nat)(c d e:SE)(f:af):af:=yZ a (.Bl b c d e) f
abbrev u6:SE:=wE 4
abbrev tc(a:Nat):af:=vQ a kX
abbrev te(a:FuncId)(b:SE)(c:af):af:=ow a (oH b) c
abbrev tf:SE:=.var 3
abbrev th:SE:=cW 1
abbrev ti:SE:=JF 4
abbrev Bz:af:=.ret UN
abbrev pX(a b:SE)(c:TypeId)(d:Nat)(e:SE)(f:Nat)(g:SE)(h:Nat)(i j:af):af:=zT (My a) b c d e f g h i j
abbrev rh(a:BinOp)(b:Int)(c:SE):SE:=zU a (.i b) c
abbrev ajp(a b:SE):af:=ajo oA a b
abbrev abZ(a:SE):af:=ajp oA a
abbrev wJ(a:Int):af:=abZ (.i a)
abbrev ri(a:Nat):SE:=H3 15 a
abbrev za(a:SE):af:=.ret (.rws a)
abbrev wK:SE:=EV 2
abbrev wL:SE:=q4 0
abbrev wM:SE:=gA 2
abbrev u7(a b c:Nat):SE:=.tr a (qv b c)
abbrev ajq(a:FuncId)(b:SE)(c d:Nat)(e:SE)(f:af):af:=kU a (abX b c d e) f
abbrev u9:af:=qu 1
abbrev kJ(a:BinOp)(b c:Nat)(d e:af):af:=ajh a 3 b c d e
abbrev zb(a:Nat)(b:SE)(c:af):af:=eI a (.bind b c)
abbrev ajr(a:TypeId)(b:Nat)(c:SE):SE:=HX .add a b c
abbrev u_(a:Nat)(b:SE)(c:Nat)(d:SE)(e:Nat)(f:af)(g:Nat)(h:af):af:=pP a b c d e f (nf g h)
abbrev va(a:Nat)(b:FuncId)(c d:SE)(e:af):af:=eI a (fV b c d e)
abbrev rj(a b:SE)(c d:af):af:=oz a .neq b c d
abbrev lD(a:Nat)(b:af):af:=jy 4 a b
abbrev tj(a b:af):af:=.o8 a 1 b
abbrev ab0(a:BinOp)(b:TypeId)(c d:Nat)(e f:af):af:=JE a b c d UR e f
abbrev EX:af:=wG kX
abbrev tl:SE:=.i 20
abbrev ajs(a:SE):SE:=oH (oH a)
abbrev ajt(a:SE)(b c:Nat)(d:SE):SE:=abX (ajs a) b c d
abbrev rl(a b c:SE)(d:af)(e f:Nat):af:=wD a .eql b c d e f
abbrev zd:SE:=.tp .an
abbrev zf:SE:=.var 15
abbrev zg:af:=EU 0
abbrev EY(a:af):af:=kB (y9 a)
abbrev MC(a:BinOp)(b:SE):SE:=zU a b bz
abbrev wN(a:Nat)(b c:SE)(d:af):af:=UO 1 a b c d
abbrev BA:SE:=kH 16
abbrev tq(a:TypeId)(b c:Nat)(d e:af):af:=ab0 .eql a b c d e
abbrev wO(a:BinOp)(b:TypeId)(c:SE)(d:Int):SE:=KQ a b c (mb d)
abbrev BB(a b:Nat):SE:=Bu (oI a) b
abbrev wP:af:=qu 2
abbrev wQ(a:Nat):SE:=UM a 0
abbrev BC(a:Nat):af:=.nr (wQ a)
abbrev aju(a:Nat)(b:SE)(c d:Int)(e:af):af:=y8 (EW a) b c d e
abbrev zh(a b:Nat)(c d:Int)(e:af):af:=aju a (EW b) c d e
abbrev oN(a:Nat):SE:=qN a 3
abbrev mq(a b:Nat):SE:=nc 1 a b
abbrev ab1(a b:Nat)(c:BinOp)(d:TypeId)(e f:SE)(g:af)(h i:Nat):af:=y6 (kV a b) c d e f g h i
abbrev ajv(a b c d e f g:Nat):SE:=aja a b c d e 4 f g
abbrev jN(a b c d e f:Nat):SE:=ajv a b c d e f 5
abbrev UU(a:Nat)(b:SE):SE:=ajr 3 a b
abbrev rm(a:SE)(b:BinOp)(c:SE)(d:Int)(e:af):af:=mE a b c d e aQ
abbrev wR(a:FuncId)(b:SE)(c d:Nat)(e:SE)(f:af):af:=ow a (ajt b c d e) f
abbrev tv(a b c d:Nat):af:=lP a b aQ c d
abbrev ajw(a b c:SE):SE:=np a UR b c
abbrev ajx(a b:SE):SE:=ajw a b gx
abbrev ajy(a:SE):SE:=ajx bz a
abbrev zi:SE:=ajy oA
abbrev BD(a:af)(b:Nat)(c d:af):af:=tj a (y7 b c d)
abbrev BE(a b c:Nat)(d:af):af:=.aG (H2 a b c) d
abbrev EZ(a:SE):SE:=UU 2 a
abbrev E3:SE:=EZ s8
abbrev zj:SE:=jz 2
abbrev vb(a:FuncId)(b c:Nat)(d:SE)(e:af):af:=ajq a aY b c d e
abbrev ab2(a:Nat):SE:=zS 3 a
abbrev BF:SE:=ab2 1
abbrev E4:SE:=mb 95
abbrev vc(a:SE)(b:af):af:=.nt a b aQ
abbrev BG(a:SE):SE:=MC .eql a
abbrev H5:af:=.ret eh
abbrev ajz(a b c:Nat)(d:af):af:=ajg a 0 b c d
abbrev MD(a b:Nat)(c:af):af:=ajz a b 1 c
abbrev zk(a b:SE)(c:Nat):SE:=yY a b (ou c)
abbrev ve(a:Nat)(b:FuncId)(c:SE)(d:af):af:=kY 2 a b c d
abbrev zl(a:Nat)(b:FuncId)(c d:Nat)(e:af):af:=ve a b (wF c d) e
abbrev UW(a:SE)(b:Int):af:=vS a (.i b)
abbrev E5(a:Int):af:=UW H4 a
abbrev tx(a:Nat)(b:af):af:=MD 2 a b
abbrev BH(a:TypeId)(b c:SE)(d:af):af:=.bind (.has a b c) d
abbrev BI:SE:=cW 6
abbrev rp(a:Nat):SE:=kV 4 a
abbrev BJ:SE:=.var 7
abbrev kK(a:BinOp)(b c:SE)(d e:af):af:=xW a 3 b c d e
abbrev vf(a b:Nat)(c:BinOp)(d:TypeId)(e:Nat)(f:SE)(g:af)(h i:Nat):af:=ab1 a b c d (cW e) f g h i
abbrev ajA(a:BinOp)(b:TypeId)(c:Int)(d e:af):af:=uP a b (mb c) d e
abbrev BK(a:BinOp)(b:TypeId)(c d:Int)(e:af):af:=ajA a b c (EU d) e
abbrev BL(a:Nat):af:=gb 0 a
abbrev BM:SE:=iA 4
abbrev H6:af:=.fail 146
abbrev BN:SE:=.i 200
abbrev zm(a:Nat)(b:SE)(c:af):af:=wN a bz b c
abbrev zn(a b c:Nat):SE:=aai a b nq c
abbrev wS(a b:Nat)(c:af):af:=pd a aY b c
abbrev E6:SE:=.var 17
abbrev E7:SE:=ab2 0
abbrev E8:SE:=qX 3
abbrev E9:SE:=.var 12
abbrev E_:af:=BL 1
abbrev Fb:SE:=gA 5
abbrev Fc:SE:=oN 4
end Go.Ev
