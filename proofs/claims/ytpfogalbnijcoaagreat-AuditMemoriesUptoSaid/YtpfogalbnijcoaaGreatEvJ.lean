/- Lemmas over the model, without conditions of their own: code run on expressions, definitions. -/
import Derived.Test.YtpfogalbnijcoaaGreatEvI
open Nat renaming beq->asc,ble->as5,blt->as7,rec->avm,eq_of_beq_eq_true->asb,add_mul->asE,le_refl->ar8,le_trans->asq
open List renaming replicate->asr,range->atD,getElem?_append_left->asd,getElem?_eq_some_iff->ar3,getElem?_eq_getElem->ar2,flatMap_cons->auv
open Go.Utf8 renaming decode->atS
open Option renaming bind_eq_some_iff->aso
open Option.some renaming injEq->ar6
open Prod.mk renaming injEq->asu
open Option renaming some->aa,none->ah
open Bool renaming true->ab,false->af
set_option linter.all false
namespace Go.Ev
inductive SE where
 |var (i:Nat)
 |i (n:Int)
 |k (k:IntKind) (n:Int)
 |b (t:Bool)
 |s (l:List UInt8)
 |raw (v:Value)
 |ok (e:SE)
 |sx (n:Nat) (e:SE)
 |bS (e:SE) (j:Nat)
 |idx (s:Nat) (e i:SE)
 |Ea (s:Nat) (e i:SE) (j:Nat)
 |len (e:SE)
 |rW (e:SE)
 |an
 |ac (a r:SE)
 |tr (s:Nat) (r:SE)
 |tp (r:SE)
 |cat (s bytes:Nat) (e f:SE)
 |Eb (s:Nat) (e i x:SE)
 |sub (s:Nat) (e lo hi:SE)
 |OV (s:Nat) (e lo z:SE)
 |proj (e:SE) (j:Nat)
 |bin (op:BinOp) (t:TypeId) (a b:SE)
 |un (op:UnOp) (a:SE)
 |cv (src dst:TypeId) (a:SE)
 |mx (Ec:Bool) (a b:SE)
 |GF (e i:SE)
 |Hl (e lo hi:SE)
 |rw(e:SE)
 |rws (e:SE)
 |has (kt:TypeId) (m key:SE)
 |get (kt:TypeId) (m key z:SE)
 |ins (kt:TypeId) (m key x:SE)
 |dec (w:Nat) (a p:SE)
 deriving Inhabited
inductive ak where
 |fail (why:Nat)
 |ret (e:SE)
 |test (e:SE) (a b:ak)
 |two (e:SE) (a b:ak)
 |bind (e:SE) (k:ak)
 |bj (e:SE) (k:ak)
 |call (f:FuncId) (new:Bool) (args:SE) (k:ak)
 |loop (init:SE) (body:ak)
 |pick (es x:SE) (a b:ak)
 |same (es x:SE) (k:ak)
 |uniq (k:ak)
 |q8 (body:ak) (m:Nat) (cont:ak)
 |next (lv:Nat) (args:SE)
 |bad (d f id n0 nm:Nat) (hd:List (Nat×Nat×PV SE)) (hl:List (LO SE)) (g:List (Nat×Nat×PV SE)) (l:List (LO SE))
 deriving Inhabited
section eqs
def af3(a b:IntKind):Bool:=a==b
def lK{α:Type}(f:α->α->Bool):List α->List α->Bool
 |[],[]=>ab
 |a::as,b::bs=>f a b&&lK f as bs
 |_,_=>af
def SE.eq:SE->SE->Bool
 |.var x,.var y=>asc x y
 |.i x,.i y=>x==y
 |.k j x,.k j' y=>af3 j j'&&x==y
 |.b x,.b y=>x==y
 |.s x,.s y=>lK (·==·) x y
 |.ok x,.ok y=>x.eq y
 |.bS e j,.bS f j'=>asc j j'&&e.eq f
 |.idx q e x,.idx q' e' x'=>asc q q'&&e.eq e'&&x.eq x'
 |.Ea q e x j,.Ea q' e' x' j'=>asc q q'&&asc j j'&&e.eq e'&&x.eq x'
 |.len e,.len f=>e.eq f
 |.rW e,.rW f=>e.eq f
 |.an,.an=>ab
 |.ac a r,.ac a' r'=>a.eq a'&&r.eq r'
 |.tr q r,.tr q' r'=>asc q q'&&r.eq r'
 |.tp r,.tp r'=>r.eq r'
 |.proj e j,.proj f j'=>asc j j'&&e.eq f
 |.bin op t x y,.bin op' t' x' y'=>op==op'&&asc t t'&&x.eq x'&&y.eq y'
 |.un op x,.un op' x'=>op==op'&&x.eq x'
 |.cv q d x,.cv q' d' x'=>asc q q'&&asc d d'&&x.eq x'
 |.mx t x y,.mx t' x' y'=>t==t'&&x.eq x'&&y.eq y'
 |.rw x,.rw y=>x.eq y
 |.GF e x,.GF e' x'=>e.eq e'&&x.eq x'
 |.dec w e x,.dec w' e' x'=>asc w w'&&e.eq e'&&x.eq x'
 |_,_=>af
end eqs
structure SS where
 g:List (Nat×Nat×PV SE)
 l:List (LO SE)
 n:Nat
 lv:Nat
 nt:Nat
 deriving Inhabited
def SS.ln(V:SS):Nat×Nat:=(V.lv,V.nt)
structure Hint where
 d:Nat
 f:Nat
 id:Nat
 Iy:List (Nat×Nat×Nat)
 yh:List (Nat×Nat)
 drop:List (Nat×Nat)
 yj:List (Nat×Nat×Nat)
 deriving Inhabited
structure bg where
 pure:List Nat
 rm:List Nat
 stop:List Nat
 hints:List Hint
 rows:List Nat
section run
variable(P:Program)(cfg:bg)
def fieldAt(s:TypeId)(f:Nat):Option (Nat×Nat):=
 match P.underlying s with
 |some (.struct fields)=>match fields[f]? with
  |some fd=>match aN P fd.type with
   |some sz=>aa (fd.offset,sz)
   |none=>ah
  |none=>ah
 |_=>ah
def elemOf(t:TypeId):Option TypeId:=
 match P.underlying t with
 |some (.slice e)=>aa e
 |_=>ah
def sy:Nat->TypeId->List TypeId
 |0,_=>[]
 |n+1,t=>match P.underlying t with
  |some (.struct fields)=>fields.toList.flatMap λf=>sy n f.type
  |some (.array m e)=>(asr m (sy n e)).flatten
  |_=>[t]
def Fx(t:TypeId):Bool:=
 match P.underlying t with
 |some .bool|some (.int _)|some .string=>ab
 |_=>af
def yk(t:TypeId):Value->Cl SE
 |.bool b=>.v (.b b)
 |.int .i64 n=>.v (.i n)
 |.int k n=>.v (.k k n)
 |.string b=>.v (.s b.data.toList)
 |.slice ah 0 0=>match(elemOf P t).bind (aN P)with
  |some s=>if asc s 0 then .v (.raw (.slice ah 0 0))else .nl ab s
  |none=>.v (.raw (.slice ah 0 0))
 |.agg _|.tuple _=>.un
 |v=>.v (.raw v)
def VJ{α β γ:Type}(f:α->β->γ):List α->List β->List γ
 |a::as,b::bs=>f a b::VJ f as bs
 |_,_=>[]
def Kh(t:TypeId):Value->PV SE
 |.agg cs=>if asc (sy P 9 t).length cs.toList.length then .ag (VJ (yk P) (sy P 9 t) cs.toList)else .one .un
 |v=>.one (yk P t v)
def zeroCells(t:TypeId):List (Cl SE):=
 match cw P t with
 |some z=>if asc (sy P 9 t).length z.cells.toList.length then VJ (yk P) (sy P 9 t) z.cells.toList else z.cells.toList.map λ_=>.un
 |none=>[]
def isAgg(t:TypeId):Bool:=(qF P t)==aa ab
def bN(d:Nat)(V:SS)(t:TypeId):Operand->PV SE
 |.tmp x=>(cy d x V.g).getD (.one .un)
 |.const v=>Kh P t v
 |.func f=>.one (.fn f [])
 |.global _=>.one .un
def ey{α:Type}:PV α->List (Cl α)
 |.one c=>[c]
 |.ag cs=>cs
 |.tu _=>[.un]
def rX:List (Cl SE)->Bool
 |[]=>ab
 |.un::_=>af
 |_::cs=>rX cs
def SS.bO(V:SS)(d:Nat)(dst:Option Nat)(pv:PV SE):SS:=
 match dst with
 |none=>V
 |some t=>{V with g:=OM d t pv V.g}
def SS.jE(V:SS)(d:Nat)(dst:Option Nat):SS:=
 match dst with
 |none=>V
 |some t=>{V with g:=BI d t V.g}
def SS.sA(V:SS)(k:Nat):SS:={V with g:=Iv k V.g,l:=V.l.map (LO.drop k)}
def SS.setObj(V:SS)(k:Nat)(o:LO SE):SS:={V with l:=V.l.set k o}
def dT:List SE->SE
 |[]=>.an
 |a::as=>.ac a (dT as)
def px(k:Nat)(V:SS):SS:=
 match V.l[k]? with
 |some (.row s af cut fr es)=>V.setObj k (.row s ab cut fr es)
 |_=>V
def wD(V:SS):Cl SE->Option (Bool×SE×SS)
 |.v z=>aa (ab,z,V)
 |.w fr z=>aa (fr,z,V)
 |.nl _ s=>aa (af,.tr s .an,V)
 |.sr k=>match V.l[k]? with
  |some (.row _ _ _ fr es)=>aa (fr,es,px k V)
  |_=>ah
 |_=>ah
def tz(V:SS):List (Cl SE)->Option (Bool×List SE×SS)
 |[]=>aa (af,[],V)
 |c::cs=>match wD V c with
  |some (f1,z,V)=>match tz V cs with
   |some (f2,zs,V)=>aa (f1||f2,z::zs,V)
   |none=>ah
  |none=>ah
def tA(V:SS):PV SE->Option (Bool×SE×SS)
 |.one c=>wD V c
 |.ag cs=>match tz V cs with
  |some (f,zs,V)=>aa (f,dT zs,V)
  |none=>ah
 |.tu vs=>match OW V vs with
  |some (f,zs,V)=>aa (f,.tp (dT zs),V)
  |none=>ah
where OW (V:SS):List (Bool×List (Cl SE))->Option (Bool×List SE×SS)
 |[]=>aa (af,[],V)
 |(a,cs)::vs=>match tz V cs with
  |some (f1,zs,V)=>match OW V vs with
   |some (f2,ys,V)=>match a,zs with
    |true,zs=>aa (f1||f2,dT zs::ys,V)
    |false,[z]=>aa (f1||f2,z::ys,V)
    |_,_=>ah
   |none=>ah
  |none=>ah
def uE:List (Cl SE)->Bool
 |[]=>ab
 |.v _::cs=>uE cs
 |.nl _ _::cs=>uE cs
 |_::_=>af
def ov:PV SE->Bool
 |.one c=>uE [c]
 |.ag cs=>uE cs
 |.tu _=>af
def ofType(t:TypeId)(e:SE):PV SE:=
 if isAgg P t then .ag ((atD ((aN P t).getD 0)).map λj=>.v (.bS e j))else .one (.v (.ok e))
def rp(t:TypeId)(e:SE)(k:ak):ak:=if isAgg P t then .bj (.sx ((aN P t).getD 0) e) k else .bj (.ok e) k
def OX(e:SE):Nat->List TypeId->ak->ak
 |_,[],k=>k
 |j,t::ts,k=>rp P t (.proj e j) (OX e (j+1) ts k)
def vk(e:SE)(V:SS)(k:PV SE->SS->ak):ak:=.bj e (k (.one (.v e)) V)
def Ki(e:SE):Nat->List TypeId->List (Bool×List (Cl SE))
 |_,[]=>[]
 |j,t::ts=>(isAgg P t,ey (ofType P t (.proj e j)))::Ki e (j+1) ts
def ib(d:Nat)(V:SS):List Operand->List TypeId->List (PV SE)
 |x::xs,t::ts=>bN P d V t x::ib d V xs ts
 |x::xs,[]=>bN P d V 0 x::ib d V xs []
 |[],_=>[]
def OY(d:Nat)(V:SS):List Operand->Option (List (Nat×Nat))
 |[]=>aa []
 |x::xs=>match bN P d V 0 x with
  |.one (.pt k 0 ext)=>match OY d V xs with
   |some l=>aa ((k,ext)::l)
   |none=>ah
  |_=>ah
def AU(cells:List (Cl SE))(off:Nat)(new:List (Cl SE)):List (Cl SE):=cells.take off++new++cells.drop (off+new.length)
def nA(get:Nat->Operand->List (Cl SE))(place:Nat->Option (Nat×Nat)):List (Nat×Operand)->List (Cl SE)->Option (List (Cl SE))
 |[],cs=>aa cs
 |(j,x)::ps,cs=>match place j with
  |some (off,sz)=>
   let new:=get j x
   if rX new&&asc new.length sz&&as5 (off+sz) cs.length then nA get place ps (AU cs off new)else ah
  |none=>ah
def af4(fields:Array Field)(j:Nat):TypeId:=((fields[j]?).map (·.type)).getD 0
def ael(fields:Array Field)(j:Nat):Option (Nat×Nat):=(fields[j]?).bind λf=>(aN P f.type).map λs=>(f.offset,s)
def Tg(s j:Nat):Option (Nat×Nat):=aa (j*s,s)
def Iz:SE->Bool
 |.i _|.k _ _|.b _|.s _=>ab
 |_=>af
def rdT(V:SS)(c:Cl SE)(t:TypeId):Option (Bool×SE×SS×List SE):=
 match c with
 |.v z=>if Fx P t then aa (af,z,V,if Iz z then[]else[z])else aa (ab,z,V,[])
 |c=>match wD V c with
  |some (fr,z,V)=>aa (fr,z,V,[])
  |none=>ah
def Kj(V:SS):List (Cl SE)->List TypeId->Option (Bool×List SE×SS×List SE)
 |[],_=>aa (af,[],V,[])
 |c::cs,t::ts=>match rdT P V c t with
  |some (f1,z,V,r1)=>match Kj V cs ts with
   |some (f2,zs,V,r2)=>aa (f1||f2,z::zs,V,r1++r2)
   |none=>ah
  |none=>ah
 |_::_,[]=>ah
def yl(s:Nat):Nat->List SE->List SE
 |0,_=>[]
 |n+1,zs=>dT (zs.take s)::yl s n (zs.drop s)
def OZ(zero:List (Cl SE)):Nat->List (Cl SE)
 |0=>[]
 |n+1=>zero++OZ zero n
def X2(ts:List TypeId):Nat->List TypeId
 |0=>[]
 |n+1=>ts++X2 ts n
def VK:List SE->ak->ak
 |[],k=>k
 |e::es,k=>.bj (.rw e) (VK es k)
def newVar(V:SS)(e:SE)(k:SE->SS->ak):ak:=.bind e (k (.var V.n) {V with n:=V.n+1})
def newObj(V:SS)(o:LO SE)(k:Nat->SS->ak):ak:=k V.l.length {V with l:=V.l++[o]}
def VL(t:TypeId)(a:PV SE)(V:SS)(k:PV SE->SS->ak):ak:=
 let ag:=isAgg P t
 match aN P t,qF P t with
 |none,_=>.fail 1
 |_,ah=>.fail 1
 |some s,aa _=>
  let out (cs:List (Cl SE)):ak:=if ag then(if asc cs.length s then k (.ag cs) V else .fail 2)else match cs with
   |[c]=>k (.one c) V
   |_=>.fail 3
  match a with
  |.one (.pt j off ext)=>match V.l[j]? with
   |some (.var cs)=>if as5 s ext&&as5 (off+s) cs.length then out ((cs.drop off).take s)else .fail 4
   |_=>.fail 5
  |.one (.tp cs)=>if as5 s cs.length then out (((cs.map .v).drop 0).take s)else .fail 4
  |.one (.tw fr cs)=>if as5 s cs.length then out (((cs.map (.w fr)).drop 0).take s)else .fail 4
  |.one (.pr j i off ext)=>match V.l[j]? with
   |some (.row sz _ _ fr es)=>if as5 s ext then out ((((atD sz).map λq=>.w fr (.Ea sz es i q)).drop off).take s)else .fail 4
   |_=>.fail 6
  |_=>.fail 7
def AV(bytes:Nat)(s:Nat)(base:Cl SE)(fr:Bool)(es:SE)(V:SS)(k:PV SE->SS->ak):ak:=
 match base with
 |.nl _ s'=>if asc s s' then newVar V (.cat s bytes (.tr s .an) es) λz V=>newObj V (.row s af af fr z) λj V=>k (.one (.sr j)) V else .fail 10
 |.sr j=>match V.l[j]? with
  |some (.row s' st cut c7 aF)=>
   if asc s s'&& !(st&&cut)then newVar V (.cat s bytes aF es) λz V=>k (.one (.sr j)) (((V.sA j)).setObj j (.row s st cut (fr||c7) z))else .fail 11
  |_=>.fail 12
 |_=>.fail 13
def ajp(j:Nat):Cl SE->Bool
 |.sr j'=> !asc j j'
 |_=>ab
def p8(V:SS)(et:TypeId)(s:Nat)(base:Cl SE):Cl SE->Option (Bool×SE×Bool)
 |.sr j=>match V.l[j]? with
  |some (.row s' _ _ fr es)=>if asc s s'&&ajp j base then aa (fr,es,af)else ah
  |_=>ah
 |.nl _ _=>aa (af,.tr s .an,af)
 |.w fr z=>aa (fr,z,af)
 |.v z=>if(sy P 9 et).all (Fx P)then aa (af,z,ab)else aa (ab,z,af)
 |_=>ah
def Ny(o:Option (LO SE))(s:Nat)(cut fr:Bool)(es:SE):Bool:=
 match o with
 |some (.row s' af uF c7 aF)=>asc s s'&&cut==uF&&fr==c7&&es.eq aF
 |_=>af
def Fy(t:TypeId):Option SE:=
 match cw P t with
 |some (.bool b)=>aa (.b b)
 |some (.int q n)=>aa (.k q n)
 |some (.string b)=>aa (.s b.data.toList)
 |_=>ah
def FA:List (Cl SE)->Option (List SE)
 |[]=>aa []
 |.v e::ds=>match FA ds with
  |some es=>aa (e::es)
  |none=>ah
 |_::_=>ah
def vT:List (Cl SE)->Option (List SE)
 |[]=>aa []
 |c::ds=>match c with
  |.v e|.w _ e=>(vT ds).map (e::·)
  |.nl _ s=>(vT ds).map (.tr s .an::·)
  |_=>ah
def Hm:PV SE->Option SE
 |.one (.v e)=>aa e
 |.one (.w _ e)=>aa e
 |.ag cs=>(vT cs).map dT
 |_=>ah
def Kk(kt:TypeId)(m key x:PV SE)(V:SS)(k:PV SE->SS->ak):ak:=
 match m,Hm key,Hm x with
 |.one (.mp j),aa ke,aa xe=>match V.l[j]? with
  |some (.mp lJ es)=>if asc kt lJ&& !gB kt then newVar V (.ins kt es ke xe) λz V=>k (.one .un) (V.setObj j (.mp kt z))else .fail 63
  |_=>.fail 64
 |_,_,_=>.fail 65
def Th(kt et:TypeId)(m key:PV SE)(ok:Bool)(V:SS)(k:PV SE->SS->ak):ak:=
 match m,Hm key,Fy P et with
 |.one (.mp j),aa ke,aa z0=>match V.l[j]? with
  |some (.mp lJ es)=>if asc kt lJ&& !gB kt then newVar V (.ok (.rw (.get kt es ke z0))) λr V=>
    if ok then newVar V (.has kt es ke) λh V=>k (.tu [(af,[.v r]),(af,[.v h])]) V else k (.one (.v r)) V
   else .fail 67
  |_=>.fail 68
 |_,_,_=>.fail 69
def Nz(t:TypeId):Bool:=
 match cw P t with
 |some (.agg cs)=>cs.toList.isEmpty
 |_=>af
def Kl(kt et:TypeId)(m key:PV SE)(ok:Bool)(V:SS)(k:PV SE->SS->ak):ak:=
 match m,Hm key,(match cw P et with|some (.agg _)=>vT (zeroCells P et)|_=>ah),aN P et with
 |.one (.mp j),aa ke,aa zs,aa n=>match V.l[j]? with
  |some (.mp lJ es)=>if asc kt lJ&& !gB kt then newVar V (.sx n (.get kt es ke (dT zs))) λr V=>
    let cs:List (Cl SE):=(atD n).map λj=>.w ab (.bS r j)
    if ok then newVar V (.has kt es ke) λh V=>k (.tu [(ab,cs),(af,[.v h])]) V else k (.ag cs) V
   else .fail 67
  |_=>.fail 68
 |_,_,_,_=>.fail 70
def Km(kt:TypeId)(m key:PV SE)(V:SS)(k:PV SE->SS->ak):ak:=
 match m,Hm key with
 |.one (.mp j),aa ke=>match V.l[j]? with
  |some (.mp lJ es)=>if asc kt lJ&& !gB kt then .bj (.sx 0 (.get kt es ke .an)) (newVar V (.has kt es ke) λh V=>k (.tu [(ab,[]),(af,[.v h])]) V)else .fail 67
  |_=>.fail 68
 |_,_=>.fail 69
def Hn(d:Nat)(V:SS)(VM:SE):Option Operand->Option SE
 |none=>aa VM
 |some o=>match bN P d V 3 o with
  |.one (.v e)=>aa e
  |_=>ah
def stood(V:SS):Cl SE->Bool
 |.sr j=>match V.l[j]? with
  |some (.row _ st _ _ _)=>st
  |_=>af
 |_=>af
def Kn(d:Nat)(t:TypeId)(x:PV SE)(lo hi mx:Option Operand)(V:SS)(k:PV SE->SS->ak):ak:=
 match P.underlying t,x,mx with
 |some (.slice el),.one c,ah=>match aN P el with
  |some s=>match c,lo,hi,stood V c with
   |.sr j,aa l,ah,af=>match V.l[j]?,bN P d V 3 l with
    |some (.row s' af cut fr es),.one (.v e)=>if asc s s' then .bj (.sub s es e (.len es)) (k (.one (.sv j e)) V)else .fail 24
    |_,_=>.fail 25
   |c,lo,hi,_=>match(match c with|.v _|.nl _ _|.sr _=>wD V c|_=>ah)with
    |some (fr,z,V2)=>match Hn P d V (.i 0) lo,Hn P d V (.len z) hi with
     |some l,aa h=>newVar V2 (.sub s z l h) λy V=>k (.one (.w fr y)) V
     |_,_=>.fail 26
    |none=>.fail 27
  |none=>.fail 28
 |_,_,_=>.fail 29
def X3(c:Call)(da:List (PV SE))(V:SS)(k:PV SE->SS->ak):ak:=
 match(c.argTypes[0]?).bind P.underlying,da with
 |some (.slice et),[.one (.sv j lo)]=>match V.l[j]?,cw P et with
  |some (.row s af cut fr es),aa z=>
   if asc z.cells.size s&&(isAgg P et||asc s 1)&&rX (zeroCells P et)&&asc (zeroCells P et).length s then
    match tz V (zeroCells P et)with
    |some (f,zs,V2)=>if Ny V2.l[j]? s cut fr es then newVar V2 (.OV s es lo (if isAgg P et then dT zs else zs.headD .an)) λz V=>k (.one .un) (V.setObj j (.row s af cut (fr||f) z))else .fail 103
    |none=>.fail 103
   else .fail 104
  |_,_=>.fail 105
 |_,_=>.fail 106
def uG:PV SE->Option SE
 |.one (.v e)=>aa e
 |.one (.w _ e)=>aa e
 |_=>ah
def mxS(Ec:Bool)(da:List (PV SE))(V:SS)(k:PV SE->SS->ak):ak:=
 match da with
 |[a,b]=>match uG a,uG b with
  |some a,aa b=>vk (.ok (.rw (.mx Ec a b))) V k
  |_,_=>.fail 75
 |_=>.fail 76
def isStr(t:TypeId):Bool:=match P.underlying t with
 |some .string=>ab
 |_=>af
def Ho(d:Nat)(x:PV SE)(lo hi mx:Option Operand)(V:SS)(k:PV SE->SS->ak):ak:=
 match uG x,mx with
 |some a,ah=>match Hn P d V (.i 0) lo,Hn P d V (.rW a) hi with
  |some l,aa h=>newVar V (.Hl a l h) λz V=>k (.one (.v z)) V
  |_,_=>.fail 20
 |_,_=>.fail 21
def VN(d:Nat)(t:TypeId)(l c:Operand)(V:SS)(k:PV SE->SS->ak):ak:=
 match P.underlying t,bN P d V 0 l,uG (bN P d V 0 c)with
 |some (.slice el),.one (.v (.i 0)),aa ce=>match aN P el,cw P el,(P.info? el).map (·.bytes)with
  |some s,aa z,aa bytes=>if !asc s 0&&asc z.cells.size s&&as5 bytes 1000000&&(z.cells.toList.map IV.raw).all Ev.aj then
    .bj (.dec 7 ce (.b ab)) (newObj V (.row s af af af (.tr s .an)) λj V=>k (.one (.sr j)) V)else .fail 202
  |_,_,_=>.fail 202
 |_,_,_=>.fail 202
def VO(t:TypeId)(e:SE):Bool×List (Cl SE):=
 if isAgg P t then(ab,(atD ((aN P t).getD 0)).map λj=>.w ab (.bS e j))else if Fx P t then(af,[.v (.ok (.rw e))])else(af,[.w ab (.ok e)])
def IA(t:TypeId)(e:SE)(k:ak):ak:=
 if isAgg P t then .bj (.sx ((aN P t).getD 0) e) k else if Fx P t then .bj (.ok (.rw e)) k else .bj (.ok e) k
def X4(d:Nat)(it:Operand)(V:SS)(k:PV SE->SS->ak):ak:=
 match bN P d V 0 it with
 |.one (.mp j)=>match V.l[j]? with
  |some (.mp kt x)=>if as5 1000000 kt then(match V.l[kt % 1000000]?,P.underlying (kt/1000000- 1)with
   |some (.mp lL es),aa (.map _ et)=>if gB lL then .fail 191 else .same es x (IA P lL (.proj (.proj x 2) 0) (IA P et (.proj (.proj x 2) 1) (k (.tu [VO P lL (.proj (.proj x 2) 0),VO P et (.proj (.proj x 2) 1)]) V)))
   |_,_=>.fail 191)else .fail 191
  |_=>.fail 191
 |_=>.fail 191
def O0(d:Nat)(t:TypeId)(x:PV SE)(lo hi mx:Option Operand)(V:SS)(k:PV SE->SS->ak):Option ak:=
 match P.underlying t,x,lo,hi,mx with
 |some (.slice el),.one c,ah,aa h,ah=>match bN P d V 3 h,aN P el,c with
  |.one (.v (.i 0)),aa s,.nl ab s'=>if asc s s' then aa (k (.one (.nl ab s)) V)else ah
  |.one (.v (.i 0)),aa s,.sr j=>match V.l[j]? with
   |some (.row s' af _ fr es)=>if asc s s' then aa (.bj (.idx s es (.i 0)) (k (.one (.sr j)) ((V.sA j).setObj j (.row s af ab fr (.tr s .an)))))else ah
   |_=>ah
  |_,_,_=>ah
 |_,_,_,_,_=>ah
def f_(d:Nat)(o:Oper)(V:SS)(k:PV SE->SS->ak):ak:=
 match o.op with
 |.makeFunc (.func f) first cap=>if first.toList.isEmpty then match OY P d V cap.toList with
   |some bs=>k (.one (.fn f bs)) V
   |none=>.fail 60
  else .fail 61
 |.makeMap t r=>match r,P.underlying t with
  |none,aa (.map kt _)=>if gB kt then .fail 76 else newObj V (.mp kt (.tp .an)) λj V=>k (.one (.mp j)) V
  |_,_=>.fail 62
 |.makeSlice t l c=>VN P d t l c V k
 |.mapUpdate t m key x|.insert t m key x=>match P.underlying t with
  |some (.map kt et)=>Kk kt (bN P d V t m) (bN P d V kt key) (bN P d V et x) V k
  |_=>.fail 66
 |.lookup t m key ok=>match P.underlying t with
  |some (.map kt et)=>if ok&&Nz P et then Km kt (bN P d V t m) (bN P d V kt key) V k else if isAgg P et then Kl P kt et (bN P d V t m) (bN P d V kt key) ok V k else Th P kt et (bN P d V t m) (bN P d V kt key) ok V k
  |_=>.fail 70
 |.range t x=>match P.underlying t,uG (bN P d V t x)with
  |some .string,aa a=>.bj (.rW a) (newObj V (.mp 0 (.tp (.ac a (.ac (.i 0) .an)))) λj V=>k (.one (.mp j)) V)
  |some (.map _ _),_=>match bN P d V t x with
   |.one (.mp m)=>match V.l[m]? with
    |some (.mp kt es)=>if gB kt|| !as7 m 1000000 then .fail 77 else .bj (.dec 9 es (.b ab)) (newObj V (.mp ((t+1)*1000000+m) (.tp (.ac es (.ac es .an)))) λj V=>k (.one (.mp j)) V)
    |_=>.fail 77
   |_=>.fail 77
  |_,_=>.fail 77
 |.next it ab=>match bN P d V 0 it with
  |.one (.mp j)=>match V.l[j]? with
   |some (.mp kt es)=>if asc kt 0 then .test (.dec 0 (.proj es 0) (.proj es 1))
     (newVar V (.tp (.ac (.proj es 0) (.ac (.dec 2 (.proj es 0) (.proj es 1)) .an))) λz V=>k (.tu [(af,[.v (.b ab)]),(af,[.v (.proj es 1)]),(af,[.v (.dec 1 (.proj es 0) (.proj es 1))])]) (V.setObj j (.mp 0 z)))
     (k (.tu [(af,[.v (.b af)])]) V)else .fail 78
   |_=>.fail 79
  |_=>.fail 79
 |.entry it=>X4 P d it V k
 |.index t x ix=>match P.underlying t,uG (bN P d V t x),uG (bN P d V 0 ix)with
  |some .string,aa a,aa b=>vk (.GF a b) V k
  |_,_,_=>.fail 74
 |.slice t x lo hi mx=>match O0 P d t (bN P d V t x) lo hi mx V k with
  |some f=>f
  |none=>if isStr P t then Ho P d (bN P d V t x) lo hi mx V k else Kn P d t (bN P d V t x) lo hi mx V k
 |.call c=>match c.callee with
  |.builtin .clear=>X3 P c (ib P d V c.args.toList c.argTypes.toList) V k
  |.builtin .cap=>match ib P d V c.args.toList c.argTypes.toList,(c.argTypes[0]?).bind P.underlying with
   |[.one (.nl ab _)],aa (.slice _)=>k (.one (.v (.i 0))) V
   |_,_=>.fail 207
  |.builtin .max=>mxS ab (ib P d V c.args.toList c.argTypes.toList) V k
  |.builtin .min=>mxS af (ib P d V c.args.toList c.argTypes.toList) V k
  |_=>.fail 201
 |_=>.fail 200
def VP(et t1:TypeId)(base x:Cl SE)(V:SS)(k:PV SE->SS->ak):ak:=
 match P.underlying t1,base,x with
 |some (.int _),.nl ab s,.v n=>match aN P et,cw P et,Fy P et,(P.info? et).map (·.bytes)with
  |some s',aa z,aa ze,aa bytes=>if asc s 1&&asc s' 1&&as5 bytes 1000000&&asc z.cells.size 1&&(z.cells.toList.map IV.raw).all Ev.aj then
    newVar V (.dec 8 n ze) λe V=>newObj V (.row 1 af af af e) λj V=>k (.one (.sr j)) V else .fail 208
  |_,_,_,_=>.fail 208
 |_,_,_=>.fail 208
def fI(d:Nat)(o:Oper)(V:SS)(k:PV SE->SS->ak):ak:=
 let get (t:TypeId) (x:Operand):PV SE:=bN P d V t x
 match o.op with
 |.move x|.assign x=>k (get o.type x) V
 |.pick c a b=>match get 0 c with
  |.one (.v (.b ab))=>k (get o.type a) V
  |.one (.v (.b af))=>k (get o.type b) V
  |_=>.fail 40
 |.alloc t=>let cs:=zeroCells P t;if(cw P t).isNone then .fail 38 else newObj V (.var cs) λj V=>k (.one (.pt j 0 cs.length)) V
 |.box t x=>let cs:=ey (get t x);if !rX cs then .fail 39 else newObj V (.var cs) λj V=>k (.one (.pt j 0 cs.length)) V
 |.load t a=>VL P t (get 0 a) V k
 |.store t a x=>match get 0 a with
  |.one (.pt j off ext)=>match V.l[j]? with
   |some (.var cs)=>
    let new:=ey (get t x)
    if rX new&&as5 new.length ext&&as5 (off+new.length) cs.length&&(aN P t)==aa new.length then k (.one .un) (V.setObj j (.var (AU cs off new)))else .fail 41
   |_=>.fail 42
  |.one (.pr j i off ext)=>match V.l[j]? with
   |some (.row s af cut fr es)=>
    let new:=ey (get t x)
    if asc off 0&&asc new.length s&&asc s ext&&aN P t==aa s&&rX new&&(isAgg P t||asc s 1)then
     match tz V new with
     |some (f,zs,V2)=>if Ny V2.l[j]? s cut fr es then newVar V2 (.Eb s es i (if isAgg P t then dT zs else zs.headD .an)) λz V=>k (.one .un) (V.setObj j (.row s af cut (fr||f) z))else .fail 43
     |none=>.fail 43
    else .fail 44
   |_=>.fail 45
  |_=>.fail 46
 |.nilCheck x=>match get 0 x with
  |.one (.pt a b c)=>k (.one (.pt a b c)) V
  |.one (.fn _ _)=>.fail 47
  |.one (.tp a)=>k (.one (.tp a)) V
  |_=>.fail 47
 |.binOp op t x y _=>match get t x,get t y with
  |.ag cs,.ag ds=>match tz V cs,tz V ds with
   |some (_,a,_),aa (_,b,_)=>vk (.ok (.bin op t (dT a) (dT b))) V k
   |_,_=>.fail 48
  |.one (.v a),.one (.v b)=>vk (.ok (.bin op t a b)) V k
  |.one (.w _ a),.one (.v b)=>vk (.ok (.bin op t a b)) V k
  |.one (.v a),.one (.w _ b)=>vk (.ok (.bin op t a b)) V k
  |.one (.w _ a),.one (.w _ b)=>vk (.ok (.bin op t a b)) V k
  |_,_=>.fail 50
 |.unOp op _ x=>match get 0 x with
  |.one (.v (.b t))=>match op with
   |.not=>k (.one (.v (.b (!t)))) V
   |_=>.fail 51
  |.one (.v a)=>vk (.ok (.un op a)) V k
  |.one (.w _ a)=>vk (.ok (.un op a)) V k
  |_=>.fail 52
 |.convert src dst x=>match get src x with
  |.one (.v a)=>vk (.ok (.cv src dst a)) V k
  |.one (.w _ a)=>vk (.ok (.cv src dst a)) V k
  |_=>.fail 53
 |.build t parts=>match P.underlying t with
  |some (.struct fields)=>
   if !(fields.all λf=>(aN P f.type).isSome)||(cw P t).isNone then .fail 53 else
   match nA (λj x=>ey (bN P d V (af4 fields j) x)) (ael P fields) parts.toList (zeroCells P t)with
   |some cs=>k (.ag cs) V
   |none=>.fail 54
  |some (.array _ et)=>match aN P et with
   |some s=>if(cw P t).isNone then .fail 53 else
    match nA (λ_ x=>ey (bN P d V et x)) (Tg s) parts.toList (zeroCells P t)with
    |some cs=>k (.ag cs) V
    |none=>.fail 55
   |none=>.fail 56
  |_=>.fail 56
 |.buildSlice t len parts=>match elemOf P t with
  |some et=>match aN P et,cw P et with
   |some s,aa z=>if asc s 0|| !asc z.cells.size s|| !as5 (len*s) 1048576 then .fail 58 else
    if asc len 0 then(if parts.toList.isEmpty then k (.one (.nl af s)) V else .fail 58)else
    match nA (λ_ x=>ey (bN P d V et x)) (Tg s) parts.toList (OZ (zeroCells P et) len)with
    |some cs=>match Kj P V cs (X2 (sy P 9 et) len)with
     |some (fr,zs,V,rws)=>if !(isAgg P et||asc s 1)then .fail 57 else
      VK (if fr then[]else rws) (newObj V (.row s af af fr (.tr s (dT (if isAgg P et then yl s len zs else zs)))) λj V=>k (.one (.sr j)) V)
     |none=>.fail 57
    |none=>.fail 57
   |_,_=>.fail 58
  |none=>.fail 59
 |.fieldAddr s x f=>match fieldAt P s f with
  |some (fo,sz)=>if asc sz 0 then .fail 71 else match get 0 x with
   |.one (.pt j off ext)=>if as5 (fo+sz) ext then k (.one (.pt j (off+fo) sz)) V else .fail 72
   |.one (.tp cs)=>if as5 (fo+sz) cs.length then k (.one (.tp ((cs.drop fo).take sz))) V else .fail 73
   |.one (.tw fr cs)=>if as5 (fo+sz) cs.length then k (.one (.tw fr ((cs.drop fo).take sz))) V else .fail 73
   |.one (.pr j i off ext)=>if as5 (fo+sz) ext then k (.one (.pr j i (off+fo) sz)) V else .fail 74
   |_=>.fail 75
  |none=>.fail 76
 |.field t x f=>match get t x,fieldAt P t f with
  |.ag cs,aa (fo,sz)=>match P.underlying t with
   |some (.struct fields)=>
    if as5 (fo+sz) cs.length&&(qF P ((fields[f]?).map (·.type)|>.getD 0)).isSome then
     if isAgg P ((fields[f]?).map (·.type)|>.getD 0)then(if asc ((cs.drop fo).take sz).length sz then k (.ag ((cs.drop fo).take sz)) V else .fail 77)else match(cs.drop fo).take sz with
     |[c]=>k (.one c) V
     |_=>.fail 78
    else .fail 79
   |_=>.fail 79
  |_,_=>.fail 80
 |.indexAddr t x ix=>match P.underlying t,get 3 ix with
  |some (.slice et),.one (.v i)=>match aN P et with
   |some s=>match get t x with
    |.one (.v z)=>newVar V (.idx s z i) λe V=>rp P et e (k (.one (.tp (if isAgg P et then(atD s).map (λj=>.bS e j)else[.ok e]))) V)
    |.one (.w fr z)=>newVar V (.idx s z i) λe V=>rp P et e (k (.one (.tw fr (if isAgg P et then(atD s).map (λj=>.bS e j)else[.ok e]))) V)
    |.one (.sr j)=>match V.l[j]? with
     |some (.row s' _ _ _ es)=>if asc s s' then .bj (.idx s es i) (k (.one (.pr j i 0 s)) V)else .fail 81
     |_=>.fail 82
    |_=>.fail 83
   |none=>.fail 84
  |some (.array n et),.one (.v (.i i))=>match aN P et,get t x with
   |some s,.one (.pt j off ext)=>if !asc s 0&&decide (0<=i)&&as7 i.toNat n&&as5 (i.toNat*s+s) ext then k (.one (.pt j (off+i.toNat*s) s)) V else .fail 85
   |some s,.one (.tp cs)=>.fail 86
   |_,_=>.fail 87
  |_,_=>.fail 88
 |.extract x i=>match get 0 x with
  |.tu vs=>match vs[i]? with
   |some (ab,cs)=>k (.ag cs) V
   |some (af,[c])=>k (.one c) V
   |_=>.fail 93
  |_=>.fail 94
 |.call c=>match c.callee with
  |.builtin b=>match b,ib P d V c.args.toList c.argTypes.toList with
   |.len,[pv]=>match(c.argTypes[0]?).bind P.underlying with
    |some .string=>match pv with
     |.one (.v z)=>vk (.rW z) V k
     |.one (.w _ z)=>vk (.rW z) V k
     |_=>.fail 96
    |some (.slice _)=>match pv with
     |.one (.v z)=>vk (.len z) V k
     |.one (.w _ z)=>vk (.len z) V k
     |.one (.nl _ _)=>k (.one (.v (.i 0))) V
     |.one (.sr j)=>match V.l[j]? with
      |some (.row _ _ _ _ es)=>vk (.len es) V k
      |_=>.fail 95
     |_=>.fail 96
    |some (.map _ _)=>match pv with
     |.one (.mp j)=>match V.l[j]? with
      |some (.mp kt es)=>if gB kt then .fail 95 else vk (.dec 9 es (.b ab)) V k
      |_=>.fail 95
     |_=>.fail 96
    |_=>.fail 96
   |.append,[.one base,.one x]=>match c.argTypes[0]?,c.argTypes[1]? with
    |some t0,aa t1=>match elemOf P t0,elemOf P t1 with
     |some et,aa _=>match aN P et,cw P et,(P.info? et).map (·.bytes)with
      |some s,aa z,aa bytes=>if asc s 0|| !asc z.cells.size s then .fail 97 else
       match p8 P V et s base x with
       |some (fr,es,raw)=>if raw then .bj (.rws es) (AV bytes s base fr es V k)else AV bytes s base fr es V k
       |none=>.fail 98
      |_,_,_=>.fail 101
     |some et,ah=>VP P et t1 base x V k
     |_,_=>.fail 102
    |_,_=>.fail 102
   |.len,_=>.fail 105
   |.append,_=>.fail 105
   |_,_=>f_ P d o V k
  |_=>.fail 106
 |_=>f_ P d o V k
inductive zw where
 |normal
 |exit (id:Nat)
 |ret
 |bY (t:TypeId) (pv:PV SE)
abbrev Kx:=TypeId->PV SE->SS->ak
inductive Want where
 |run|skip|test (t:Nat) (e:SE) (want:Bool)|fail
def tB(ops:Array Oper)(d:Nat)(V:SS)(o:Oper):Want:=
 match o.guard with
 |none=>.run
 |some (j,want)=>match(ops[j]?).bind (·.dst)with
  |some t=>if !as7 t V.nt then .fail else match cy d t V.g with
   |some (.one (.v (.b x)))=>if x==want then .run else .skip
   |some (.one (.v e))=>.test t e want
   |some (.one (.w _ e))=>.test t e want
   |_=>.fail
  |none=>.fail
def AW(l:List (Nat×Nat×Nat))(d t j:Nat):Bool:=l.any λ(a,b,c)=>asc a d&&asc b t&&asc c j
def ow(l:List (Nat×Nat))(a b:Nat):Bool:=l.any λ(c,d)=>asc a c&&asc b d
def af5(ch:Bool)(mode:Nat)(c:Cl SE)(n:Nat)(init:List SE):Cl SE×Nat×List SE:=
 match mode,c with
 |1,.v z=>(.v (.var n),n+1,z::init)
 |1,.nl _ s=>(.v (.var n),n+1,.tr s .an::init)
 |2,.v z=>(.w ab (.var n),n+1,z::init)
 |2,.w _ z=>(.w ab (.var n),n+1,z::init)
 |2,.nl _ s=>(.w ab (.var n),n+1,.tr s .an::init)
 |_,c=>
  if ch then match c with
   |.v z=>(.v (.var n),n+1,z::init)
   |.w fr z=>(.w fr (.var n),n+1,z::init)
   |c=>(c,n,init)
  else(c,n,init)
def NA(ch:Nat->Bool):Nat->List (Cl SE)->Nat->List SE->List (Cl SE)×Nat×List SE
 |_,[],n,init=>([],n,init)
 |j,c::cs,n,init=>
  let(c,n,init):=af5 (ch j) 0 c n init
  let(cs,n,init):=NA ch (j+1) cs n init
  (c::cs,n,init)
def X5(h:Hint)(d t:Nat):Nat:=if AW h.yj d t 2 then 2 else if AW h.yj d t 1 then 1 else 0
def acL(ch:Nat->Bool):Nat->List (Bool×List (Cl SE))->Nat->List SE->List (Bool×List (Cl SE))×Nat×List SE
 |_,[],n,init=>([],n,init)
 |j,(a,cs)::vs,n,init=>
  let(cs,n,init):=NA ch j cs n init
  let(vs,n,init):=acL ch (j+cs.length) vs n init
  ((a,cs)::vs,n,init)
def Ko(h:Hint):List (Nat×Nat×PV SE)->Nat->List SE->List (Nat×Nat×PV SE)×Nat×List SE
 |[],n,init=>([],n,init)
 |(d,t,pv)::g,n,init=>
  if ow h.drop d t then Ko h g n init else
  match pv with
  |.one c=>
   let(c,n,init):=af5 (AW h.Iy d t 0) (X5 h d t) c n init
   let(g,n,init):=Ko h g n init
   ((d,t,.one c)::g,n,init)
  |.ag cs=>
   let(cs,n,init):=NA (AW h.Iy d t) 0 cs n init
   let(g,n,init):=Ko h g n init
   ((d,t,.ag cs)::g,n,init)
  |.tu vs=>
   let(vs,n,init):=acL (AW h.Iy d t) 0 vs n init
   let(g,n,init):=Ko h g n init
   ((d,t,.tu vs)::g,n,init)
def xA(d t:Nat)(V:SS):SS:=
 match cy d t V.g with
 |some (.one (.sr k))=>match V.l[k]? with
  |some (.row _ _ _ fr es)=>(px k V).bO d (aa t) (.one (.w fr es))
  |_=>V
 |_=>V
def settle:List (Nat×Nat×Nat)->SS->SS
 |[],V=>V
 |(d,t,m)::ws,V=>settle ws (if asc m 2 then xA d t V else V)
def aaX(h:Hint):Nat->List (LO SE)->Nat->List SE->List (LO SE)×Nat×List SE
 |_,[],n,init=>([],n,init)
 |k,o::l,n,init=>
  let(o,n,init):=(match o with
   |.var cs=>
    let(cs,n,init):=NA (ow h.yh k) 0 cs n init
    (LO.var cs,n,init)
   |.row s st cut fr es=>if ow h.yh k 0 then(.row s (st||ow h.yh k 1) (cut||ow h.yh k 2) (fr||ow h.yh k 3) (.var n),n+1,es::init)else(.row s (st||ow h.yh k 1) (cut||ow h.yh k 2) (fr||ow h.yh k 3) es,n,init)
   |.mp kt es=>if ow h.yh k 0 then(.mp kt (.var n),n+1,es::init)else(.mp kt es,n,init)
   |.dead=>(.dead,n,init):LO SE×Nat×List SE)
  let(l,n,init):=aaX h (k+1) l n init
  (o::l,n,init)
def AX(d t j:Nat)(V:SS):SS:=
 match cy d t V.g with
 |some (.one (.nl _ s))=>if asc j 0 then{V with l:=V.l++[.row s af af af (.tr s .an)],g:=OM d t (.one (.sr V.l.length)) V.g}else V
 |some (.ag cs)=>match cs[j]? with
  |some (.nl _ s)=>{V with l:=V.l++[.row s af af af (.tr s .an)],g:=OM d t (.ag (cs.set j (.sr V.l.length))) V.g}
  |_=>V
 |_=>V
def AY(k j:Nat)(V:SS):SS:=
 match V.l[k]? with
 |some (.var cs)=>match cs[j]? with
  |some (.nl _ s)=>{V with l:=V.l.set k (.var (cs.set j (.sr V.l.length)))++[.row s af af af (.tr s .an)]}
  |_=>V
 |_=>V
def uH(h:Hint):List (Nat×Nat×Nat)->SS->SS
 |[],V=>V
 |(d,t,j)::l,V=>uH h l (if asc (X5 h d t) 0 then AX d t j V else V)
def uI:List (Nat×Nat)->SS->SS
 |[],V=>V
 |(k,j)::l,V=>uI l (AY k j V)
def uJ(h:Hint)(V:SS):SS:=uI h.yh.reverse (uH h h.Iy.reverse V)
def tC:Cl SE->List Nat
 |.pt k _ _|.sr k|.sv k _|.pr k _ _ _|.mp k=>[k]
 |.fn _ bs=>bs.map (·.1)
 |_=>[]
def O1:PV SE->List Nat
 |.one c=>tC c
 |.ag cs=>cs.flatMap tC
 |.tu vs=>vs.flatMap λp=>p.2.flatMap tC
def reach(l:List (LO SE)):Nat->List Nat->List Nat->List Nat
 |0,_,seen=>seen
 |_,[],seen=>seen
 |n+1,k::ks,seen=>if seen.any (asc k)then reach l n ks seen else
  match l[k]? with
  |some (.var cs)=>reach l n (cs.flatMap tC++ks) (k::seen)
  |some (.mp kt _)=>reach l n (if as5 1000000 kt then(kt % 1000000)::ks else ks) (k::seen)
  |_=>reach l n ks (k::seen)
def marks(seen:List Nat):Nat->List (LO SE)->List (LO SE)
 |_,[]=>[]
 |k,o::os=>(if seen.any (asc k)then o else .dead)::marks seen (k+1) os
def gcS(V:SS):SS:={V with l:=marks (reach V.l 2000 (V.g.flatMap λp=>O1 p.2.2) []) 0 V.l}
def SE.wE(n:Nat):SE->Bool
 |.var x=>as7 x n
 |.i _|.k _ _|.b _|.s _|.raw _|.an=>ab
 |.ok e|.sx _ e|.bS e _|.len e|.rW e|.tr _ e|.tp e|.proj e _|.un _ e|.cv _ _ e|.rw e|.rws e=>e.wE n
 |.idx _ e f|.Ea _ e f _|.ac e f|.cat _ _ e f|.bin _ _ e f|.mx _ e f|.GF e f|.has _ e f|.dec _ e f=>e.wE n&&f.wE n
 |.Eb _ e f g|.sub _ e f g|.OV _ e f g|.Hl e f g|.ins _ e f g=>e.wE n&&f.wE n&&g.wE n
 |.get _ e f g=>e.wE n&&f.wE n&&g.wE n
structure Mt where
 args:List (Nat×SE)
 dU:List (Nat×Nat)
def rY{α:Type}(l:List (Nat×α))(k:Nat):Option α:=
 match l with
 |[]=>ah
 |(a,b)::l=>if asc a k then aa b else rY l k
def zx(n nm:Nat)(h e:SE)(m:Mt):Option Mt:=
 match h with
 |.var i=>if as7 i n then(if h.eq e then aa m else ah)else if as5 nm i then ah else(match rY m.args i with
  |some e'=>if e'.eq e then aa m else ah
  |none=>aa {m with args:=(i,e)::m.args})
 |h=>if h.wE n&&h.eq e then aa m else ah
def O2(h e:Nat)(m:Mt):Option Mt:=
 match rY m.dU h with
 |some e'=>if asc e e' then aa m else ah
 |none=>if m.dU.any (λp=>asc p.2 e)then ah else aa {m with dU:=(h,e)::m.dU}
def O3(n nm:Nat):List SE->List SE->Mt->Option Mt
 |[],[],m=>aa m
 |a::as,b::bs,m=>match zx n nm a b m with
  |some m=>O3 n nm as bs m
  |none=>ah
 |_,_,_=>ah
def af6:List (Nat×Nat)->List (Nat×Nat)->Mt->Option Mt
 |[],[],m=>aa m
 |(a,x)::as,(b,y)::bs,m=>if asc x y then(match O2 a b m with
  |some m=>af6 as bs m
  |none=>ah)else ah
 |_,_,_=>ah
def af7(n nm:Nat)(h e:Cl SE)(m:Mt):Option Mt:=
 match h,e with
 |.un,_=>aa m
 |.v a,.v b=>zx n nm a b m
 |.w f a,.w f' b=>if f|| !f' then zx n nm a b m else ah
 |.w f a,.v b=>if f then zx n nm a b m else ah
 |.v a,.nl _ s=>zx n nm a (.tr s .an) m
 |.w _ a,.nl _ s=>zx n nm a (.tr s .an) m
 |.nl a s,.nl b s'=>if a==b&&asc s s' then aa m else ah
 |.pt k o x,.pt k' o' x'=>if asc o o'&&asc x x' then O2 k k' m else ah
 |.tp a,.tp b=>O3 n nm a b m
 |.tw f a,.tw f' b=>if f|| !f' then O3 n nm a b m else ah
 |.sr k,.sr k'=>O2 k k' m
 |.mp k,.mp k'=>O2 k k' m
 |.fn f a,.fn f' b=>if asc f f' then af6 a b m else ah
 |_,_=>ah
def NB(n nm:Nat):List (Cl SE)->List (Cl SE)->Mt->Option Mt
 |[],[],m=>aa m
 |a::as,b::bs,m=>match af7 n nm a b m with
  |some m=>NB n nm as bs m
  |none=>ah
 |_,_,_=>ah
def acM(n nm:Nat):List (Bool×List (Cl SE))->List (Bool×List (Cl SE))->Mt->Option Mt
 |[],[],m=>aa m
 |(x,a)::as,(y,b)::bs,m=>if x==y then(match NB n nm a b m with
  |some m=>acM n nm as bs m
  |none=>ah)else ah
 |_,_,_=>ah
def ajq(n nm:Nat)(h e:PV SE)(m:Mt):Option Mt:=
 match h,e with
 |.one a,.one b=>af7 n nm a b m
 |.ag as,.ag bs=>NB n nm as bs m
 |.tu as,.tu bs=>acM n nm as bs m
 |_,_=>ah
def af8(n nm:Nat)(g:List (Nat×Nat×PV SE)):List (Nat×Nat×PV SE)->Mt->Option Mt
 |[],m=>aa m
 |(d,t,pv)::h,m=>match cy d t g with
  |some C_=>match ajq n nm pv C_ m with
   |some m=>af8 n nm g h m
   |none=>ah
  |none=>ah
def anB(n nm:Nat)(h e:LO SE)(m:Mt):Option Mt:=
 match h,e with
 |.var cs,.var ds=>NB n nm cs ds m
 |.row s st cut fr es,.row s' lG uF c7 aF=>if asc s s'&&st==lG&&(cut|| !uF)&&(fr|| !c7)then zx n nm es aF m else ah
 |.mp kt es,.mp lJ aF=>if asc kt lJ then zx n nm es aF m else ah
 |.dead,_=>aa m
 |_,_=>ah
def aaY(n nm:Nat)(l:List (LO SE)):Nat->List (LO SE)->Mt->Option Mt
 |_,[],m=>aa m
 |k,o::os,m=>
  match o with
  |.dead=>aaY n nm l (k+1) os m
  |o=>match O2 k ((rY m.dU k).getD k) m with
  |some m=>match l[(rY m.dU k).getD k]? with
   |some o'=>match anB n nm o o' m with
    |some m=>aaY n nm l (k+1) os m
    |none=>ah
   |none=>ah
  |none=>ah
def O4(n:Nat)(m:Mt):Nat->List SE->Option (List SE)
 |0,acc=>aa acc
 |j+1,acc=>match rY m.args (n+j)with
  |some e=>O4 n m j (e::acc)
  |none=>ah
def isLive(l:List (LO SE))(k:Nat):Bool:=
 match l[k]? with
 |some .dead|none=>af
 |_=>ab
def af9(l:List (LO SE))(k:Nat):Bool:=
 match l[k]? with
 |some (.mp _ _)=>ab
 |_=>af
def Hp(H:SS):Bool:=
 (H.g.all λp=>(O1 p.2.2).all (isLive H.l))&&H.l.all λ|.var cs=>(cs.flatMap tC).all (isLive H.l)|.mp kt _=>as7 kt 1000000||af9 H.l (kt % 1000000)|_=>ab
def uZ(n:Nat)(args:List SE)(h e:SE):Bool:=
 match h with
 |.var x=>if as7 x n then h.eq e else(match args[x- n]? with
  |some a=>a.eq e
  |none=>af)
 |h=>h.wE n&&h.eq e
def Ed(dU:List (Nat×Nat))(h e:Nat):Bool:=
 match rY dU h with
 |some e'=>asc e e'
 |none=>af
def qK(n:Nat)(args:List SE)(dU:List (Nat×Nat))(h e:Cl SE):Bool:=
 match h,e with
 |.un,_=>ab
 |.v a,.v b=>uZ n args a b
 |.w f a,.w f' b=>(f|| !f')&&uZ n args a b
 |.w f a,.v b=>f&&uZ n args a b
 |.v a,.nl _ s=>uZ n args a (.tr s .an)
 |.w _ a,.nl _ s=>uZ n args a (.tr s .an)
 |.nl a s,.nl b s'=>a==b&&asc s s'
 |.pt k o x,.pt k' o' x'=>asc o o'&&asc x x'&&Ed dU k k'
 |.tp a,.tp b=>lK (uZ n args) a b
 |.sr k,.sr k'=>Ed dU k k'
 |.mp k,.mp k'=>Ed dU k k'
 |.fn f a,.fn f' b=>asc f f'&&lK (λ(p q:Nat×Nat)=>asc p.2 q.2&&Ed dU p.1 q.1) a b
 |_,_=>af
def IB(n:Nat)(args:List SE)(dU:List (Nat×Nat))(h e:PV SE):Bool:=
 match h,e with
 |.one a,.one b=>qK n args dU a b
 |.ag as,.ag bs=>lK (qK n args dU) as bs
 |.tu as,.tu bs=>lK (λ(p q:Bool×List (Cl SE))=>p.1==q.1&&lK (qK n args dU) p.2 q.2) as bs
 |_,_=>af
def af_(n:Nat)(args:List SE)(dU:List (Nat×Nat))(g:List (Nat×Nat×PV SE))(h:List (Nat×Nat×PV SE)):Bool:=
 h.all λ(d,t,pv)=>match cy d t g with
  |some C_=>IB n args dU pv C_
  |none=>af
def Am(n:Nat)(args:List SE)(dU:List (Nat×Nat))(h e:LO SE):Bool:=
 match h,e with
 |.var cs,.var ds=>lK (qK n args dU) cs ds
 |.row s st cut fr es,.row s' lG uF c7 aF=>asc s s'&&st==lG&&(cut|| !uF)&&(fr|| !c7)&&uZ n args es aF
 |.mp kt es,.mp lJ aF=>asc kt lJ&&uZ n args es aF&&(as7 kt 1000000||Ed dU (kt % 1000000) (kt % 1000000))
 |_,_=>af
def O5(n:Nat)(args:List SE)(dU:List (Nat×Nat))(l:List (LO SE)):Nat->List (LO SE)->Bool
 |_,[]=>ab
 |k,o::os=>(match o with
  |.dead=>ab
  |o=>match rY dU k with
   |some k'=>match l[k']? with
    |some o'=>Am n args dU o o'
    |none=>af
   |none=>af)&&O5 n args dU l (k+1) os
def aaZ(dU:List (Nat×Nat)):Bool:=dU.all λp=>dU.all λq=> !asc p.2 q.2||asc p.1 q.1
def inst(n m:Nat)(H V:SS):Option (List SE×List (Nat×Nat)):=
 if !Hp H then ah else match af8 n (n+m) V.g H.g ⟨[],[]⟩with
 |some mt=>match aaY n (n+m) V.l 0 H.l mt with
  |some mt=>match O4 n mt m []with
   |some args=>if af_ n args mt.dU V.g H.g&&O5 n args mt.dU V.l 0 H.l&&aaZ mt.dU&&asc args.length m then aa (args,mt.dU)else ah
   |none=>ah
  |none=>ah
 |none=>ah
def AZ:Code->Nat
 |.region id _ _=>id
 |.seq a _=>AZ a
 |.block _ a=>AZ a
 |.loop a=>AZ a
 |.scope a=>AZ a
 |_=>0
abbrev nB:=Nat->Nat->Code->SS->(zw->SS->ak)->ak
section step
variable(self:nB)(kx:Kx)
def setArgs(d:Nat):Nat->List (PV SE)->List (Nat×Nat×PV SE)
 |_,[]=>[]
 |j,pv::da=>(d,j,pv)::setArgs d (j+1) da
def jF(d:Nat):List (Nat×Nat×PV SE)->List (Nat×Nat×PV SE)
 |[]=>[]
 |(d',t,pv)::g=>if asc d' d=ab then jF d g else(d',t,pv)::jF d g
def O6(t:TypeId)(pa:PV SE)(V:SS):Option (PV SE):=
 match aN P t,qF P t,pa with
 |some s,aa _,.one (.pt j off ext)=>match V.l[j]? with
  |some (.var cs)=>if as5 s ext&&as5 (off+s) cs.length then(if isAgg P t then aa (.ag ((cs.drop off).take s))else match(cs.drop off).take s with
   |[c]=>aa (.one c)
   |_=>ah)else ah
  |_=>ah
 |_,_,_=>ah
def lx(d:Nat)(V:SS):List ResultVar->Option (List (PV SE))
 |[]=>aa []
 |.tmp t::rs=>match lx d V rs with
  |some da=>aa ((cy d t V.g).getD (.one .un)::da)
  |none=>ah
 |.cell a t::rs=>match cy d a V.g with
  |some pa=>match O6 P t pa V,lx d V rs with
   |some pv,aa da=>aa (pv::da)
   |_,_=>ah
  |none=>ah
def Ee(da:List (PV SE)):PV SE:=
 match da with
 |[]=>.one .un
 |[pv]=>pv
 |da=>.tu (da.map λpv=>match pv with
  |.one c=>(af,[c])
  |.ag cs=>(ab,cs)
  |.tu _=>(af,[.un]))
def sB(d f:Nat)(dst:Option Nat)(g:FuncId)(args:List (PV SE))(V:SS)(k:PV SE->SS->ak):ak:=
 match P.funcs[g]? with
 |some fn=>match fn.body with
  |some body=>
   if cfg.stop.any (asc g)then .fail 119 else if as5 args.length fn.ntmps&&fn.name != "runtime.NumGoroutine" then
    self (d+1) (f*1000+dst.getD 999+1) body {V with g:=setArgs (d+1) 0 args++jF (d+1) V.g,nt:=fn.ntmps} λex W=>match ex with
     |.exit _=>.fail 111
     |.bY t pv=>kx t pv {W with g:=jF (d+1) W.g,nt:=V.nt}
     |_=>match lx P (d+1) W fn.results.toList with
      |some da=>k (Ee da) {W with g:=jF (d+1) W.g,nt:=V.nt}
      |none=>.fail 110
   else .fail 112
  |none=>.fail 113
 |none=>.fail 114
def py:ak->Option (SS×SS)
 |.test _ a b|.two _ a b=>match py a with
  |some x=>aa x
  |none=>py b
 |.bind _ k|.bj _ k|.call _ _ _ k|.loop _ k|.uniq k|.same _ _ k=>py k
 |.pick _ _ a b=>match py a with
  |some x=>aa x
  |none=>py b
 |.q8 a _ b=>match py a with
  |some x=>aa x
  |none=>py b
 |.bad 999999 n lv _ _ hg hl g l=>aa (⟨hg,hl,n,lv,0⟩,⟨g,l,n,lv,0⟩)
 |_=>ah
def guardOf(g:FuncId):Option TypeId:=(cfg.rows.find? λn=>as5 1000000 n&&asc (n % 1000000) g).map λn=>n/1000000- 1
def FB(g:FuncId)(bs:List (Nat×Nat))(args:List (PV SE)):Option (TypeId×FuncId×List (Nat×Nat)):=
 match bs,args with
 |[],[.one (.fn c uw)]=>(guardOf cfg g).map λt=>(t,c,uw)
 |_,_=>ah
def Ef(d:Nat)(V:SS):Option Nat:=
 match cy d 2 V.g with
 |some (.one (.pt j 0 1))=>match V.l[j]? with
  |some (.var [.v (.i z)])=>if z==0 then aa j else ah
  |_=>ah
 |_=>ah
def IC(d f:Nat)(dst:Option Nat)(g:FuncId)(t:TypeId)(c:FuncId)(uw:List (Nat×Nat))(V:SS)(k:PV SE->SS->ak):ak:=
 .call (3*P.funcs.size+g) ab (dT [.i t])<|
  sB P cfg self (λt' pv W=>match pv,Ef (d+1) W with
   |.ag [.v e],aa j=>if asc t' t then .bj (.rw e) (k (.one (.v e)) {W with g:=jF (d+1) W.g,nt:=V.nt,l:=((W.l++[LO.dead]).set W.l.length LO.dead).set j (.var [.v e])})else .fail 171
   |_,_=>.fail 172) (d+1) (f*1000+dst.getD 999+1) ah c (uw.map λ(k,ext)=>.one (.pt k 0 ext))
   {V with n:=V.n+1,l:=V.l++[.var [.v (.i 0)]],g:=(d+1,2,.one (.pt V.l.length 0 1))::jF (d+1) V.g,nt:=3} λ_ W=>match Ef (d+1) W with
    |some j=>k (.one (.v (.i 0))) {W with g:=jF (d+1) W.g,nt:=V.nt,l:=W.l.set j (.var [.v (.i 0)])}
    |none=>.fail 173
def FC(d f:Nat)(dst:Option Nat)(g:FuncId)(args:List (PV SE))(V:SS)(k:PV SE->SS->ak):ak:=
 match FB cfg g [] args with
 |some (t,c,uw)=>match P.funcs[g]? with
  |some fn=>if fn.body.isSome&&fn.name != "runtime.NumGoroutine" then IC P cfg self d f dst g t c uw V k else .fail 18
  |none=>.fail 18
 |none=>sB P cfg self kx d f dst g args V k
def FD(d f:Nat)(dst:Option Nat)(g:FuncId)(args:List (PV SE))(V:SS)(k:SS->ak):ak:=
 let V1:SS:={V with lv:=V.lv+1}
 match py (FC P cfg self (λ_ _ _=>.fail 0) d f dst g args V1 λpv W=>let W:=W.bO d dst pv;.bad 999999 W.n W.lv 0 0 W.g W.l W.g W.l)with
 |none=>.fail 150
 |some (V2,_)=>
  let h:=(cfg.hints.find? λh=>asc h.d d&&asc h.f f&&asc h.id (1000000+dst.getD 999)).getD ⟨d,f,1000000+dst.getD 999,[],[],[],[]⟩
  let Vg:=gcS (uJ h (settle h.yj V2))
  let(g',n,init):=Ko h Vg.g V.n []
  let(l',n,_):=aaX h 0 Vg.l n init
  let H:SS:=⟨g',l',V.n+(n- V.n),V.lv,V.nt⟩
  .q8 (FC P cfg self kx d f dst g args V1 λpv W=>
   let W:=uJ h (settle h.yj (W.bO d dst pv))
   match inst V.n (n- V.n) H W with
   |some (args,_)=>.next V.lv (dT args)
   |none=>.bad d f (1000000+dst.getD 999) V.n n H.g H.l W.g W.l) (n- V.n) (k H)
def tD(V:SS):List (PV SE)->Option (List SE×SS)
 |[]=>aa ([],V)
 |pv::da=>match tA V pv with
  |some (_,z,V)=>match tD V da with
   |some (zs,V)=>aa (z::zs,V)
   |none=>ah
  |none=>ah
def BK:List (PV SE)->Bool
 |[]=>ab
 |.tu _::_=>af
 |_::l=>BK l
def NC(fn:Func)(V:SS)(r:SE)(k:PV SE->SS->ak):ak:=
 match fn.resultTypes.toList with
 |[t]=>rp P t r (k (ofType P t r) V)
 |ts=>OX P r 0 ts (k (.tu (Ki P r 0 ts)) V)
def FE(g:FuncId)(zs:List SE)(j:Nat)(V:SS)(k:PV SE->SS->ak):ak:=
 match V.l[j]? with
 |some (.row s af af _ es)=>if as7 g P.funcs.size then .bj (.rws es) (.call (P.funcs.size+g) ab (dT (es::zs)) (k (.one (.sr j)) ((({V with n:=V.n+1}:SS).sA j).setObj j (.row s af af af (.var V.n)))))else .fail 13
 |_=>.fail 14
def sC:List (PV SE)->List (Nat×Nat)×List (PV SE)
 |.one (.pt k 0 ext)::r=>((k,ext)::(sC r).1,(sC r).2)
 |r=>([],r)
def ym(V:SS):List (Nat×Nat)->Option (List (List SE))
 |[]=>aa []
 |(k,n)::l=>match V.l[k]? with
  |some (.var ds)=>if asc ds.length n then(match FA ds,ym V l with
   |some es,aa r=>aa (es::r)
   |_,_=>ah)else ah
  |_=>ah
def distinct:List Nat->Bool
 |[]=>ab
 |k::l=> !(l.any (asc k))&&distinct l
def lz(y:SE):Nat->List (Nat×Nat)->List (LO SE)->List (LO SE)
 |_,[],L=>L
 |i,(k,n)::l,L=>lz y (i+1) l (L.set k (.var ((atD n).map λq=>.v (.bS (.proj y (i+1)) q))))
def aa0(g:FuncId)(l:List (Nat×Nat))(rest:List (PV SE))(V:SS)(k:PV SE->SS->ak):ak:=
 match tD V rest,ym V l,P.funcs[g]? with
 |some (zs,_),aa Eg,aa fn=>if !rest.all ov then .fail 161 else if !distinct (l.map (·.1))then .fail 162 else match fn.resultTypes.toList with
  |[t]=>.call (2*P.funcs.size+g) ab (.ac (dT (Eg.map dT)) (dT zs)) (rp P t (.proj (.var V.n) 0) (k (ofType P t (.proj (.var V.n) 0)) {V with n:=V.n+1,l:=lz (.var V.n) 0 l V.l}))
  |_=>.fail 163
 |_,_,_=>.fail 164
def aa1(g:FuncId)(args:List (PV SE))(V:SS)(k:PV SE->SS->ak):ak:=
 if !(sC args).1.isEmpty then aa0 P g (sC args).1 (sC args).2 V k else
 match args with
 |.one c::rest=>match tD V rest with
  |some (zs,_)=>if !rest.all ov then .fail 16 else match c with
   |.sr j=>FE P g zs j V k
   |.nl _ s=>newObj V (.row s af af af (.tr s .an)) λj V=>FE P g zs j V k
   |_=>.fail 17
  |none=>.fail 15
 |_=>.fail 15
def xB(g:FuncId):Bool:=as7 g 100000&&cfg.rows.any (asc (g+500000))
def A4:bg:={cfg with rows:=cfg.rows.filter λn=>as7 n 500000||as5 600000 n}
def aga(g:FuncId):Bool:=cfg.rows.any (asc (g+600000))
def cK(g:FuncId):Nat:=
 match P.funcs[g]? with
 |some fn=>match fn.resultTypes.toList with
  |[t]=>match P.underlying t with
   |some (.slice el)=>(aN P el).getD 0
   |_=>0
  |_=>0
 |none=>0
def O7(g:FuncId)(args:List (PV SE))(V:SS)(k:PV SE->SS->ak):ak:=
 match tD V args,P.funcs[g]? with
 |some (zs,V'),aa fn=>if BK args&&(fn.body.isSome&&fn.name != "runtime.NumGoroutine")then
   .call (4*P.funcs.size+g) ab (dT zs) (k (.one (.sr V'.l.length)) {V' with n:=V'.n+1,l:=V'.l++[.row (cK P g) af af af (.var V'.n)]})else .fail 181
 |_,_=>.fail 181
def aa2(g:FuncId):Option TypeId:=
 match P.funcs[g]? with
 |some fn=>match fn.resultTypes.toList with
  |[t]=>match P.underlying t with
   |some (.map kt _)=>if gB kt then ah else aa kt
   |_=>ah
  |_=>ah
 |none=>ah
def Kp(g:FuncId)(kt:TypeId)(args:List (PV SE))(V:SS)(k:PV SE->SS->ak):ak:=
 match tD V args,P.funcs[g]? with
 |some (zs,V'),aa fn=>if BK args&&(fn.body.isSome&&fn.name != "runtime.NumGoroutine")then
   .call (5*P.funcs.size+g) ab (dT zs) (k (.one (.mp V'.l.length)) {V' with n:=V'.n+1,l:=V'.l++[.mp kt (.var V'.n)]})else .fail 182
 |_,_=>.fail 182
def VQ(g:FuncId)(args:List (PV SE))(V:SS)(k:PV SE->SS->ak):ak:=
 match args with
 |.one (.mp j)::rest=>match V.l[j]?,tD V rest,P.funcs[g]? with
  |some (.mp kt es),aa (zs,V'),aa fn=>if BK rest&& !gB kt&&(fn.body.isSome&&fn.name != "runtime.NumGoroutine")then
    .call (6*P.funcs.size+g) ab (dT (es::zs)) (k (.one (.v (.var V'.n))) {V' with n:=V'.n+1})else .fail 183
  |_,_,_=>.fail 183
 |_=>.fail 183
def VS(d f0:Nat)(qx:Bool)(o:Oper)(c:Call)(V:SS)(k:PV SE->SS->ak):ak:=
 match c.callee with
 |.builtin _=>fI P d o V k
 |.value f=>match bN P d V 0 f with
  |.one (.fn g bs)=>
   let args:=ib P d V c.args.toList c.argTypes.toList
   match FB cfg g bs args with
   |some (t,cf,uw)=>match P.funcs[g]? with
    |some fn=>if !qx&&fn.body.isSome&&fn.name != "runtime.NumGoroutine" then IC P cfg self d f0 o.dst g t cf uw V k else .fail 18
    |none=>.fail 18
   |none=>
   if bs.isEmpty&&xB cfg g then(match aa2 P g with|some kt=>Kp P g kt args V k|none=>O7 P g args V k)
   else if bs.isEmpty&&aga cfg g then VQ P g args V k
   else if bs.isEmpty&&cfg.rows.any (asc g)then
    match P.funcs[g]? with
    |some fn=>if !qx&&fn.body.isSome&&fn.name != "runtime.NumGoroutine" then aa1 P g args V k else .fail 18
    |none=>.fail 18
   else if bs.isEmpty&&cfg.pure.any (asc g)then
    match tD V args,P.funcs[g]? with
    |some (zs,V'),aa fn=>if BK args&&fn.body.isSome&&fn.name != "runtime.NumGoroutine" then .call g (!args.all ov) (dT zs) (NC P fn {V' with n:=V'.n+1} (.var V'.n) k)else .fail 115
    |_,_=>.fail 115
   else if qx then .fail 116 else sB P cfg self kx d f0 o.dst g (args++bs.map λ(k,ext)=>.one (.pt k 0 ext)) V k
  |_=>.fail 117
 |.invoke .. =>.fail 118
def ID(d f0:Nat)(qx:Bool)(o:Oper)(V:SS)(k:PV SE->SS->ak):ak:=
 match o.op with
 |.call c=>VS P cfg self kx d f0 qx o c V k
 |_=>fI P d o V k
def VT(d:Nat)(o:Oper)(V:SS):Option (Bool×Cl SE):=
 match o.op with
 |.binOp op t x y _=>match P.underlying t,bN P d V t x,y with
  |some (.slice _),.one c,.const (.slice ah 0 0)=>match op with
   |.eql=>aa (ab,c)
   |.neq=>aa (af,c)
   |_=>ah
  |_,_,_=>ah
 |_=>ah
def agb(e:Bool)(c:Cl SE)(V:SS)(k:PV SE->SS->ak):ak:=
 match c with
 |.v z=>.two z (k (.one (.v (.b e))) V) (k (.one (.v (.b (!e)))) V)
 |.w _ z=>.two z (k (.one (.v (.b e))) V) (k (.one (.v (.b (!e)))) V)
 |.nl b _=>k (.one (.v (.b (if b then e else !e)))) V
 |.sr j=>match V.l[j]? with
  |some (.row _ _ _ _ es)=>.two es (k (.one (.v (.b e))) V) (k (.one (.v (.b (!e)))) V)
  |_=>.fail 31
 |_=>.fail 31
def ND:SE->Option IV
 |.i n=>aa (.int n)
 |.b t=>aa (.bool t)
 |_=>ah
def acN:IV->Option SE
 |.raw (.int .i64 n)=>aa (.i n)
 |.raw (.bool b)=>aa (.b b)
 |_=>ah
def O8(d:Nat)(V:SS)(o:Oper):Option (PV SE):=
 match o.op with
 |.binOp op t x y _=>match bN P d V t x,bN P d V t y with
  |.one (.v a),.one (.v b)=>match ND a,ND b with
   |some u,aa v=>((pf P op t x y u v).bind acN).map λe=>.one (.v e)
   |_,_=>ah
  |_,_=>ah
 |.index t x ix=>match P.underlying t,bN P d V t x,bN P d V 0 ix with
  |some (.array n el),.ag cs,.one (.v (.i z))=>match aN P el,qF P el with
   |some s,aa _=>if 0<=z/\z<n/\z.toNat*s+s<=cs.length then(if isAgg P el then aa (.ag ((cs.drop (z.toNat*s)).take s))else match(cs.drop (z.toNat*s)).take s with
    |[c]=>aa (.one c)
    |_=>ah)else ah
   |_,_=>ah
  |_,_,_=>ah
 |_=>ah
def acO:Bool:=cfg.hints.any λh=>asc h.d 999999
def anC:Bool:=cfg.hints.any λh=>asc h.d 999998
def VU(d:Nat)(V:SS)(o:Oper):Option (SE×Nat×Cl SE):=
 match o.op with
 |.call c=>match c.callee with
  |.builtin .append=>match ib P d V c.args.toList c.argTypes.toList with
   |[.one base,.one x]=>match c.argTypes[0]?,c.argTypes[1]? with
    |some t0,aa t1=>match elemOf P t0,elemOf P t1 with
     |some et,aa _=>match aN P et,cw P et,(P.info? et).map (·.bytes)with
      |some s,aa z,aa bytes=>if asc s 0|| !asc z.cells.size s|| !as5 bytes 1000000 then ah else
       match p8 P V et s base x,base with
       |some (_,es,_),.nl b w=>aa (es,s,.nl b w)
       |_,_=>ah
      |_,_,_=>ah
     |_,_=>ah
    |_,_=>ah
   |_=>ah
  |_=>ah
 |_=>ah
def IE(d:Nat)(V:SS)(o:Oper):Option (Nat×Nat×TypeId×SE×SE):=
 match o.op with
 |.next it af=>match bN P d V 0 it with
  |.one (.mp j)=>match V.l[j]? with
   |some (.mp kt x)=>if as5 1000000 kt then(match V.l[kt % 1000000]? with
    |some (.mp lL es)=>if gB lL then ah else aa (j,kt,lL,es,x)
    |_=>ah)else ah
   |_=>ah
  |_=>ah
 |_=>ah
def VW(j kt:Nat)(lL:TypeId)(es x:SE)(V:SS)(k:PV SE->SS->ak):ak:=
 match P.underlying (kt/1000000- 1)with
 |some (.map _ _)=>.pick es x (k (.tu [(af,[.v (.b af)])]) V)
   (k (.tu [(af,[.v (.b ab)]),(af,[.un]),(af,[.un])]) {V with n:=V.n+2,l:=V.l.set j (.mp kt (.var (V.n+1)))})
 |_=>.fail 190
def BL(d f0:Nat)(qx:Bool)(o:Oper)(V:SS)(k:PV SE->SS->ak):ak:=
 match(if qx then ah else IE P d V o)with
 |some (j,kt,lL,es,x)=>VW P j kt lL es x V k
 |none=>match(if qx then ah else VT P d o V)with
 |some (e,c)=>agb e c V k
 |none=>match(if !qx&&anC cfg then VU P d V o else ah)with
 |some (es,s,c)=>.bj (.sub s es (.len es) (.i 0)) (k (.one c) V)
 |none=>match(if !qx&&acO cfg then O8 P d V o else ah)with
  |some pv=>k pv V
  |none=>ID P cfg self kx d f0 qx o V k
def yn(d:Nat)(qx:Bool)(o:Oper)(V:SS):Option (FuncId×List (PV SE)):=
 if qx then ah else match o.op with
 |.call c=>match c.callee with
  |.value f=>match bN P d V 0 f with
   |.one (.fn g bs)=>if cfg.rm.any (asc g)&& !(bs.isEmpty&&cfg.pure.any (asc g))then aa (g,ib P d V c.args.toList c.argTypes.toList++bs.map λ(k,ext)=>.one (.pt k 0 ext))else ah
   |_=>ah
  |_=>ah
 |_=>ah
def tE(sk:List Nat):Option Nat->List Nat
 |some t=>sk.filter λx=> !asc x t
 |none=>sk
def FF(sk:List Nat):Option Nat->List Nat
 |some t=>t::tE sk (aa t)
 |none=>sk
def mK(sk:List Nat)(ops:Array Oper)(o:Oper):Bool:=
 match o.guard with
 |some (j,_)=>match(ops[j]?).bind (·.dst)with
  |some t=>wj sk t
  |none=>af
 |none=>af
def Hq(t:TypeId):Bool:=
 match P.underlying t with
 |some (.interface _)=>af
 |some _=>ab
 |none=>af
def VX(d:Nat)(V:SS)(o:Oper)(rest:List Oper):Option (TypeId×PV SE):=
 match o.op,rest with
 |.makeInterface t x,[p]=>match p.op,o.dst,o.guard,p.guard with
  |.panic (.tmp a),aa b,ah,ah=>if asc a b&&Hq P t then aa (t,bN P d V t x)else ah
  |_,_,_,_=>ah
 |_,_=>ah
def ic(d f0:Nat)(qx:Bool)(ops:Array Oper):List Nat->List Oper->SS->(SS->ak)->ak
 |_,[],V,k=>k V
 |sk,o::rest,V,k=>
  if !(match o.dst with|some t=>as7 t V.nt|none=>ab)then .fail 121 else
  match(if qx then ah else VX P d V o rest)with
  |some (t,pv)=>kx t pv (V.jE d o.dst)
  |none=>
  let run (V:SS):ak:=match yn P cfg d qx o V with
   |some (g,args)=>FD P cfg self kx d f0 o.dst g args V λV=>ic d f0 qx ops (tE sk o.dst) rest V k
   |none=>BL P cfg self kx d f0 qx o V λpv V=>ic d f0 qx ops (tE sk o.dst) rest (V.bO d o.dst pv) k
  let skip (V:SS):ak:=ic d f0 qx ops (FF sk o.dst) rest (V.jE d o.dst) k
  match(if mK sk ops o then .skip else tB ops d V o)with
  |.run=>run V
  |.skip=>skip V
  |.test t e want=>.test e ((if want then run else skip) (V.bO d (aa t) (.one (.v (.b ab))))) ((if want then skip else run) (V.bO d (aa t) (.one (.v (.b af)))))
  |.fail=>.fail 120
def Eh(d:Nat)(V:SS):jZ:=⟨V.nt,(V.g.filterMap λ(d',t,_)=>if asc d d' then aa t else ah).filter (λt=>match cy d t V.g with
 |some (.one (.pt _ _ _))=>ab
 |some (.one (.tp _))=>ab
 |_=>af),[],V.g.filterMap λ(d',t,_)=>if asc d d' then(match cy d t V.g with
  |some (.one (.pt k _ _))=>aa (t,k)
  |_=>ah)else ah,[]⟩
def ajr(d:Nat)(a:Code)(V:SS):Option Nat:=
 match a with
 |.seq (.region _ ops af) _=>match ops.toList with
  |[o]=>match o.op with
   |.binOp .lss _ (.tmp i) (.const (.int .i64 n)) _=>match cy d i V.g with
    |some (.one (.v (.i z)))=>if z==0&&decide (0<=n)&&decide (n<=4)then aa (n.toNat+1)else ah
    |_=>ah
   |_=>ah
  |_=>ah
 |_=>ah
def Ti:Code->Bool
 |.seq a _=>Ti a
 |.region _ ops _=>ops.toList.any λo=>match o.op with
  |.next _ af=>ab
  |_=>af
 |_=>af
def Kq(d f:Nat)(a:Code)(k:zw->SS->ak):Nat->SS->ak
 |0,_=>.fail 180
 |n+1,V=>self d f a V λex W=>match ex with
  |.normal=>Kq d f a k n W
  |ex=>k ex W
def nC:nB:=λd f c V k=>
 match c with
 |.skip|.label _=>k .normal V
 |.region _ ops draw=>
  if draw then(if(dx ops).ok&&(Ft ops (dx ops)||mI P (dx ops) ops.toList.zipIdx (Eh d V))then ic P (if mI P (dx ops) ops.toList.zipIdx (Eh d V)then cfg else A4 cfg) self (λt pv V=>k (.bY t pv) V) d f ab ops [] ops.toList V λV=>k .normal V else .fail 130)
  else ic P cfg self (λt pv V=>k (.bY t pv) V) d f af ops [] ops.toList V λV=>k .normal V
 |.seq a b=>self d f a V λex V=>match ex with
  |.normal=>self d f b V k
  |ex=>k ex V
 |.cond c a b=>match bN P d V 0 c with
  |.one (.v (.b ab))=>self d f a V k
  |.one (.v (.b af))=>self d f b V k
  |.one (.v e)=>match c with
   |.tmp t=>if !as7 t V.nt then .fail 131 else .test e (self d f a (V.bO d (aa t) (.one (.v (.b ab)))) k) (self d f b (V.bO d (aa t) (.one (.v (.b af)))) k)
   |_=>.fail 131
  |.one (.w _ e)=>match c with
   |.tmp t=>if !as7 t V.nt then .fail 131 else .test e (self d f a (V.bO d (aa t) (.one (.v (.b ab)))) k) (self d f b (V.bO d (aa t) (.one (.v (.b af)))) k)
   |_=>.fail 131
  |_=>.fail 132
 |.block id a=>self d f a V λex V=>match ex with
  |.exit bA=>if asc id bA then k .normal V else k (.exit bA) V
  |ex=>k ex V
 |.loop a=>match(if acO cfg then ajr d a V else ah)with
  |some n=>Kq self d f a k n V
  |none=>
  let id:=AZ a
  let h:=(cfg.hints.find? λh=>asc h.d d&&asc h.f f&&asc h.id id).getD ⟨d,f,id,[],[],[],[]⟩
  let V0:=uJ h (settle h.yj V)
  let Vg:=gcS V0
  let(g,n,init):=Ko h Vg.g Vg.n []
  let(l,n,_):=aaX h 0 Vg.l n init
  let H:SS:=⟨g,l,V0.n+(n- V0.n),V.lv+1,V.nt⟩
  match inst V0.n (n- V0.n) H V0 with
  |some (args,_)=>(if Ti a then ak.uniq else λk=>k)<|.loop (dT args) (self d f a H λex W=>match ex with
   |.normal=>match inst V0.n (n- V0.n) H (settle h.yj W)with
    |some (args,_)=>.next V.lv (dT args)
    |none=>.bad d f id V0.n n H.g H.l W.g W.l
   |ex=>k ex W)
  |none=>.bad d f id V0.n n H.g H.l V0.g V0.l
 |.scope a=>self d f a V k
 |.exit id=>k (.exit id) V
 |.ret=>k .ret V
 |_=>.fail 133
end step
def exec(n:Nat):nB:=avm (λ_ _ _ _ _=>.fail 140) (λ_ s=>nC P cfg s) n
def du:Nat->List TypeId->List (PV SE)
 |_,[]=>[]
 |j,t::ts=>ofType P t (.var j)::du (j+1) ts
def pz:Nat->List TypeId->ak->ak
 |_,[],k=>k
 |j,t::ts,k=>rp P t (.var j) (pz (j+1) ts k)
def aK(n:Nat)(new:Bool)(f:FuncId):ak:=
 match P.funcs[f]? with
 |some fn=>match fn.body with
  |some c=>
   if as5 fn.params.size fn.ntmps then
    pz P 0 fn.params.toList<|exec P cfg n 0 f c ⟨setArgs 0 0 (du P 0 fn.params.toList),[],fn.params.size,0,fn.ntmps⟩ λex V=>match ex with
     |.exit _=>.fail 141
     |.bY _ _=>.fail 146
     |_=>match lx P 0 V fn.results.toList with
      |some da=>match tA V (Ee da)with
       |some (fr,z,_)=>.ret (if new&&fr then .rw z else z)
       |none=>.fail 142
      |none=>.fail 110
   else .fail 143
  |none=>.fail 144
 |none=>.fail 145
end run
end Go.Ev
namespace Go.Ev
variable(P:Program)
def yo(z:IV):Option IV:=if aj z then aa z else ah
def aA:IV->Bool
 |.raw _=>ab
 |_=>af
def gh:IV->Option Int
 |.raw (.int _ n)=>aa n
 |_=>ah
def dc(op:BinOp)(t:TypeId)(a b:IV):Option IV:=
 match iG a,iG b with
 |some .nilIface,_=>ah
 |some _,aa _=>pf P op t (.func 0) (.func 0) a b
 |_,_=>ah
def VY(op:UnOp):IV->Option IV
 |.raw v=>(aS P (Op.unary op v)).map lift
 |_=>ah
def VZ(src dst:TypeId):IV->Option IV
 |.raw (.string s)=>match P.underlying src,P.underlying dst with
  |some _,aa .string=>aa (.raw (.string s))
  |_,_=>ah
 |.raw v=>(aS P (convert src dst v)).map lift
 |_=>ah
def dD(s:Nat):IV->IV->Option IV
 |.tree s' es,i=>match gh i with
  |some n=>if s'=s/\0<=n then match es[n.toNat]? with
   |some x=>if(cellsOf x).length=s then aa x else ah
   |none=>ah
   else ah
  |none=>ah
 |_,_=>ah
def i_(s:Nat)(es:List IV):Bool:=es.all λe=>(cellsOf e).length==s&&(cellsOf e).all aj
def j2(s bytes:Nat):IV->IV->Option IV
 |.tree s1 es,.tree s2 fs=>if s1=s/\s2=s/\0<s/\i_ s fs=ab/\(4*(es.length+fs.length)+4096)*bytes<=2 ^47/\es.length+fs.length<=2 ^40 then aa (.tree s (es++fs))else ah
 |_,_=>ah
def X6(s:Nat):IV->IV->IV->Option IV
 |.tree s1 es,i,x=>match gh i with
  |some n=>if s1=s/\0<=n/\n.toNat<es.length/\(cellsOf x).length=s then aa (.tree s (es.set n.toNat x))else ah
  |none=>ah
 |_,_,_=>ah
def kP(s:Nat):IV->IV->IV->Option IV
 |.tree s1 es,lo,hi=>match gh lo,gh hi with
  |some l,aa h=>if s1=s/\0<=l/\l.toNat<=h.toNat/\0<=h/\h.toNat<=es.length then aa (.tree s ((es.take h.toNat).drop l.toNat))else ah
  |_,_=>ah
 |_,_,_=>ah
def X7(s:Nat):IV->IV->IV->Option IV
 |.tree s1 es,lo,z=>match gh lo with
  |some l=>if s1=s/\0<=l/\l.toNat<=es.length/\(cellsOf z).length=s then aa (.tree s (es.take l.toNat++asr (es.length- l.toNat) z))else ah
  |none=>ah
 |_,_,_=>ah
def IF:IV->Option IV
 |.tree _ es=>aa (.int es.length)
 |_=>ah
def xC:IV->Option IV
 |.raw (.string b)=>aa (.int b.size)
 |_=>ah
def uK:List IV->Option (List Value)
 |[]=>aa []
 |c::cs=>match c with
  |.raw (.int q n)=>(uK cs).map (Value.int q n::·)
  |.raw (.string q)=>(uK cs).map (Value.string q::·)
  |_=>ah
def keyOf:IV->Option Value
 |.raw (.int q n)=>aa (.int q n)
 |.raw (.string q)=>aa (.string q)
 |.agg cs=>(uK cs).map λvs=>.agg vs.toArray
 |_=>ah
def n_:List IV->Option (List Value)
 |[]=>aa []
 |d::ds=>match d with
  |.az [k,_]=>match keyOf k,n_ ds with
   |some v,aa vs=>aa (v::vs)
   |_,_=>ah
  |_=>ah
def nowAt(kd:TypeDesc)(k:Value):List Value->Nat->Option (Option Nat)
 |[],_=>aa ah
 |e::es,n=>match Instr.sameNow kd k e with
  |some ab=>aa (aa n)
  |some af=>nowAt kd k es (n+1)
  |none=>ah
def FG(kt:TypeId):Option TypeDesc:=
 match P.underlying kt with
 |some (.int q)=>aa (.int q)
 |some .string=>aa .string
 |_=>ah
def IG(kt:TypeId)(ks:List Value)(k:Value):Option (Option Nat):=
 match gT P ab kt k (ks.map λe=>(e,.undef,0)),gT P af kt k (ks.map λe=>(e,.undef,0))with
 |some q,aa q'=>if q=q' then(match q with
  |none=>aa ah
  |some j=>match ks[j]? with
   |some e=>if Instr.sameBits 10000 e k then aa (aa j)else ah
   |none=>ah)else ah
 |_,_=>ah
def fi(kt:TypeId)(ds:List IV)(key:IV):Option (Option Nat):=
 match FG P kt,n_ ds,keyOf key with
 |some kd,aa ks,aa k=>nowAt kd k ks 0
 |none,aa ks,aa k=>IG P kt ks k
 |_,_,_=>ah
def lX(w:Nat):IV->IV->Option IV
 |.raw (.string s),.raw (.int .i64 p)=>if 0<=p then(match w with
  |0=>aa (.raw (.bool (decide (p.toNat<s.size))))
  |1=>aa (.raw (.int .i32 (atS s p.toNat).1))
  |2=>aa (.raw (.int .i64 ((p.toNat+(atS s p.toNat).2:Nat))))
  |_=>ah)else ah
 |.raw (.int q c),p=>if w=7/\0<=c/\c<=1000000 then aa (.raw (.int q c))
  else if w=8/\1<=c/\c<=1000000/\(q==IntKind.i64)=ab/\(cellsOf p).length=1 then aa (.tree 1 (asr c.toNat p))else ah
 |.az ds,_=>if w=9 then aa (.int ds.length)else ah
 |_,_=>ah
def SE.den(ν:List IV):SE->Option IV
 |.var x=>ν[x]?
 |.i n=>aa (.raw (.int .i64 n))
 |.k q n=>aa (.raw (.int q n))
 |.b t=>aa (.raw (.bool t))
 |.s l=>aa (.raw (.string ⟨l.toArray⟩))
 |.raw v=>aa (.raw v)
 |.ok e=>(e.den ν).bind yo
 |.sx n e=>(e.den ν).bind λ|.agg cs=>if cs.length=n/\cs.all aj then aa (.agg cs)else ah|_=>ah
 |.bS e j=>(e.den ν).bind λ|.agg cs=>(cs[j]?).bind yo|_=>ah
 |.idx q e x=>(e.den ν).bind λa1=>(x.den ν).bind λb1=>dD q a1 b1
 |.Ea q e x j=>(e.den ν).bind λa1=>(x.den ν).bind λb1=>(dD q a1 b1).bind λy=>((cellsOf y)[j]?).bind yo
 |.len e=>(e.den ν).bind IF
 |.rW e=>(e.den ν).bind xC
 |.an=>aa (.agg [])
 |.ac a r=>(a.den ν).bind λx=>(r.den ν).bind λ|.agg cs=>aa (.agg (x::cs))|_=>ah
 |.tr q r=>(r.den ν).bind λ|.agg cs=>if 0<q/\cs.all (λe=>(cellsOf e).length==q)then aa (.tree q cs)else ah|_=>ah
 |.tp r=>(r.den ν).bind λ|.agg cs=>aa (.az cs)|_=>ah
 |.cat q bytes e f=>(e.den ν).bind λa1=>(f.den ν).bind λb1=>j2 q bytes a1 b1
 |.Eb q e x y=>(e.den ν).bind λa1=>(x.den ν).bind λb1=>(y.den ν).bind λc1=>X6 q a1 b1 c1
 |.sub q e lo hi=>(e.den ν).bind λa1=>(lo.den ν).bind λb1=>(hi.den ν).bind λc1=>kP q a1 b1 c1
 |.OV q e lo z=>(e.den ν).bind λa1=>(lo.den ν).bind λb1=>(z.den ν).bind λc1=>X7 q a1 b1 c1
 |.proj e j=>(e.den ν).bind λ|.az cs=>cs[j]? |_=>ah
 |.bin op t a2 b2=>(a2.den ν).bind λx1=>(b2.den ν).bind λy1=>dc P op t x1 y1
 |.un op a=>(a.den ν).bind (VY P op)
 |.cv q d a=>(a.den ν).bind (VZ P q d)
 |.mx Ec a2 b2=>(a2.den ν).bind λx1=>(b2.den ν).bind λy1=>if Ec then JW P [x1,y1]else NS P [x1,y1]
 |.GF e x=>(e.den ν).bind λa1=>(x.den ν).bind λb1=>match a1,b1 with
  |.raw (.string q),.raw (.int _ n)=>if 0<=n then(q.data.toList[n.toNat]?).map λc=>.raw (.int .u8 c.toNat)else ah
  |_,_=>ah
 |.Hl e lo hi=>(e.den ν).bind λa1=>(lo.den ν).bind λb1=>(hi.den ν).bind λc1=>match a1,gh b1,gh c1 with
  |.raw (.string q),aa l,aa h=>if 0<=l/\l.toNat<=h.toNat/\0<=h/\h.toNat<=q.size then aa (.raw (.string ⟨((q.data.toList.drop l.toNat).take (h.toNat- l.toNat)).toArray⟩))else ah
  |_,_,_=>ah
 |.dec w a p=>(a.den ν).bind λa1=>(p.den ν).bind λb1=>lX w a1 b1
 |.rw e=>(e.den ν).bind λz=>if aA z then aa z else ah
 |.rws e=>(e.den ν).bind λ|.tree q es=>if es.all (λe=>(cellsOf e).all aA)then aa (.tree q es)else ah|_=>ah
 |.has kt m key=>(m.den ν).bind λa1=>(key.den ν).bind λk1=>match a1 with
  |.az ds=>(fi P kt ds k1).map λr=>.bool r.isSome
  |_=>ah
 |.get kt m key z=>(m.den ν).bind λa1=>(key.den ν).bind λk1=>(z.den ν).bind λd1=>match a1 with
  |.az ds=>match fi P kt ds k1 with
   |some (aa j)=>match ds[j]? with
    |some (.az [_,y1])=>aa y1
    |_=>ah
   |some ah=>aa d1
   |none=>ah
  |_=>ah
 |.ins kt m key x=>(m.den ν).bind λa1=>(key.den ν).bind λk1=>(x.den ν).bind λy1=>match a1 with
  |.az ds=>match fi P kt ds k1 with
   |some (aa j)=>aa (.az (ds.set j (.az [k1,y1])))
   |some ah=>aa (.az (ds++[.az [k1,y1]]))
   |none=>ah
  |_=>ah
theorem SE.cU{ν μ:List IV}:∀(e:SE) {z:IV},e.den P ν=aa z->e.den P (ν++μ)=aa z:=by
 have hb:∀{o o':Option IV} {f:IV->Option IV} {z:IV},(∀y,o=aa y->o'=aa y)->o.bind f=aa z->o'.bind f=aa z:=by
  intro o o' f z h hz;cases o with
  |none=>cases hz
  |some y=>rw[h y rfl];exact hz
 intro e;induction e with
 |var x=>intro z h;simp only[SE.den]at h⊢;rw[asd (ar3.1 h).1];exact h
 |i n=>intro z h;exact h
 |k q n=>intro z h;exact h
 |b t=>intro z h;exact h
 |s l=>intro z h;exact h
 |raw v=>intro z h;exact h
 |an=>intro z h;exact h
 |ok e ih=>intro z h;exact hb (λy=>ih) h
 |sx n e ih=>intro z h;exact hb (λy=>ih) h
 |bS e j ih=>intro z h;exact hb (λy=>ih) h
 |rW e ih=>intro z h;exact hb (λy=>ih) h
 |len e ih=>intro z h;exact hb (λy=>ih) h
 |tr q r ih=>intro z h;exact hb (λy=>ih) h
 |tp r ih=>intro z h;exact hb (λy=>ih) h
 |proj e j ih=>intro z h;exact hb (λy=>ih) h
 |un op a ih=>intro z h;exact hb (λy=>ih) h
 |cv q d a ih=>intro z h;exact hb (λy=>ih) h
 |rw e ih=>intro z h;exact hb (λy=>ih) h
 |rws e ih=>intro z h;exact hb (λy=>ih) h
 |idx q e x fv eN|Ea q e x j fv eN|ac a r fv eN|cat q by' e f fv eN|bin op t a b fv eN|mx Ec a b fv eN|GF e x fv eN|has kt m key fv eN|dec w a p fv eN=>
  intro z h;simp only[SE.den,aso]at h⊢;obtain⟨a,h1,b,h2,h3⟩:=h;exact⟨a,fv h1,b,eN h2,h3⟩
 |Eb q e x y fv eN A5|sub q e lo hi fv eN A5|OV q e lo z' fv eN A5|Hl e lo hi fv eN A5|ins kt m key x fv eN A5|get kt m key z' fv eN A5=>
  intro z h;simp only[SE.den,aso]at h⊢;obtain⟨a,h1,b,h2,c,h3,h4⟩:=h;exact⟨a,fv h1,b,eN h2,c,A5 h3,h4⟩
abbrev Cr:=FuncId->Bool->List IV->IV->Prop
def iE(ν:List IV)(e:SE):Option (List IV):=
 match e.den P ν with
 |some (.agg cs)=>aa cs
 |_=>ah
def ak.sat(C:Cr)(Q:IV->Prop):ak->List (List IV->Prop)->List IV->Prop
 |.fail _,_,_=>False
 |.ret e,_,ν=>∃z,e.den P ν=aa z/\Q z
 |.test e a b,K,ν=>(e.den P ν=aa (.bool ab)/\a.sat C Q K ν)\/(e.den P ν=aa (.bool af)/\b.sat C Q K ν)
 |.two e a b,K,ν=>∃q es,e.den P ν=aa (.tree q es)/\b.sat C Q K ν/\(es=[]->a.sat C Q K ν)
 |.bind e k,K,ν=>∃z,e.den P ν=aa z/\k.sat C Q K (ν++[z])
 |.bj e k,K,ν=>(∃z,e.den P ν=aa z)/\k.sat C Q K ν
 |.call f new args k,K,ν=>∃xs z,iE P ν args=aa xs/\C f new xs z/\k.sat C Q K (ν++[z])
 |.pick es x a b,K,ν=>∃ds rem,es.den P ν=aa (.az ds)/\(∃r,x.den P ν=aa (.az (.az ds::.az rem::r)))/\(rem=[]->a.sat C Q K ν)/\∀i y,rem[i]?=aa y->b.sat C Q K (ν++[y,.az [.az ds,.az (rem.eraseIdx i),y]])
 |.same es x k,K,ν=>∃ds r,es.den P ν=aa (.az ds)/\x.den P ν=aa (.az (.az ds::r))/\k.sat C Q K ν
 |.uniq k,K,ν=>∃z,Q z/\k.sat C (·=z) (K.map λ_ _=>False) ν
 |.loop init body,K,ν=>∃vs,iE P ν init=aa vs/\∃m:Nat,(avm (motive:=λ_=>List IV->Prop) (λ_=>False) (λ_ ih vs=>body.sat C Q (K++[ih]) (ν++vs)) m) vs
 |.q8 body m cont,K,ν=>body.sat C Q (K++[λvs=>vs.length=m/\cont.sat C Q K (ν++vs)]) ν
 |.next lv args,K,ν=>∃vs p,iE P ν args=aa vs/\K[lv]?=aa p/\p vs
 |.bad ..,_,_=>False
abbrev sD(K K':List (List IV->Prop)):Prop:=All2 (λp q=>∀vs,p vs->q vs) K K'
theorem sD.snoc{K K':List (List IV->Prop)}(h:sD K K'){p q:List IV->Prop}(hp:∀vs,p vs->q vs):sD (K++[p]) (K'++[q]):=h.app ⟨hp,trivial⟩
theorem sD.refl:∀(K:List (List IV->Prop)),sD K K
 |[]=>trivial
 |_::K=>⟨λ_ h=>h,sD.refl K⟩
theorem sD.no:∀(K:List (List IV->Prop)),sD (K.map λ_ _=>False) K
 |[]=>trivial
 |_::K=>⟨λ_ h=>h.elim,sD.no K⟩
theorem sD.nos:∀{K K':List (List IV->Prop)},sD K K'->sD (K.map λ_ _=>False) (K'.map λ_ _=>False)
 |[],[],_=>trivial
 |_::_,_::_,h=>⟨λ_ h=>h,sD.nos h.2⟩
 |[],_::_,h=>h.elim
 |_::_,[],h=>h.elim
theorem ak.eA{C:Cr}:∀(f:ak) {Q Q':IV->Prop} {K K':List (List IV->Prop)} {ν:List IV},(∀z,Q z->Q' z)->sD K K'->f.sat P C Q K ν->f.sat P C Q' K' ν
 |.fail _,_,_,_,_,_,_,_,h=>h
 |.bad ..,_,_,_,_,_,_,_,h=>h
 |.ret _,_,_,_,_,_,hq,_,⟨z,h1,h2⟩=>⟨z,h1,hq z h2⟩
 |.test _ a b,_,_,_,_,_,hq,hk,h=>h.imp (λh=>⟨h.1,eA a hq hk h.2⟩) (λh=>⟨h.1,eA b hq hk h.2⟩)
 |.two _ a b,_,_,_,_,_,hq,hk,⟨q,es,h1,h2,h3⟩=>⟨q,es,h1,eA b hq hk h2,λhe=>eA a hq hk (h3 he)⟩
 |.bind _ k,_,_,_,_,_,hq,hk,⟨z,h1,h2⟩=>⟨z,h1,eA k hq hk h2⟩
 |.bj _ k,_,_,_,_,_,hq,hk,⟨h1,h2⟩=>⟨h1,eA k hq hk h2⟩
 |.call _ _ _ k,_,_,_,_,_,hq,hk,⟨xs,z,h1,h2,h3⟩=>⟨xs,z,h1,h2,eA k hq hk h3⟩
 |.pick _ _ a b,_,_,_,_,_,hq,hk,⟨ds,rem,h1,h2,h3,h4⟩=>⟨ds,rem,h1,h2,λhe=>eA a hq hk (h3 he),λi y hy=>eA b hq hk (h4 i y hy)⟩
 |.same _ _ k,_,_,_,_,_,hq,hk,⟨ds,r,h1,h2,h3⟩=>⟨ds,r,h1,h2,eA k hq hk h3⟩
 |.uniq k,_,_,_,_,_,hq,hk,⟨z,h1,h2⟩=>⟨z,hq z h1,eA k (λ_ h=>h) hk.nos h2⟩
 |.next lv _,_,_,_,_,_,_,hk,⟨vs,p,h1,h2,h3⟩=>by
  have vS:=ar2 (by rw[<-hk.len];exact(ar3.1 h2).1);exact⟨vs,_,h1,vS,hk.get h2 vS vs h3⟩
 |.q8 a m b,_,_,_,_,_,hq,hk,h=>eA a hq (hk.snoc λ_ hv=>⟨hv.1,eA b hq hk hv.2⟩) h
 |.loop _ b,Q,Q',K,K',ν,hq,hk,⟨vs,h1,m,hm⟩=>by
  have key:∀(m:Nat) (vs:List IV),(avm (motive:=λ_=>List IV->Prop) (λ_=>False) (λ_ ih vs=>b.sat P C Q (K++[ih]) (ν++vs)) m) vs->(avm (motive:=λ_=>List IV->Prop) (λ_=>False) (λ_ ih vs=>b.sat P C Q' (K'++[ih]) (ν++vs)) m) vs:=by
   intro m;induction m with
   |zero=>intro vs h;exact h
   |succ m ih=>intro vs h;exact eA b hq (hk.snoc ih) h
  exact⟨vs,h1,m,key m vs hm⟩
end Go.Ev
namespace Go.Ev
variable{P:Program}{N:Nat}{σ ao:St}{R R':Rs}{φ aL:Ph}{E:Nat->Env}{ν:List IV}
abbrev au(P:Program)(ν:List IV):SE->Option IV:=λe=>e.den P ν
theorem bytes_eta(b:ByteArray):(⟨b.data.toList.toArray⟩:ByteArray)=b:=by cases b;simp
variable{L:List (LO SE)}{Γ:Gm SE}
theorem LP(t:TypeId)(v:Value):cD (au P ν) R φ L σ (.raw v) (yk P t v):=by
 have raw:∀u:Value,(∀c,u≠.agg c)->(∀c,u≠.tuple c)->cD (au P ν) R φ L σ (.raw u) (.v (.raw u)):=λu h1 h2=>by
  refine⟨.raw u,rfl,.raw u,?_⟩;cases u<;>first|rfl|exact absurd rfl (h1 _)|exact absurd rfl (h2 _)
 unfold yk;split
 ·exact⟨_,rfl,.raw _,rfl⟩
 ·exact⟨_,rfl,.raw _,rfl⟩
 ·exact⟨_,rfl,.raw _,rfl⟩
 ·rename_i b;refine⟨.raw (.string b),?_,.raw _,rfl⟩;show aa (IV.raw (.string ⟨b.data.toList.toArray⟩))=_;rw[bytes_eta]
 ·split
  ·rename_i s hs;split
   ·exact raw _ (by simp) (by simp)
   ·rename_i h;have:s≠0:=by simpa[Nat.beq_eq]using h
    exact⟨by omega,rfl⟩
  ·exact raw _ (by simp) (by simp)
 ·trivial
 ·trivial
 ·exact raw _ (λc hc=>by subst hc;simp_all) (λc hc=>by subst hc;simp_all)
theorem BM:∀(ts:List TypeId) (vs:List Value),ts.length=vs.length->All2 (cD (au P ν) R φ L σ) (vs.map .raw) (VJ (yk P) ts vs)
 |[],[],_=>trivial
 |t::ts,v::vs,h=>⟨LP t v,BM ts vs (by simpa using h)⟩
 |[],_::_,h=>by simp at h
 |_::_,[],h=>by simp at h
theorem V3(t:TypeId)(v:Value):VR (au P ν) R φ L σ (lift v) (Kh P t v):=by
 have key:cD (au P ν) R φ L σ (.raw v) (yk P t v):=LP t v;cases v with
 |agg cs=>
  simp only[Kh,lift];split
  ·rename_i h;exact⟨_,rfl,BM _ _ (asb h)⟩
  ·trivial
 |_=>exact key
theorem mL{t:TypeId}{z:Value}(h:cw P t=aa z):All2 (cD (au P ν) R φ L σ) (z.cells.toList.map .raw) (zeroCells P t):=by
 unfold zeroCells;rw[h];simp only;split
 ·rename_i hh;exact BM _ _ (asb hh)
 ·refine .mk (by simp) λi a b h1 h2=>?_;rw[List.getElem?_map]at h2;obtain⟨_,_,rfl⟩:=Option.map_eq_some_iff.1 h2;trivial
theorem bo{V:SS}(h:J (au P ν) R φ V.g V.l E σ)(d:Nat)(t:TypeId)(x:Operand):VR (au P ν) R φ V.l σ (ax (E d) x) (bN P d V t x):=by
 cases x with
 |tmp y=>
  show VR _ _ _ _ _ ((E d).at y) ((cy d y V.g).getD (.one .un));cases hg:cy d y V.g with
  |none=>trivial
  |some pv=>exact h.slot d y pv hg
 |const v=>exact V3 t v
 |func f=>exact .inl ⟨rfl,rfl⟩
 |global g=>trivial
theorem bn.aj{fr:Bool}{x y:IV}(h:bn fr R σ x y)(hy:Ev.aj y=ab):Ev.aj x=ab:=by
 cases h<;>first|exact hy|rfl|(simp[Ev.aj]at hy;done)
theorem bn.aem{fr:Bool}{x y:IV}(h:bn fr R σ x y)(hx:Ev.aj x=ab):Ev.aj y=ab:=by
 cases h<;>first|exact hx|rfl|(simp[Ev.aj]at hx;done)
theorem cD.aj{x:IV}{c:Cl SE}(h:cD (au P ν) R φ L σ x c)(hn:c≠.un):Ev.aj x=ab:=by
 cases c with
 |un=>exact absurd rfl hn
 |v z=>obtain⟨y,_,h1,h2⟩:=h;exact h1.aj h2
 |w fr z=>obtain⟨y,_,h1,h2⟩:=h;exact h1.aj h2
 |pt k off ext=>obtain⟨id,cs,_,_,rfl⟩:=h;rfl
 |tp cs=>obtain⟨ds,rfl,_⟩:=h;rfl
 |tw fr cs=>obtain⟨_,⟨_,ds,rfl,_⟩|⟨id,off,ep,m,cE,ay,mn,_,_,_,_,rfl,_⟩⟩:=h<;>rfl
 |sr k=>obtain⟨s,st,cut,fr,z,es,_,_,⟨_,_,rfl|rfl⟩|⟨id,cs,ay,mn,cap,_,_,rfl,_⟩⟩:=h<;>rfl
 |sv k lo=>obtain⟨s,st,cut,fr,z,es,y,n,_,_,_,_,_,(⟨_,_,rfl|rfl⟩|⟨id,cs,ay,mn,cap,_,_,rfl,_⟩)|⟨_,rfl⟩⟩:=h<;>rfl
 |pr k i off ext=>obtain⟨s,st,cut,fr,z,es,y,n,id,cs,ay,mn,_,_,_,_,_,_,_,_,rfl⟩:=h;rfl
 |mp k=>obtain⟨id,kt,es,_,_,rfl⟩:=h;split<;>rfl
 |nl b s=>obtain⟨_,rfl⟩:=h;cases b<;>rfl
 |fn f bs=>obtain⟨_,rfl⟩|⟨ys,rfl,_⟩:=h<;>rfl
theorem Hr:∀{cs:List (Cl SE)},rX cs=ab->∀c∈cs,c≠.un
 |[],_,c,hc=>by cases hc
 |d::cs,h,c,hc=>by
  have hd:d≠.un/\rX cs=ab:=by
   cases d<;>simp_all[rX]
  rcases List.mem_cons.1 hc with rfl|hc
  ·exact hd.1
  ·exact Hr hd.2 c hc
theorem p_{xs:List IV}{cs:List (Cl SE)}(h:All2 (cD (au P ν) R φ L σ) xs cs)(hn:rX cs=ab):xs.all Ev.aj=ab:=by
 rw[List.all_eq_true];intro x hx;obtain⟨i,hi⟩:=List.getElem?_of_mem hx;have hl:i<cs.length:=by rw[<-h.len];exact(ar3.1 hi).1
 have hc:cs[i]?=aa cs[i]:=ar2 hl;exact(h.get hi hc).aj (Hr hn _ (List.mem_of_getElem? hc))
theorem zy{x:IV}{pv:PV SE}(h:VR (au P ν) R φ L σ x pv)(hn:rX (ey pv)=ab):All2 (cD (au P ν) R φ L σ) (cellsOf x) (ey pv):=by
 cases pv with
 |one c=>
  have bp:=cD.aj (c:=c) h (Hr hn c (by simp[ey]))
  have:cellsOf x=[x]:=by
   cases x<;>first|rfl|(simp[Ev.aj]at bp;done)
  rw[this];exact⟨h,trivial⟩
 |ag cs=>obtain⟨xs,rfl,h2⟩:=h;exact h2
 |tu vs=>simp[ey,rX]at hn
theorem BN{s:Nat}:∀{es:List IV} (_:∀e∈es,(cellsOf e).length=s) {i j:Nat} {e d:IV},es[i]?=aa e->(cellsOf e)[j]?=aa d->(flat es)[i*s+j]?=aa d:=by
 intro es;induction es with
 |nil=>intro _ i j e d h;simp at h
 |cons a es ih=>
  intro bH i j e d he hd;have ha:(cellsOf a).length=s:=bH a (by simp);unfold flat;rw[auv];cases i with
  |zero=>
   simp at he;subst he;rw[asd (by have:=(ar3.1 hd).1;omega)];simpa using hd
  |succ i=>
   simp at he;rw[asE,List.getElem?_append_right (by omega),ha];have:=ih (λe he=>bH e (by simp[he])) he hd;rw[show i*s+1*s+j- s=i*s+j by omega];exact this
theorem nD{s:Nat}:∀{es:List IV} (_:∀e∈es,(cellsOf e).length=s),(flat es).length=es.length*s:=by
 intro es;induction es with
 |nil=>intro _;simp[flat]
 |cons a es ih=>
  intro bH;have:=ih (λe he=>bH e (by simp[he]));unfold flat at this⊢;rw[auv,List.length_append,this,bH a (by simp),List.length_cons,asE];omega
theorem V4(V:SS)(k:Nat)(o:LO SE):(V.setObj k o).l=V.l.set k o:=rfl
theorem aa3{V:SS}{k s:Nat}{cut fr:Bool}{z:SE}(h:J (au P ν) R φ V.g V.l E σ)(hk:V.l[k]?=aa (.row s af cut fr z)):
 ∃R',ky (au P ν) (au P ν) R φ V.l σ R' φ (V.l.set k (.row s ab cut fr z)) σ (λ_=>False)/\J (au P ν) R' φ V.g (V.l.set k (.row s ab cut fr z)) E σ:=by
 obtain⟨bE,es,he,bH,hor⟩:=h.obj k _ hk;have oL:=c_ hk;have bf:(V.l.set k (.row s ab cut fr z))[k]?=aa (.row s ab cut fr z):=by simp[oL]
 have aZ:∀j,j≠k->(V.l.set k (.row s ab cut fr z))[j]?=V.l[j]? :=λj hj=>List.getElem?_set_ne (λhc=>hj hc.symm)
 have acP:∀R',iH R σ R' σ->ky (au P ν) (au P ν) R φ V.l σ R' φ (V.l.set k (.row s ab cut fr z)) σ (λ_=>False):=λR' hg=>by
  refine .mk' (λ_ _ h=>h) hg (λj cs hj=>?_) (λj kt es hj=>?_) (λj s' st uF c7 z' hj _=>?_)
  ·by_cases bI:j=k
   ·subst bI;rw[hk]at hj;cases hj
   ·exact⟨⟨cs,by rw[aZ j bI];exact hj⟩,rfl⟩
  ·by_cases bI:j=k
   ·subst bI;rw[hk]at hj;cases hj
   ·exact⟨⟨es,by rw[aZ j bI];exact hj⟩,rfl⟩
  ·by_cases bI:j=k
   ·subst bI;rw[hk]at hj;cases hj;exact⟨⟨ab,bf⟩,rfl,λ_ _=>rfl⟩
   ·exact⟨⟨st,by rw[aZ j bI];exact hj⟩,rfl,λ_ _=>rfl⟩
 rcases hor with⟨h1,h2⟩|⟨id,cs,ay,mn,h1,h2,h3,h4,h5,h6,h7⟩
 ·have hs:=acP R (iH.refl h.fits);refine⟨R,hs,{h with slot:=λd t pv hg=>(h.slot d t pv hg).step hs pv.a_,obj:=λj o hj=>?_,lt:=λj id hj=>by simpa using h.lt j id hj}⟩;by_cases bI:j=k
  ·subst bI;rw[bf]at hj;cases hj;exact⟨bE,es,he,bH,.inl ⟨h1,h2⟩⟩
  ·rw[aZ j bI]at hj;exact(h.obj j o hj).step hs rfl (λ_ _=>⟨rfl,rfl⟩) o.a_
 ·let R':Rs:=λi=>if i=id then aa (es.length*s)else R i
  have BO:R id=ah:=by simpa using h5
  have hg:iH R σ R' σ:=by
   refine⟨λi m hm=>⟨m,?_,ar8 _⟩,λi m cx iC pw hm aE=>⟨cx,iC,aE,ar8 _,λ_ _=>rfl⟩,λi m cx iC pw hm aE=>?_⟩
   ·have:i≠id:=λhc=>by rw[hc,BO]at hm;cases hm
    simp[R',this,hm]
   ·simp only[R']at hm;split at hm
    ·rename_i hc;subst hc;cases hm;rw[h2]at aE;cases aE;exact h4
    ·exact h.fits i m cx iC pw hm aE
  have hs:=acP R' hg;refine⟨R',hs,{h with slot:=λd t pv za=>(h.slot d t pv za).step hs pv.a_,obj:=λj o hj=>?_,lt:=λj id hj=>by simpa using h.lt j id hj,qw:=λi m hm=>?_,fits:=hg.fits}⟩
  ·by_cases bI:j=k
   ·subst bI;rw[bf]at hj;cases hj;exact⟨bE,es,he,bH,.inr ⟨id,cs,ay,mn,h1,h2,h3,h4,by simp[R'],h6,λj x d hx hd=>(h7 j x d hx hd).mono hg⟩⟩
   ·rw[aZ j bI]at hj;refine(h.obj j o hj).step hs rfl (λi hi=>⟨rfl,?_⟩) o.a_;have:i≠id:=λhc=>bI (h.inj j k id (by rw[<-hc];exact hi) h1);simp[R',this]
  ·simp only[R']at hm;split at hm
   ·rename_i hc;subst hc;exact(h.lt _ _ h1).2
   ·exact h.qw i m hm
theorem O9{x:IV}{k s:Nat}{cut fr:Bool}{z:SE}(h:J (au P ν) R φ Γ L E σ)(hk:L[k]?=aa (.row s ab cut fr z))(hx:cD (au P ν) R φ L σ x (.sr k)):
 ∃y,z.den P ν=aa y/\bn fr R σ x y/\aj y=ab:=by
 obtain⟨bE,es,he,bH,hor⟩:=h.obj k _ hk;obtain⟨s',lG,uF,c7,z',aF,h1,h2,oH⟩:=hx;rw[hk]at h1;cases h1;rw[he]at h2;cases h2;refine⟨_,he,?_,rfl⟩;rcases oH with⟨h3,h4,h5⟩|⟨id,cs,ay,mn,cap,h3,h4,rfl,h5,h6,h7⟩
 ·have:es=[]:=List.eq_nil_of_length_eq_zero h4;subst this;rcases h5 with rfl|rfl
  ·exact .nil s bE
  ·exact .emp s bE
 ·rcases hor with⟨h8,_⟩|⟨bA,cx,iC,pw,h8,h9,Gy,Iu,O_,h13,h14⟩
  ·rw[h3]at h8;cases h8
  ·rw[h3]at h8;cases h8;rw[h4]at h9;cases h9;refine .sl id (0*s) (es.length- 0) cap ay s (es.length*s) cs ay mn es (by simpa using O_) h4 Gy (ar8 _) bE rfl (by simp) Iu bH λi e j c d he hd hc=>?_;refine h14 (i*s+j) c d (by simpa using hc) (BN bH he hd)
def ji(P:Program)(ν:List IV)(R:Rs)(φ:Ph)(V:SS)(σ:St)(R':Rs)(V':SS):Prop:=
 V'.g=V.g/\V'.n=V.n/\V'.ln=V.ln/\ky (au P ν) (au P ν) R φ V.l σ R' φ V'.l σ (λ_=>False)
theorem ky.trans{α:Type}{ev:α->Option IV}{R1 R2 R3:Rs}{dA Dc φ3:Ph}{L1 L2 L3:List (LO α)}{aq dm vN:St}(h:ky ev ev R1 dA L1 aq R2 Dc L2 dm (λ_=>False))(k:ky ev ev R2 Dc L2 dm R3 φ3 L3 vN (λ_=>False)):
 ky ev ev R1 dA L1 aq R3 φ3 L3 vN (λ_=>False):=by
 refine⟨λ_ _ h=>h,⟨λid m hm=>?_,λid m cs ay mn hm aE=>?_,k.grow.fits⟩,λj cs hj=>?_,λj kt es hj=>?_,λj s st cut fr z hj hb=>?_⟩
 ·obtain⟨m1,h1,h2⟩:=h.grow.le id m hm;obtain⟨m2,h3,h4⟩:=k.grow.le id m1 h1;exact⟨m2,h3,asq h2 h4⟩
 ·obtain⟨oa,BP,h1,h2,h3⟩:=h.grow.keep id m cs ay mn hm aE;obtain⟨m1,h4,h5⟩:=h.grow.le id m hm;obtain⟨cs2,tF,h6,h7,h8⟩:=k.grow.keep id m1 oa BP mn h4 h1;exact⟨cs2,tF,h6,asq h2 h7,λj hj=>by rw[h8 j (by omega),h3 j hj]⟩
 ·obtain⟨⟨cx,h1⟩,h2⟩:=h.var j cs hj;obtain⟨h3,h4⟩:=k.var j cx h1;exact⟨h3,h4.trans h2⟩
 ·obtain⟨⟨aF,h1⟩,h2⟩:=h.map j kt es hj;obtain⟨h3,h4⟩:=k.map j kt aF h1;exact⟨h3,h4.trans h2⟩
 ·obtain⟨⟨sE,sF,z1,h1,cZ⟩,h2,h3⟩:=h.row j _ _ _ _ _ hj hb;obtain⟨⟨X8,X9,z2,h4,h4'⟩,h5,h6⟩:=k.row j _ _ _ _ _ h1 hb;refine⟨⟨X8,X9,z2,h4,λes he=>?_⟩,h5.trans h2,λid cs ay mn hid aE=>?_⟩
  ·obtain⟨eT,a1,a2⟩:=cZ es he;obtain⟨gS,b1,b2⟩:=h4' eT a1;exact⟨gS,b1,b2.trans a2⟩
  ·obtain⟨oa,A6,a1,a2,a3⟩:=h3 id cs ay mn hid aE;obtain⟨cs2,Dd,b1,b2,b3⟩:=h6 id oa ay A6 (by rw[h2];exact hid) a1;exact⟨cs2,Dd,b1,b2.trans a2,λh=>b3 (a3 h)⟩
theorem ji.refl{V:SS}(h:J (au P ν) R φ V.g V.l E σ):ji P ν R φ V σ R V:=
 ⟨rfl,rfl,rfl,.mk' (λ_ _ h=>h) (iH.refl h.fits) (λk cs hk=>⟨⟨cs,hk⟩,rfl⟩) (λk kt es hk=>⟨⟨es,hk⟩,rfl⟩) (λk s st cut fr z hk _=>⟨⟨st,hk⟩,rfl,λ_ _=>rfl⟩)⟩
theorem ji.trans{V V1 V2:SS}{R1 R2:Rs}(h:ji P ν R φ V σ R1 V1)(k:ji P ν R1 φ V1 σ R2 V2):ji P ν R φ V σ R2 V2:=
 ⟨k.1.trans h.1,k.2.1.trans h.2.1,k.2.2.1.trans h.2.2.1,h.2.2.2.trans k.2.2.2⟩
theorem ji.LQ{V V1:SS}{R1:Rs}(h:ji P ν R φ V σ R1 V1){x:IV}{c:Cl SE}(hx:cD (au P ν) R φ V.l σ x c):cD (au P ν) R1 φ V1.l σ x c:=hx.step h.2.2.2 c.a_
theorem ji.vr{V V1:SS}{R1:Rs}(h:ji P ν R φ V σ R1 V1){x:IV}{c:PV SE}(hx:VR (au P ν) R φ V.l σ x c):VR (au P ν) R1 φ V1.l σ x c:=hx.step h.2.2.2 c.a_
theorem GG{V:SS}(h:J (au P ν) R φ V.g V.l E σ)(k:Nat):∃R',ji P ν R φ V σ R' (px k V)/\J (au P ν) R' φ (px k V).g (px k V).l E σ/\
 (∀s st cut fr z,V.l[k]?=aa (.row s st cut fr z)->(px k V).l[k]?=aa (.row s ab cut fr z)):=by
 unfold px;split
 ·rename_i s cut fr es hk;obtain⟨R',h1,h2⟩:=aa3 h hk;refine⟨R',⟨rfl,rfl,rfl,h1⟩,h2,λs' lG uF c7 z' cC=>?_⟩;rw[hk]at cC;cases cC;simp[V4,c_ hk]
 ·rename_i hn;refine⟨R,.refl h,h,λs st cut fr z hk=>?_⟩;cases st with
  |true=>exact hk
  |false=>exact absurd hk (hn _ _ _ _)
theorem Ei{V V':SS}{c:Cl SE}{fr:Bool}{z:SE}(h:J (au P ν) R φ V.g V.l E σ)(hr:wD V c=aa (fr,z,V')):
 ∃R',ji P ν R φ V σ R' V'/\J (au P ν) R' φ V'.g V'.l E σ/\∀x,cD (au P ν) R φ V.l σ x c->∃y,z.den P ν=aa y/\bn fr R' σ x y/\aj y=ab:=by
 cases c with
 |v z'=>
  simp only[wD,ar6,asu]at hr;obtain⟨rfl,rfl,rfl⟩:=hr;refine⟨R,.refl h,h,λx ⟨y,h1,h2,h3⟩=>⟨y,h1,?_,h3⟩⟩;have hg:iH (λ_=>ah) ⟨0,.lf⟩ R σ:=⟨λ_ _ h=>(by cases h),λ_ _ _ _ _ h=>(by cases h),h.fits⟩;exact h2.mono hg
 |w f z'=>
  simp only[wD,ar6,asu]at hr;obtain⟨rfl,rfl,rfl⟩:=hr;exact⟨R,.refl h,h,λx hx=>hx⟩
 |nl b s=>
  simp only[wD,ar6,asu]at hr;obtain⟨rfl,rfl,rfl⟩:=hr;refine⟨R,.refl h,h,λx ⟨h1,h2⟩=>⟨.tree s [],?_,?_,rfl⟩⟩
  ·simp[SE.den,h1]
  ·subst h2;cases b
   ·exact .emp s h1
   ·exact .nil s h1
 |sr k=>
  simp only[wD]at hr;split at hr
  ·rename_i s st cut c7 es hk;simp only[ar6,asu]at hr;obtain⟨rfl,rfl,rfl⟩:=hr;obtain⟨R',h1,h2,h3⟩:=GG h k;exact⟨R',h1,h2,λx hx=>O9 h2 (h3 _ _ _ _ _ hk) (h1.LQ hx)⟩
  ·cases hr
 |un|pt|tp|tw|sv|pr|mp|fn=>simp[wD]at hr
theorem uL:∀{cs:List (Cl SE)} {V V':SS} {R:Rs} {fr:Bool} {zs:List SE},J (au P ν) R φ V.g V.l E σ->tz V cs=aa (fr,zs,V')->
 ∃R',ji P ν R φ V σ R' V'/\J (au P ν) R' φ V'.g V'.l E σ/\zs.length=cs.length/\∀xs,All2 (cD (au P ν) R φ V.l σ) xs cs->∃ys,All2 (λ(z:SE) y=>z.den P ν=aa y) zs ys/\All2 (bn fr R' σ) xs ys/\ys.all Ev.aj=ab
 |[],V,V',R,fr,zs,h,hr=>by
  simp only[tz,ar6,asu]at hr;obtain⟨rfl,rfl,rfl⟩:=hr;refine⟨R,.refl h,h,rfl,λxs hx=>⟨[],trivial,?_,rfl⟩⟩;cases xs with
  |nil=>trivial
  |cons=>exact hx.elim
 |c::cs,V,V',R,fr,zs,h,hr=>by
  simp only[tz]at hr;split at hr
  ·rename_i f1 z V1 h1;split at hr
   ·rename_i f2 zs' V2 h2;simp only[ar6,asu]at hr;obtain⟨rfl,rfl,rfl⟩:=hr;obtain⟨R1,a1,a2,a3⟩:=Ei h h1;obtain⟨R2,b1,b2,bl,b3⟩:=uL a2 h2;refine⟨R2,a1.trans b1,b2,by simp[bl],λxs hx=>?_⟩;cases xs with
    |nil=>exact hx.elim
    |cons x xs=>
     obtain⟨y,c1,c2,c3⟩:=a3 x hx.1;obtain⟨ys,d1,d2,d3⟩:=b3 xs (hx.2.mono λ_ _ bR=>a1.LQ bR);exact⟨y::ys,⟨c1,d1⟩,⟨(c2.mono b1.2.2.2.grow).wide (λh=>by simp[h]),d2.mono λ_ _ bR=>bR.wide (λh=>by simp[h])⟩,by simp[c3,d3]⟩
   ·cases hr
  ·cases hr
theorem eB:∀{zs:List SE} {ys:List IV},All2 (λ(z:SE) y=>z.den P ν=aa y) zs ys->(dT zs).den P ν=aa (.agg ys)
 |[],[],_=>rfl
 |z::zs,y::ys,h=>by simp[dT,SE.den,h.1,eB h.2]
 |[],_::_,h=>h.elim
 |_::_,[],h=>h.elim
end Go.Ev
namespace Go.Ev
abbrev ak.nt(e:SE)(a b:ak):ak:=.bj e (.test e a b)
abbrev ak.nr(e:SE):ak:=.bj e (.ret e)
abbrev ak.nx(n:Nat)(e r:SE):ak:=.bj e (.next n (.ac e r))
abbrev vU(a b:Nat):SE:=.bS (.var a) b
abbrev gC(a:Nat):SE:=.ok (.var a)
abbrev zz(a:BinOp)(b:TypeId)(c d:SE):SE:=.ok (.bin a b c d)
abbrev zA(a b c:SE):SE:=.ac a (.ac b c)
abbrev rp4(a:BinOp)(b:TypeId)(c:Nat)(d:SE):SE:=zz a b (.var c) d
abbrev mq(a b:SE)(c d:ak):ak:=.bj a (.nt b c d)
abbrev GH(a b:Nat):SE:=.len (vU a b)
abbrev mM(a:SE):SE:=.ac a .an
abbrev Ej:SE:=.b af
abbrev vV(a:Nat)(b c:SE)(d:ak):ak:=.bind (.idx a b c) d
abbrev Ek(a:SE)(b c:Nat)(d:SE):SE:=zA a (vU b c) d
abbrev pA(a b c d:Nat)(e:SE):SE:=Ek (vU a b) c d e
abbrev aa4(a:BinOp)(b:TypeId)(c:Nat)(d:Int):SE:=rp4 a b c (.i d)
abbrev jt(a b:Nat):SE:=.sx a (.var b)
abbrev aU:ak:=.ret Ej
abbrev V5(a:Nat)(b:BinOp)(c:TypeId)(d:Nat)(e:Int)(f:SE):ak:=.nx a (aa4 b c d e) f
abbrev bC:SE:=gC 0
abbrev fK(a b:SE)(c:ak):ak:=.bj a (.bj b c)
abbrev ly(a:FuncId)(b:SE)(c:ak):ak:=.call a af b c
abbrev aa5(a:Nat)(b:TypeId)(c:Nat)(d:Int)(e:SE):ak:=V5 a .add b c d e
abbrev gn(a:Nat)(b:SE)(c:Nat)(d:ak):ak:=vV a b (.var c) d
abbrev BQ(a:BinOp)(b:TypeId)(c:SE)(d:Int):SE:=zz a b c (.i d)
abbrev wk(a b:Nat)(c:ak):ak:=.bj (jt a b) c
abbrev anD(a:TypeId)(b:Nat)(c:SE):SE:=rp4 .lss a b c
abbrev cb:SE:=.len bC
abbrev anE(a:UnOp)(b:SE):SE:=.ok (.un a b)
abbrev nE(a:SE):SE:=anE .not a
abbrev dg:SE:=.i 0
abbrev V6(a:SE)(b:ak):ak:=.loop (mM a) b
abbrev ja(a:FuncId)(b:SE)(c:ak):ak:=ly a (mM b) c
abbrev An(a b:Nat):SE:=.proj (.var a) b
abbrev pB(a b:SE)(c:ak)(d:Nat)(e:TypeId)(f:Nat)(g:Int)(h:SE):ak:=mq a b c (aa5 d e f g h)
abbrev lY(a:BinOp)(b:SE)(c:Int):SE:=BQ a 3 b c
abbrev anF(a b c d e f g h:Nat)(i:SE):SE:=pA a b c d (pA e f g h i)
abbrev BR(a b:SE):SE:=zA a b .an
abbrev kf(a:Nat):SE:=.len (gC a)
abbrev Pa(a:ak):ak:=V6 dg a
abbrev Kr(a:Nat)(b:SE):SE:=anD 3 a b
abbrev tG(a:SE)(b:BinOp)(c:SE)(d:Int)(e f:ak):ak:=mq a (lY b c d) e f
abbrev tH(a:Nat):SE:=nE (gC a)
abbrev jU(a:Nat)(b:ak):ak:=.bj (gC a) b
abbrev Hs(a:SE)(b:Nat)(c:SE)(d e:ak):ak:=mq a (Kr b c) d e
abbrev nG(a:Nat)(b:SE)(c d e:Nat)(f:ak):ak:=gn a b c (wk d e f)
abbrev Ks(a:Nat)(b:SE)(c d:ak):ak:=.nt (Kr a b) c d
abbrev mN(a:Nat):SE:=mM (.var a)
abbrev pC:SE:=.b ab
abbrev jV(a:Int):ak:=.ret (.i a)
abbrev aa6(a b:SE)(c:ak):ak:=.loop (BR a b) c
abbrev nH(a b:SE)(c:ak)(d:Nat)(e:TypeId)(f:Nat)(g:Int):ak:=pB a b c d e f g .an
abbrev nI(a b:Nat)(c d:SE)(e:ak):ak:=.bind (.cat a b c d) e
abbrev Pb(a:BinOp)(b c:Nat)(d:Int):SE:=lY a (vU b c) d
abbrev tI(a:TypeId)(b c:SE):SE:=zz .eql a b c
abbrev wm(a:SE)(b:ak):ak:=.bj (.rw a) b
abbrev ga(a:SE)(b:Nat)(c:SE)(d e:ak):ak:=Pa (Hs a b c d e)
abbrev uM(a:Nat)(b:SE):ak:=.next a (mM b)
abbrev lZ(a b:Nat)(c:ak):ak:=.bj (GH a b) c
abbrev ej:SE:=.var 5
abbrev tJ(a b c d:Nat):SE:=pA a b c d .an
abbrev anG(a:Nat)(b:TypeId)(c:Nat)(d:Int)(e:Nat):ak:=aa5 a b c d (mN e)
abbrev anH(a:SE)(b:Int):ak:=wm a (jV b)
abbrev V7(a:Nat)(b:SE)(c:Nat)(d:SE)(e:Nat)(f g:ak):ak:=Ks a b (gn c d e f) g
abbrev iF:ak:=.ret pC
abbrev yp(a:Nat)(b:SE)(c:ak)(d:Nat)(e:TypeId)(f:Nat)(g:Int):ak:=nH (gC a) b c d e f g
abbrev qL(a:FuncId)(b:SE)(c:ak):ak:=.call a ab b c
abbrev uN(a:BinOp)(b c:Nat)(d:Int)(e f:ak):ak:=.nt (Pb a b c d) e f
abbrev Pc(a:SE)(b:ak):ak:=aa6 dg a b
abbrev dh:SE:=gC 1
abbrev Ao(a:BinOp)(b:Nat)(c:Int):SE:=aa4 a 3 b c
abbrev Pd(a b:SE):SE:=.tp (BR a b)
abbrev yq(a b:SE):ak:=.ret (Pd a b)
abbrev Pe(a:Nat):SE:=GH 1 a
abbrev qM(a:FuncId)(b:SE)(c:Nat)(d:ak):ak:=ja a b (jU c d)
abbrev gp(a b:Int):ak:=anH (.i a) b
abbrev jW(a b:Nat)(c:SE)(d:ak):ak:=fK (jt a b) c d
abbrev qN(a b:Nat):SE:=mM (vU a b)
abbrev agc(a b:Nat):SE:=.ok (An a b)
abbrev rZ(a:SE)(b:BinOp)(c:SE)(d:Int)(e:ak):ak:=tG a b c d aU e
abbrev yr(a b c d e f:Nat)(g:ak):ak:=nG a (vU b c) d e f g
abbrev dq:SE:=gC 2
abbrev l5(a b c:Nat)(d:SE)(e:ak):ak:=nI a b (.var c) d e
abbrev Ht(a:SE)(b:Nat)(c d:ak):ak:=mq a (tH b) c d
abbrev fe(a:Nat):SE:=vU a 0
abbrev Pf(a:Nat):SE:=GH 0 a
abbrev Kt(a:Nat):SE:=.tr a .an
abbrev anI(a b c d e f g:Nat)(h:SE):SE:=anF a 0 b c d e f g h
abbrev anJ(a b c d e f:Nat)(g:SE):SE:=anI a b 1 c d e f g
abbrev anK(a b c d e:Nat)(f:SE):SE:=anJ a b c 2 d e f
abbrev aa7(a b c d:Nat)(e:SE):SE:=anK a b c d 3 e
abbrev anL(a b:Nat)(c:ak)(d:Nat)(e:TypeId)(f:Nat)(g:Int):ak:=yp a (tH b) c d e f g
abbrev l6:SE:=.var 2
abbrev qO(a:Int):SE:=.k .u8 a
abbrev pD(a:Nat)(b:Int):SE:=Ao .sub a b
abbrev Hu(a:TypeId)(b c:SE)(d e:ak):ak:=.nt (tI a b c) d e
abbrev Aq(a b:Nat)(c d:ak):ak:=Ht (gC a) b c d
abbrev anM(a:Nat)(b:SE)(c d:Nat):SE:=.Ea a b (.var c) d
abbrev qP(a:FuncId)(b c:SE)(d:ak):ak:=ly a (BR b c) d
abbrev gq:SE:=Pe 2
abbrev yu(a:Nat)(b c d:SE)(e:ak):ak:=.bind (.sub a b c d) e
abbrev Pj(a:SE)(b:ak):ak:=fK bC a b
abbrev yv(a:Nat)(b:SE)(c:Nat)(d:SE)(e:Nat)(f g:ak):ak:=Pa (V7 a b c d e f g)
abbrev jG:SE:=.len ej
abbrev IH(a b c:Nat):SE:=.bS (An a b) c
abbrev e_:SE:=Kt 1
abbrev jH:SE:=.var 8
abbrev fj:SE:=kf 1
abbrev jI(a:Nat):SE:=vU a 1
abbrev fD(a b:SE)(c:Int)(d:ak):ak:=rZ a .gtr b c d
abbrev iJ:SE:=Pe 3
abbrev FH(a:Int):ak:=.ret (qO a)
abbrev ajs(a b:Nat)(c:Int)(d:SE):ak:=aa5 a 3 b c d
abbrev NF(a b:Nat)(c:SE):ak:=ajs a b 1 c
abbrev kg(a b:Nat):ak:=NF a b .an
abbrev iK(a b c d:Nat):SE:=aa7 a b c d .an
abbrev nJ(a:Nat)(b:SE)(c:ak):ak:=fK (gC a) b c
abbrev ajt(a b c d e f g h:Nat):SE:=aa7 a b c d (tJ e f g h)
abbrev gi:SE:=Pf 1
abbrev aju(a b:Nat)(c:Int)(d:Nat):ak:=anG a 3 b c d
abbrev wQ(a b c:Nat):ak:=aju a b 1 c
abbrev BS(a:Nat):ak:=uM a Ej
abbrev u5(a b:Nat)(c:SE)(d:ak)(e:Nat)(f:TypeId)(g:Nat)(h:Int):ak:=nH (jt a b) c d e f g h
abbrev jj:SE:=.var 10
abbrev my:SE:=jI 0
abbrev V8:SE:=.rw Ej
abbrev jJ(a b:SE)(c:Nat)(d:SE)(e f:ak):ak:=Pc a (Hs b c d e f)
abbrev jK:SE:=.var 11
abbrev jL:ak:=BS 4
abbrev u6(a b:SE)(c d:ak):ak:=mq a (nE b) c d
abbrev u7(a:BinOp)(b:TypeId)(c:SE)(d:Int):SE:=zz a b c (qO d)
abbrev ajv(a:Nat)(b:Int):SE:=Ao .add a b
abbrev ajw(a:Nat)(b:Int):SE:=Ao .geq a b
abbrev wR(a:BinOp)(b c:SE):SE:=zz a 3 b c
abbrev zB(a:Nat):SE:=GH a 3
abbrev ajx(a:TypeId)(b:SE)(c:List UInt8)(d e:ak):ak:=Hu a b (.s c) d e
abbrev NG(a b:SE):ak:=yq a (mM b)
abbrev jM(a:SE)(b:Nat)(c:SE)(d:Nat)(e:SE)(f:Nat)(g h:ak):ak:=ga a b c (gn d e f g) h
abbrev V9(a:SE)(b:Nat)(c:Int):ak:=NG a (pD b c)
abbrev acQ(a:SE)(b c:Nat)(d:SE):SE:=Ek a b c (mM d)
abbrev jk:SE:=.var 6
abbrev jl:SE:=Pf 2
abbrev wS(a:SE)(b c:ak):ak:=.nt (nE a) b c
abbrev ie:SE:=gC 5
abbrev lM(a:SE)(b:BinOp)(c d:SE)(e f:ak):ak:=mq a (wR b c d) e f
abbrev mz(a b:SE):SE:=wR .add a b
abbrev kh(a b:Nat)(c:ak):ak:=Aq a b aU c
abbrev iN:SE:=gC 4
abbrev nK(a:Nat):SE:=GH a 1
abbrev rq(a:Nat):SE:=vU a 2
abbrev k_:SE:=Pe 1
abbrev FI(a:Nat)(b:SE)(c d:ak):ak:=Pa (Ks a b c d)
abbrev tK:SE:=.rW bC
abbrev jm:SE:=gC 9
abbrev mA(a:FuncId)(b c d e:Nat)(f:ak):ak:=ja a (tJ b c d e) f
abbrev ru:ak:=.ret dg
abbrev acR(a:TypeId)(b:Nat)(c:SE):SE:=tI a (fe b) c
abbrev II(a:SE):SE:=.GF bC a
abbrev ajy(a:Nat):SE:=II (.var a)
abbrev ry(a:ak):ak:=Pj dh a
abbrev lN(a:SE)(b:Nat)(c:SE)(d:Nat)(e:SE)(f:Nat)(g h:ak):ak:=Pc a (V7 b c d e f g h)
abbrev jN:SE:=gC 3
abbrev ajz(a:Nat)(b:Int):ak:=V9 V8 a b
abbrev oM(a:FuncId)(b c:SE)(d:ak):ak:=qL a (BR b c) d
abbrev rz(a:Nat):SE:=ajv a 1
abbrev BU(a:Nat):SE:=ajw a 0
abbrev oN:SE:=.var 14
abbrev IJ(a b:Nat):ak:=wQ 1 a b
abbrev oO:SE:=zB 2
abbrev fE(a:Nat)(b:ak):ak:=lZ 1 a b
abbrev mB:SE:=.var 7
abbrev mC:SE:=kf 2
abbrev tL:SE:=kf 3
abbrev u9:SE:=.len jH
abbrev u_(a:Nat)(b:ak):ak:=.bj (rz a) b
abbrev ajA(a b c:Nat):SE:=.tr a (qN b c)
abbrev gM(a:Nat):SE:=GH a 2
abbrev acS(a:SE)(b:List UInt8)(c d:ak):ak:=ajx 9 a b c d
abbrev va(a:SE)(b:Int):SE:=lY .eql a b
abbrev lO(a b:SE):SE:=tI 3 a b
abbrev vb:ak:=.ret l6
abbrev zC(a:ak):ak:=.bj cb a
abbrev tM(a:BinOp)(b c:Nat)(d:Int)(e:ak)(f:BinOp)(g h:Nat)(i:Int)(j k:ak):ak:=uN a b c d e (uN f g h i j k)
abbrev qa(a:SE):SE:=.ok (.rw a)
abbrev oP:SE:=.var 4
abbrev oQ:SE:=Pf 3
abbrev FJ:SE:=.i (-1)
abbrev rA(a:Nat):ak:=IJ 4 a
abbrev rB:SE:=nK 2
abbrev rC:SE:=ajy 1
abbrev ajB(a:SE)(b c:Nat):SE:=anM 1 a b c
abbrev tN(a:SE)(b:Nat):SE:=ajB a b 0
abbrev ajC(a b:Nat)(c:ak)(d e:Nat)(f:Int):ak:=anL a b c d 3 e f
abbrev lP(a b:Nat)(c:ak)(d e:Nat):ak:=ajC a b c d e 1
abbrev qb(a:FuncId)(b:SE)(c d:Nat)(e:ak)(f g:Nat):ak:=ja a b (lP c d e f g)
abbrev oR(a:FuncId)(b c:SE)(d e:ak):ak:=ja a b (.nt c d e)
abbrev qc:SE:=.var 3
abbrev qd(a b:Nat)(c:TypeId)(d:Nat)(e:SE)(f:ak)(g:Nat)(h:TypeId)(i:Nat)(j:Int):ak:=u5 a b (acR c d e) f g h i j
abbrev tO(a:ak):ak:=.bj bC a
abbrev lg(a b:Nat):SE:=IH a 0 b
abbrev qe(a b:ak):ak:=.q8 a 1 b
abbrev vc(a:ak)(b:SE)(c d:ak):ak:=qe a (wS b c d)
abbrev NH(a b:SE)(c d:Int)(e:ak):ak:=u6 a b (gp c d) e
abbrev wT(a:SE)(b:Nat)(c:SE):SE:=lO (tN a b) c
abbrev ajD(a:List UInt8)(b c:ak):ak:=acS bC a b c
abbrev NI(a:List UInt8)(b:ak):ak:=ajD a iF b
abbrev IK(a b:List UInt8)(c:ak):ak:=NI a (NI b c)
abbrev jO(a:Nat):SE:=agc a 1
abbrev rD:SE:=.var 9
abbrev rE:SE:=Kt 4
abbrev lh(a b c d e:Nat)(f:ak):ak:=yr a 1 b c d e f
abbrev nL(a b:SE)(c:Int)(d e:ak):ak:=tG a .eql b c d e
abbrev ajE(a b c d e f g:Nat):SE:=ajt a b c d e 4 f g
abbrev oS(a b c d e f:Nat):SE:=ajE a b c d e f 5
abbrev acT(a:BinOp)(b c:Nat)(d:Int)(e:ak):ak:=uN a b c d e aU
abbrev acU(a:Nat)(b:SE):SE:=.tr a (mM b)
abbrev oT:SE:=gC 8
abbrev wU:SE:=zB 15
abbrev tP(a b c d:Nat)(e:SE)(f:ak):ak:=l5 a b c (acU d e) f
abbrev ve:SE:=.var 13
abbrev ajF(a:SE)(b:Int):SE:=lY .sub a b
abbrev ajG:SE:=rq 6
abbrev vf:SE:=rq 0
abbrev vg:SE:=jI 2
abbrev rF(a b c d e f:Nat):SE:=aa7 a b c d (qN e f)
abbrev vh:SE:=zB 4
abbrev tQ(a:Nat):ak:=uM a pC
abbrev zD(a b:SE):SE:=.idx 1 a b
abbrev jP(a:Nat)(b:ak):ak:=wk a 0 b
abbrev rG(a:Nat):SE:=vU a 3
abbrev tR(a:SE)(b:Nat)(c:SE)(d e:ak):ak:=Pc a (Ks b c d e)
abbrev tS:SE:=Pe 4
abbrev ajH(a b:Nat)(c:SE)(d:Nat)(e f:ak):ak:=yv a cb b c d e f
abbrev nM(a b c:Nat)(d e:ak):ak:=ajH a b bC c d e
abbrev V_(a:BinOp)(b:TypeId)(c:Int):SE:=u7 a b bC c
abbrev tT:SE:=fe 0
abbrev BV:ak:=.ret V8
abbrev zE(a b:Nat):ak:=.next a (mN b)
abbrev zF(a:SE):ak:=.ret (.rws a)
abbrev tU(a b c d:SE):SE:=zA a b (BR c d)
abbrev wV:SE:=jI 1
abbrev zG:SE:=nK 15
abbrev tV(a:SE)(b:Int):SE:=lY .leq a b
abbrev wW:SE:=rq 1
abbrev wX:SE:=gM 2
abbrev rH:SE:=gC 6
abbrev vi:SE:=Pe 0
abbrev vj:SE:=fe 6
abbrev wY(a b:Nat)(c:SE):ak:=NF a b (mM c)
abbrev ajI(a:FuncId)(b:SE)(c d:Nat)(e:SE)(f:ak):ak:=ly a (acQ b c d e) f
abbrev wZ(a b c:Nat):SE:=.sx a (An b c)
abbrev qf(a b c d:Nat)(e:ak):ak:=nG a bC b c d e
abbrev ajJ(a:TypeId)(b:Nat)(c:SE):SE:=rp4 .add a b c
abbrev ajK(a:Int):ak:=ajz 0 a
abbrev qg:ak:=ajK 1
abbrev oU(a b:Nat):ak:=wQ 0 a b
abbrev oV(a b:Nat):SE:=ajA 1 a b
abbrev rI(a:Nat)(b c:SE)(d:ak):ak:=yu a b dg c d
abbrev vl(a:Nat)(b:FuncId)(c d:SE)(e:ak):ak:=jU a (qP b c d e)
abbrev w6(a:TypeId)(b c d:SE)(e:ak):ak:=.bind (.ins a b c d) e
abbrev Wa(a:TypeId)(b:Int):SE:=V_ .leq a b
abbrev Wb(a:SE):ak:=.ret (.rw a)
abbrev FK:ak:=Wb pC
abbrev ajL(a:SE):SE:=mM (mM a)
abbrev ajM(a:SE)(b c:Nat)(d:SE):SE:=acQ (ajL a) b c d
abbrev zH:SE:=rG 1
abbrev zI:ak:=FH 0
abbrev zJ:SE:=zB 6
abbrev w7(a:ak):ak:=Pj cb a
abbrev w8:SE:=.var 0
abbrev vm(a:FuncId)(b c d e f:Nat)(g:ak):ak:=qM a (iK b c d e) f g
abbrev w9:ak:=jV 2
abbrev w_(a:Nat):SE:=agc a 0
abbrev xc:SE:=Pf 0
abbrev zK(a:SE):SE:=zD ej a
abbrev BW(a:Nat):ak:=.nr (w_ a)
abbrev ajN(a:Nat)(b:SE)(c d:Int)(e:ak):ak:=NH (BU a) b c d e
abbrev zL(a b:Nat)(c d:Int)(e:ak):ak:=ajN a (BU b) c d e
abbrev rJ(a:SE):SE:=ajF a 1
abbrev zM(a b:Nat)(c d:SE):ak:=NF a b (BR c d)
abbrev xf(a:FuncId)(b:SE)(c:ak):ak:=qL a (mM b) c
abbrev Wc(a:Nat)(b:SE):SE:=ajJ 3 a b
abbrev rK(a b:SE)(c:Int)(d e:ak):ak:=tG a .gtr b c d e
abbrev vn(a:Nat)(b:SE)(c d e f g:Nat)(h i:ak):ak:=FI a b (lh c d e f g h) i
abbrev Wd(a b c:Nat):SE:=tJ a b c 1
abbrev NJ(a b:Nat):SE:=Wd a 0 b
abbrev ajO(a:Nat):SE:=NJ 0 a
abbrev rL:SE:=ajO 0
abbrev xg(a:FuncId)(b:SE)(c d:Nat)(e:SE)(f:ak):ak:=qL a (ajM b c d e) f
abbrev vo(a b:Nat)(c:Int):SE:=Pb .eql a b c
abbrev vp(a:Nat)(b:SE)(c:ak):ak:=vV a ajG b c
abbrev xh(a b c d:Nat)(e:ak):ak:=jW a b (jt c d) e
abbrev BX:SE:=.tp .an
abbrev BY:SE:=.var 23
abbrev BZ:SE:=.var 22
abbrev zN:SE:=gC 10
abbrev B8:ak:=rA 5
abbrev FL(a:SE):SE:=Wc 2 a
abbrev FM:SE:=FL tL
abbrev zO:SE:=gC 11
abbrev FN:SE:=nK 16
abbrev rM(a:Nat):SE:=vU a 4
abbrev FO:SE:=mM pC
abbrev xi:SE:=gC 7
abbrev NK(a:SE)(b c:ak):ak:=acS a [] b c
abbrev We(a:SE)(b:ak):ak:=NK a b aU
abbrev vq(a:FuncId)(b c:Nat)(d:SE)(e:ak):ak:=ajI a bC b c d e
abbrev zP(a:FuncId)(b:SE)(c:Nat)(d:SE)(e:ak):ak:=ja a b (nJ c d e)
abbrev acV(a:Nat):SE:=An 3 a
abbrev B9:SE:=acV 1
abbrev B_(a:SE):ak:=yq FJ a
abbrev ajP(a:Nat):SE:=tN l6 a
abbrev Ca:SE:=ajP 4
abbrev oW(a:BinOp)(b:Nat)(c:Int)(d:ak):ak:=acT a 0 b c d
abbrev IL(a:ak):ak:=ry (zC a)
abbrev FP(a:Nat)(b c:ak):ak:=.test (rM a) b c
abbrev FQ(a b:SE)(c:ak):ak:=.bj (zD a b) c
abbrev vt(a:Nat):ak:=kg 0 a
abbrev FR(a:ak):ak:=We my a
abbrev FT(a:Int):SE:=va iJ a
abbrev Cb(a:TypeId)(b c:SE)(d:ak):ak:=.bind (.has a b c) d
abbrev Cc:SE:=fe 1
abbrev ajQ(a:SE)(b:Int)(c:ak):ak:=.nt a (FH b) c
abbrev Cd(a:TypeId)(b c:Int)(d:ak):ak:=ajQ (Wa a b) c d
abbrev Ce:SE:=kf 4
abbrev Cf:SE:=Pf 4
abbrev vu(a:Nat)(b:BinOp)(c d:SE)(e:ak)(f:Nat)(g:TypeId)(h:Nat)(i:Int):ak:=yp a (wR b c d) e f g h i
abbrev IM:ak:=.fail 146
abbrev Cg:SE:=.i 200
abbrev vw(a:FuncId)(b c d e f g h:Nat)(i:ak):ak:=qM a (oS b c d e f g) h i
abbrev zQ:SE:=.s []
abbrev FU:SE:=fe 10
abbrev FV:SE:=acV 0
abbrev FW:SE:=rG 4
end Go.Ev
