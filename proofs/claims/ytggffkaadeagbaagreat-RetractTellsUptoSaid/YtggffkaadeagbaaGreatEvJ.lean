/- Lemmas over the model, without conditions of their own: code run on expressions, definitions. -/
import Derived.Test.YtggffkaadeagbaaGreatEvI
open Nat renaming beq->asW,ble->atN,blt->atQ,rec->av6,eq_of_beq_eq_true->asV,add_mul->atq,le_refl->asR,le_trans->atd
open List renaming replicate->ate,range->aup,getElem?_append_left->asY,getElem?_eq_some_iff->asM,getElem?_eq_getElem->asL,flatMap_cons->ave
open Go.Utf8 renaming decode->auE
open Option renaming bind_eq_some_iff->as_
open Option.some renaming injEq->asP
open Prod.mk renaming injEq->ati
open Option renaming some->aa,none->ah
open Bool renaming true->ab,false->af
set_option linter.all false
namespace Go.Ev
inductive SE where
 |var (i:Nat)
 |i (n:Int)
 |k (k:IntKind) (n:Int)
 |b (t:Bool)
 |s (l:List UInt8)
 |raw (v:Value)
 |ok (e:SE)
 |sQ (n:Nat) (e:SE)
 |bT (e:SE) (j:Nat)
 |idx (s:Nat) (e i:SE)
 |G2 (s:Nat) (e i:SE) (j:Nat)
 |len (e:SE)
 |sx (e:SE)
 |an
 |ac (a r:SE)
 |tr (s:Nat) (r:SE)
 |tp (r:SE)
 |cat (s bytes:Nat) (e f:SE)
 |Ez (s:Nat) (e i x:SE)
 |sub (s:Nat) (e lo hi:SE)
 |Py (s:Nat) (e lo z:SE)
 |proj (e:SE) (j:Nat)
 |bin (op:BinOp) (t:TypeId) (a b:SE)
 |un (op:UnOp) (a:SE)
 |cv (src dst:TypeId) (a:SE)
 |mx (EA:Bool) (a b:SE)
 |G3 (e i:SE)
 |HK (e lo hi:SE)
 |rw(e:SE)
 |rws (e:SE)
 |has (kt:TypeId) (m key:SE)
 |get (kt:TypeId) (m key z:SE)
 |ins (kt:TypeId) (m key x:SE)
 |dec (w:Nat) (a p:SE)
 deriving Inhabited
inductive ak where
 |fail (why:Nat)
 |ret (e:SE)
 |test (e:SE) (a b:ak)
 |two (e:SE) (a b:ak)
 |bind (e:SE) (k:ak)
 |aS (e:SE) (k:ak)
 |call (f:FuncId) (new:Bool) (args:SE) (k:ak)
 |loop (init:SE) (body:ak)
 |pick (es x:SE) (a b:ak)
 |same (es x:SE) (k:ak)
 |uniq (k:ak)
 |kP (body:ak) (m:Nat) (cont:ak)
 |next (lv:Nat) (args:SE)
 |bad (d f id n0 nm:Nat) (hd:List (Nat×Nat×PV SE)) (hl:List (LO SE)) (g:List (Nat×Nat×PV SE)) (l:List (LO SE))
 deriving Inhabited
section eqs
def agL(a b:IntKind):Bool:=a==b
def mb{α:Type}(f:α->α->Bool):List α->List α->Bool
 |[],[]=>ab
 |a::as,b::bs=>f a b&&mb f as bs
 |_,_=>af
def SE.eq:SE->SE->Bool
 |.var x,.var y=>asW x y
 |.i x,.i y=>x==y
 |.k j x,.k j' y=>agL j j'&&x==y
 |.b x,.b y=>x==y
 |.s x,.s y=>mb (·==·) x y
 |.ok x,.ok y=>x.eq y
 |.bT e j,.bT f j'=>asW j j'&&e.eq f
 |.idx q e x,.idx q' e' x'=>asW q q'&&e.eq e'&&x.eq x'
 |.G2 q e x j,.G2 q' e' x' j'=>asW q q'&&asW j j'&&e.eq e'&&x.eq x'
 |.len e,.len f=>e.eq f
 |.sx e,.sx f=>e.eq f
 |.an,.an=>ab
 |.ac a r,.ac a' r'=>a.eq a'&&r.eq r'
 |.tr q r,.tr q' r'=>asW q q'&&r.eq r'
 |.tp r,.tp r'=>r.eq r'
 |.proj e j,.proj f j'=>asW j j'&&e.eq f
 |.bin op t x y,.bin op' t' x' y'=>op==op'&&asW t t'&&x.eq x'&&y.eq y'
 |.un op x,.un op' x'=>op==op'&&x.eq x'
 |.cv q d x,.cv q' d' x'=>asW q q'&&asW d d'&&x.eq x'
 |.mx t x y,.mx t' x' y'=>t==t'&&x.eq x'&&y.eq y'
 |.rw x,.rw y=>x.eq y
 |.G3 e x,.G3 e' x'=>e.eq e'&&x.eq x'
 |.dec w e x,.dec w' e' x'=>asW w w'&&e.eq e'&&x.eq x'
 |_,_=>af
end eqs
structure SS where
 g:List (Nat×Nat×PV SE)
 l:List (LO SE)
 n:Nat
 lv:Nat
 nt:Nat
 deriving Inhabited
def SS.ln(V:SS):Nat×Nat:=(V.lv,V.nt)
structure Hint where
 d:Nat
 f:Nat
 id:Nat
 I2:List (Nat×Nat×Nat)
 yx:List (Nat×Nat)
 drop:List (Nat×Nat)
 yy:List (Nat×Nat×Nat)
 deriving Inhabited
structure a_ where
 pure:List Nat
 iw:List Nat
 stop:List Nat
 hints:List Hint
 rows:List Nat
section run
variable(P:Program)(cfg:a_)
def fieldAt(s:TypeId)(f:Nat):Option (Nat×Nat):=
 match P.underlying s with
 |some (.struct fields)=>match fields[f]? with
  |some fd=>match aN P fd.type with
   |some sz=>aa (fd.offset,sz)
   |none=>ah
  |none=>ah
 |_=>ah
def elemOf(t:TypeId):Option TypeId:=
 match P.underlying t with
 |some (.slice e)=>aa e
 |_=>ah
def sR:Nat->TypeId->List TypeId
 |0,_=>[]
 |n+1,t=>match P.underlying t with
  |some (.struct fields)=>fields.toList.flatMap λf=>sR n f.type
  |some (.array m e)=>(ate m (sR n e)).flatten
  |_=>[t]
def FV(t:TypeId):Bool:=
 match P.underlying t with
 |some .bool|some (.int _)|some .string=>ab
 |_=>af
def yz(t:TypeId):Value->Cl SE
 |.bool b=>.v (.b b)
 |.int .i64 n=>.v (.i n)
 |.int k n=>.v (.k k n)
 |.string b=>.v (.s b.data.toList)
 |.slice ah 0 0=>match(elemOf P t).bind (aN P)with
  |some s=>if asW s 0 then .v (.raw (.slice ah 0 0))else .nl ab s
  |none=>.v (.raw (.slice ah 0 0))
 |.agg _|.tuple _=>.un
 |v=>.v (.raw v)
def Wg{α β γ:Type}(f:α->β->γ):List α->List β->List γ
 |a::as,b::bs=>f a b::Wg f as bs
 |_,_=>[]
def KQ(t:TypeId):Value->PV SE
 |.agg cs=>if asW (sR P 9 t).length cs.toList.length then .ag (Wg (yz P) (sR P 9 t) cs.toList)else .one .un
 |v=>.one (yz P t v)
def zeroCells(t:TypeId):List (Cl SE):=
 match cy P t with
 |some z=>if asW (sR P 9 t).length z.cells.toList.length then Wg (yz P) (sR P 9 t) z.cells.toList else z.cells.toList.map λ_=>.un
 |none=>[]
def isAgg(t:TypeId):Bool:=(ra P t)==aa ab
def bO(d:Nat)(V:SS)(t:TypeId):Operand->PV SE
 |.tmp x=>(cA d x V.g).getD (.one .un)
 |.const v=>KQ P t v
 |.func f=>.one (.fn f [])
 |.global _=>.one .un
def eI{α:Type}:PV α->List (Cl α)
 |.one c=>[c]
 |.ag cs=>cs
 |.tu _=>[.un]
def sy:List (Cl SE)->Bool
 |[]=>ab
 |.un::_=>af
 |_::cs=>sy cs
def SS.bP(V:SS)(d:Nat)(dst:Option Nat)(pv:PV SE):SS:=
 match dst with
 |none=>V
 |some t=>{V with g:=Pq d t pv V.g}
def SS.jT(V:SS)(d:Nat)(dst:Option Nat):SS:=
 match dst with
 |none=>V
 |some t=>{V with g:=BS d t V.g}
def SS.sS(V:SS)(k:Nat):SS:={V with g:=IZ k V.g,l:=V.l.map (LO.drop k)}
def SS.setObj(V:SS)(k:Nat)(o:LO SE):SS:={V with l:=V.l.set k o}
def d_:List SE->SE
 |[]=>.an
 |a::as=>.ac a (d_ as)
def pY(k:Nat)(V:SS):SS:=
 match V.l[k]? with
 |some (.row s af cut fr es)=>V.setObj k (.row s ab cut fr es)
 |_=>V
def wW(V:SS):Cl SE->Option (Bool×SE×SS)
 |.v z=>aa (ab,z,V)
 |.w fr z=>aa (fr,z,V)
 |.nl _ s=>aa (af,.tr s .an,V)
 |.sr k=>match V.l[k]? with
  |some (.row _ _ _ fr es)=>aa (fr,es,pY k V)
  |_=>ah
 |_=>ah
def tS(V:SS):List (Cl SE)->Option (Bool×List SE×SS)
 |[]=>aa (af,[],V)
 |c::cs=>match wW V c with
  |some (f1,z,V)=>match tS V cs with
   |some (f2,zs,V)=>aa (f1||f2,z::zs,V)
   |none=>ah
  |none=>ah
def tT(V:SS):PV SE->Option (Bool×SE×SS)
 |.one c=>wW V c
 |.ag cs=>match tS V cs with
  |some (f,zs,V)=>aa (f,d_ zs,V)
  |none=>ah
 |.tu vs=>match Pz V vs with
  |some (f,zs,V)=>aa (f,.tp (d_ zs),V)
  |none=>ah
where Pz (V:SS):List (Bool×List (Cl SE))->Option (Bool×List SE×SS)
 |[]=>aa (af,[],V)
 |(a,cs)::vs=>match tS V cs with
  |some (f1,zs,V)=>match Pz V vs with
   |some (f2,ys,V)=>match a,zs with
    |true,zs=>aa (f1||f2,d_ zs::ys,V)
    |false,[z]=>aa (f1||f2,z::ys,V)
    |_,_=>ah
   |none=>ah
  |none=>ah
def u6:List (Cl SE)->Bool
 |[]=>ab
 |.v _::cs=>u6 cs
 |.nl _ _::cs=>u6 cs
 |_::_=>af
def oY:PV SE->Bool
 |.one c=>u6 [c]
 |.ag cs=>u6 cs
 |.tu _=>af
def ofType(t:TypeId)(e:SE):PV SE:=
 if isAgg P t then .ag ((aup ((aN P t).getD 0)).map λj=>.v (.bT e j))else .one (.v (.ok e))
def rU(t:TypeId)(e:SE)(k:ak):ak:=if isAgg P t then .aS (.sQ ((aN P t).getD 0) e) k else .aS (.ok e) k
def PA(e:SE):Nat->List TypeId->ak->ak
 |_,[],k=>k
 |j,t::ts,k=>rU P t (.proj e j) (PA e (j+1) ts k)
def vk(e:SE)(V:SS)(k:PV SE->SS->ak):ak:=.aS e (k (.one (.v e)) V)
def KR(e:SE):Nat->List TypeId->List (Bool×List (Cl SE))
 |_,[]=>[]
 |j,t::ts=>(isAgg P t,eI (ofType P t (.proj e j)))::KR e (j+1) ts
def iz(d:Nat)(V:SS):List Operand->List TypeId->List (PV SE)
 |x::xs,t::ts=>bO P d V t x::iz d V xs ts
 |x::xs,[]=>bO P d V 0 x::iz d V xs []
 |[],_=>[]
def PB(d:Nat)(V:SS):List Operand->Option (List (Nat×Nat))
 |[]=>aa []
 |x::xs=>match bO P d V 0 x with
  |.one (.pt k 0 ext)=>match PB d V xs with
   |some l=>aa ((k,ext)::l)
   |none=>ah
  |_=>ah
def A4(cells:List (Cl SE))(off:Nat)(new:List (Cl SE)):List (Cl SE):=cells.take off++new++cells.drop (off+new.length)
def nW(get:Nat->Operand->List (Cl SE))(place:Nat->Option (Nat×Nat)):List (Nat×Operand)->List (Cl SE)->Option (List (Cl SE))
 |[],cs=>aa cs
 |(j,x)::ps,cs=>match place j with
  |some (off,sz)=>
   let new:=get j x
   if sy new&&asW new.length sz&&atN (off+sz) cs.length then nW get place ps (A4 cs off new)else ah
  |none=>ah
def agM(fields:Array Field)(j:Nat):TypeId:=((fields[j]?).map (·.type)).getD 0
def ae4(fields:Array Field)(j:Nat):Option (Nat×Nat):=(fields[j]?).bind λf=>(aN P f.type).map λs=>(f.offset,s)
def TF(s j:Nat):Option (Nat×Nat):=aa (j*s,s)
def I3:SE->Bool
 |.i _|.k _ _|.b _|.s _=>ab
 |_=>af
def rdT(V:SS)(c:Cl SE)(t:TypeId):Option (Bool×SE×SS×List SE):=
 match c with
 |.v z=>if FV P t then aa (af,z,V,if I3 z then[]else[z])else aa (ab,z,V,[])
 |c=>match wW V c with
  |some (fr,z,V)=>aa (fr,z,V,[])
  |none=>ah
def KT(V:SS):List (Cl SE)->List TypeId->Option (Bool×List SE×SS×List SE)
 |[],_=>aa (af,[],V,[])
 |c::cs,t::ts=>match rdT P V c t with
  |some (f1,z,V,r1)=>match KT V cs ts with
   |some (f2,zs,V,r2)=>aa (f1||f2,z::zs,V,r1++r2)
   |none=>ah
  |none=>ah
 |_::_,[]=>ah
def yA(s:Nat):Nat->List SE->List SE
 |0,_=>[]
 |n+1,zs=>d_ (zs.take s)::yA s n (zs.drop s)
def PC(zero:List (Cl SE)):Nat->List (Cl SE)
 |0=>[]
 |n+1=>zero++PC zero n
def YJ(ts:List TypeId):Nat->List TypeId
 |0=>[]
 |n+1=>ts++YJ ts n
def Wh:List SE->ak->ak
 |[],k=>k
 |e::es,k=>.aS (.rw e) (Wh es k)
def newVar(V:SS)(e:SE)(k:SE->SS->ak):ak:=.bind e (k (.var V.n) {V with n:=V.n+1})
def newObj(V:SS)(o:LO SE)(k:Nat->SS->ak):ak:=k V.l.length {V with l:=V.l++[o]}
def Wi(t:TypeId)(a:PV SE)(V:SS)(k:PV SE->SS->ak):ak:=
 let ag:=isAgg P t
 match aN P t,ra P t with
 |none,_=>.fail 1
 |_,ah=>.fail 1
 |some s,aa _=>
  let out (cs:List (Cl SE)):ak:=if ag then(if asW cs.length s then k (.ag cs) V else .fail 2)else match cs with
   |[c]=>k (.one c) V
   |_=>.fail 3
  match a with
  |.one (.pt j off ext)=>match V.l[j]? with
   |some (.var cs)=>if atN s ext&&atN (off+s) cs.length then out ((cs.drop off).take s)else .fail 4
   |_=>.fail 5
  |.one (.tp cs)=>if atN s cs.length then out (((cs.map .v).drop 0).take s)else .fail 4
  |.one (.tw fr cs)=>if atN s cs.length then out (((cs.map (.w fr)).drop 0).take s)else .fail 4
  |.one (.pr j i off ext)=>match V.l[j]? with
   |some (.row sz _ _ fr es)=>if atN s ext then out ((((aup sz).map λq=>.w fr (.G2 sz es i q)).drop off).take s)else .fail 4
   |_=>.fail 6
  |_=>.fail 7
def A5(bytes:Nat)(s:Nat)(base:Cl SE)(fr:Bool)(es:SE)(V:SS)(k:PV SE->SS->ak):ak:=
 match base with
 |.nl _ s'=>if asW s s' then newVar V (.cat s bytes (.tr s .an) es) λz V=>newObj V (.row s af af fr z) λj V=>k (.one (.sr j)) V else .fail 10
 |.sr j=>match V.l[j]? with
  |some (.row s' st cut dg aF)=>
   if asW s s'&& !(st&&cut)then newVar V (.cat s bytes aF es) λz V=>k (.one (.sr j)) (((V.sS j)).setObj j (.row s st cut (fr||dg) z))else .fail 11
  |_=>.fail 12
 |_=>.fail 13
def aj8(j:Nat):Cl SE->Bool
 |.sr j'=> !asW j j'
 |_=>ab
def qx(V:SS)(et:TypeId)(s:Nat)(base:Cl SE):Cl SE->Option (Bool×SE×Bool)
 |.sr j=>match V.l[j]? with
  |some (.row s' _ _ fr es)=>if asW s s'&&aj8 j base then aa (fr,es,af)else ah
  |_=>ah
 |.nl _ _=>aa (af,.tr s .an,af)
 |.w fr z=>aa (fr,z,af)
 |.v z=>if(sR P 9 et).all (FV P)then aa (af,z,ab)else aa (ab,z,af)
 |_=>ah
def Oe(o:Option (LO SE))(s:Nat)(cut fr:Bool)(es:SE):Bool:=
 match o with
 |some (.row s' af u7 dg aF)=>asW s s'&&cut==u7&&fr==dg&&es.eq aF
 |_=>af
def FW(t:TypeId):Option SE:=
 match cy P t with
 |some (.bool b)=>aa (.b b)
 |some (.int q n)=>aa (.k q n)
 |some (.string b)=>aa (.s b.data.toList)
 |_=>ah
def FX:List (Cl SE)->Option (List SE)
 |[]=>aa []
 |.v e::ds=>match FX ds with
  |some es=>aa (e::es)
  |none=>ah
 |_::_=>ah
def wq:List (Cl SE)->Option (List SE)
 |[]=>aa []
 |c::ds=>match c with
  |.v e|.w _ e=>(wq ds).map (e::·)
  |.nl _ s=>(wq ds).map (.tr s .an::·)
  |_=>ah
def HL:PV SE->Option SE
 |.one (.v e)=>aa e
 |.one (.w _ e)=>aa e
 |.ag cs=>(wq cs).map d_
 |_=>ah
def KU(kt:TypeId)(m key x:PV SE)(V:SS)(k:PV SE->SS->ak):ak:=
 match m,HL key,HL x with
 |.one (.mp j),aa ke,aa xe=>match V.l[j]? with
  |some (.mp ma es)=>if asW kt ma&& !gI kt then newVar V (.ins kt es ke xe) λz V=>k (.one .un) (V.setObj j (.mp kt z))else .fail 63
  |_=>.fail 64
 |_,_,_=>.fail 65
def TG(kt et:TypeId)(m key:PV SE)(ok:Bool)(V:SS)(k:PV SE->SS->ak):ak:=
 match m,HL key,FW P et with
 |.one (.mp j),aa ke,aa z0=>match V.l[j]? with
  |some (.mp ma es)=>if asW kt ma&& !gI kt then newVar V (.ok (.rw (.get kt es ke z0))) λr V=>
    if ok then newVar V (.has kt es ke) λh V=>k (.tu [(af,[.v r]),(af,[.v h])]) V else k (.one (.v r)) V
   else .fail 67
  |_=>.fail 68
 |_,_,_=>.fail 69
def Of(t:TypeId):Bool:=
 match cy P t with
 |some (.agg cs)=>cs.toList.isEmpty
 |_=>af
def KV(kt et:TypeId)(m key:PV SE)(ok:Bool)(V:SS)(k:PV SE->SS->ak):ak:=
 match m,HL key,(match cy P et with|some (.agg _)=>wq (zeroCells P et)|_=>ah),aN P et with
 |.one (.mp j),aa ke,aa zs,aa n=>match V.l[j]? with
  |some (.mp ma es)=>if asW kt ma&& !gI kt then newVar V (.sQ n (.get kt es ke (d_ zs))) λr V=>
    let cs:List (Cl SE):=(aup n).map λj=>.w ab (.bT r j)
    if ok then newVar V (.has kt es ke) λh V=>k (.tu [(ab,cs),(af,[.v h])]) V else k (.ag cs) V
   else .fail 67
  |_=>.fail 68
 |_,_,_,_=>.fail 70
def KX(kt:TypeId)(m key:PV SE)(V:SS)(k:PV SE->SS->ak):ak:=
 match m,HL key with
 |.one (.mp j),aa ke=>match V.l[j]? with
  |some (.mp ma es)=>if asW kt ma&& !gI kt then .aS (.sQ 0 (.get kt es ke .an)) (newVar V (.has kt es ke) λh V=>k (.tu [(ab,[]),(af,[.v h])]) V)else .fail 67
  |_=>.fail 68
 |_,_=>.fail 69
def HM(d:Nat)(V:SS)(Wj:SE):Option Operand->Option SE
 |none=>aa Wj
 |some o=>match bO P d V 3 o with
  |.one (.v e)=>aa e
  |_=>ah
def stood(V:SS):Cl SE->Bool
 |.sr j=>match V.l[j]? with
  |some (.row _ st _ _ _)=>st
  |_=>af
 |_=>af
def KY(d:Nat)(t:TypeId)(x:PV SE)(lo hi mx:Option Operand)(V:SS)(k:PV SE->SS->ak):ak:=
 match P.underlying t,x,mx with
 |some (.slice el),.one c,ah=>match aN P el with
  |some s=>match c,lo,hi,stood V c with
   |.sr j,aa l,ah,af=>match V.l[j]?,bO P d V 3 l with
    |some (.row s' af cut fr es),.one (.v e)=>if asW s s' then .aS (.sub s es e (.len es)) (k (.one (.sv j e)) V)else .fail 24
    |_,_=>.fail 25
   |c,lo,hi,_=>match(match c with|.v _|.nl _ _|.sr _=>wW V c|_=>ah)with
    |some (fr,z,V2)=>match HM P d V (.i 0) lo,HM P d V (.len z) hi with
     |some l,aa h=>newVar V2 (.sub s z l h) λy V=>k (.one (.w fr y)) V
     |_,_=>.fail 26
    |none=>.fail 27
  |none=>.fail 28
 |_,_,_=>.fail 29
def YK(c:Call)(dp:List (PV SE))(V:SS)(k:PV SE->SS->ak):ak:=
 match(c.argTypes[0]?).bind P.underlying,dp with
 |some (.slice et),[.one (.sv j lo)]=>match V.l[j]?,cy P et with
  |some (.row s af cut fr es),aa z=>
   if asW z.cells.size s&&(isAgg P et||asW s 1)&&sy (zeroCells P et)&&asW (zeroCells P et).length s then
    match tS V (zeroCells P et)with
    |some (f,zs,V2)=>if Oe V2.l[j]? s cut fr es then newVar V2 (.Py s es lo (if isAgg P et then d_ zs else zs.headD .an)) λz V=>k (.one .un) (V.setObj j (.row s af cut (fr||f) z))else .fail 103
    |none=>.fail 103
   else .fail 104
  |_,_=>.fail 105
 |_,_=>.fail 106
def u9:PV SE->Option SE
 |.one (.v e)=>aa e
 |.one (.w _ e)=>aa e
 |_=>ah
def mxS(EA:Bool)(dp:List (PV SE))(V:SS)(k:PV SE->SS->ak):ak:=
 match dp with
 |[a,b]=>match u9 a,u9 b with
  |some a,aa b=>vk (.ok (.rw (.mx EA a b))) V k
  |_,_=>.fail 75
 |_=>.fail 76
def isStr(t:TypeId):Bool:=match P.underlying t with
 |some .string=>ab
 |_=>af
def HN(d:Nat)(x:PV SE)(lo hi mx:Option Operand)(V:SS)(k:PV SE->SS->ak):ak:=
 match u9 x,mx with
 |some a,ah=>match HM P d V (.i 0) lo,HM P d V (.sx a) hi with
  |some l,aa h=>newVar V (.HK a l h) λz V=>k (.one (.v z)) V
  |_,_=>.fail 20
 |_,_=>.fail 21
def Wk(d:Nat)(t:TypeId)(l c:Operand)(V:SS)(k:PV SE->SS->ak):ak:=
 match P.underlying t,bO P d V 0 l,u9 (bO P d V 0 c)with
 |some (.slice el),.one (.v (.i 0)),aa ce=>match aN P el,cy P el,(P.info? el).map (·.bytes)with
  |some s,aa z,aa bytes=>if !asW s 0&&asW z.cells.size s&&atN bytes 1000000&&(z.cells.toList.map IV.raw).all Ev.aj then
    .aS (.dec 7 ce (.b ab)) (newObj V (.row s af af af (.tr s .an)) λj V=>k (.one (.sr j)) V)else .fail 202
  |_,_,_=>.fail 202
 |_,_,_=>.fail 202
def Wl(t:TypeId)(e:SE):Bool×List (Cl SE):=
 if isAgg P t then(ab,(aup ((aN P t).getD 0)).map λj=>.w ab (.bT e j))else if FV P t then(af,[.v (.ok (.rw e))])else(af,[.w ab (.ok e)])
def I4(t:TypeId)(e:SE)(k:ak):ak:=
 if isAgg P t then .aS (.sQ ((aN P t).getD 0) e) k else if FV P t then .aS (.ok (.rw e)) k else .aS (.ok e) k
def YL(d:Nat)(it:Operand)(V:SS)(k:PV SE->SS->ak):ak:=
 match bO P d V 0 it with
 |.one (.mp j)=>match V.l[j]? with
  |some (.mp kt x)=>if atN 1000000 kt then(match V.l[kt % 1000000]?,P.underlying (kt/1000000- 1)with
   |some (.mp mc es),aa (.map _ et)=>if gI mc then .fail 191 else .same es x (I4 P mc (.proj (.proj x 2) 0) (I4 P et (.proj (.proj x 2) 1) (k (.tu [Wl P mc (.proj (.proj x 2) 0),Wl P et (.proj (.proj x 2) 1)]) V)))
   |_,_=>.fail 191)else .fail 191
  |_=>.fail 191
 |_=>.fail 191
def PD(d:Nat)(t:TypeId)(x:PV SE)(lo hi mx:Option Operand)(V:SS)(k:PV SE->SS->ak):Option ak:=
 match P.underlying t,x,lo,hi,mx with
 |some (.slice el),.one c,ah,aa h,ah=>match bO P d V 3 h,aN P el,c with
  |.one (.v (.i 0)),aa s,.nl ab s'=>if asW s s' then aa (k (.one (.nl ab s)) V)else ah
  |.one (.v (.i 0)),aa s,.sr j=>match V.l[j]? with
   |some (.row s' af _ fr es)=>if asW s s' then aa (.aS (.idx s es (.i 0)) (k (.one (.sr j)) ((V.sS j).setObj j (.row s af ab fr (.tr s .an)))))else ah
   |_=>ah
  |_,_,_=>ah
 |_,_,_,_,_=>ah
def gn(d:Nat)(o:Oper)(V:SS)(k:PV SE->SS->ak):ak:=
 match o.op with
 |.makeFunc (.func f) first cap=>if first.toList.isEmpty then match PB P d V cap.toList with
   |some bs=>k (.one (.fn f bs)) V
   |none=>.fail 60
  else .fail 61
 |.makeMap t r=>match r,P.underlying t with
  |none,aa (.map kt _)=>if gI kt then .fail 76 else newObj V (.mp kt (.tp .an)) λj V=>k (.one (.mp j)) V
  |_,_=>.fail 62
 |.makeSlice t l c=>Wk P d t l c V k
 |.mapUpdate t m key x|.insert t m key x=>match P.underlying t with
  |some (.map kt et)=>KU kt (bO P d V t m) (bO P d V kt key) (bO P d V et x) V k
  |_=>.fail 66
 |.lookup t m key ok=>match P.underlying t with
  |some (.map kt et)=>if ok&&Of P et then KX kt (bO P d V t m) (bO P d V kt key) V k else if isAgg P et then KV P kt et (bO P d V t m) (bO P d V kt key) ok V k else TG P kt et (bO P d V t m) (bO P d V kt key) ok V k
  |_=>.fail 70
 |.range t x=>match P.underlying t,u9 (bO P d V t x)with
  |some .string,aa a=>.aS (.sx a) (newObj V (.mp 0 (.tp (.ac a (.ac (.i 0) .an)))) λj V=>k (.one (.mp j)) V)
  |some (.map _ _),_=>match bO P d V t x with
   |.one (.mp m)=>match V.l[m]? with
    |some (.mp kt es)=>if gI kt|| !atQ m 1000000 then .fail 77 else .aS (.dec 9 es (.b ab)) (newObj V (.mp ((t+1)*1000000+m) (.tp (.ac es (.ac es .an)))) λj V=>k (.one (.mp j)) V)
    |_=>.fail 77
   |_=>.fail 77
  |_,_=>.fail 77
 |.next it ab=>match bO P d V 0 it with
  |.one (.mp j)=>match V.l[j]? with
   |some (.mp kt es)=>if asW kt 0 then .test (.dec 0 (.proj es 0) (.proj es 1))
     (newVar V (.tp (.ac (.proj es 0) (.ac (.dec 2 (.proj es 0) (.proj es 1)) .an))) λz V=>k (.tu [(af,[.v (.b ab)]),(af,[.v (.proj es 1)]),(af,[.v (.dec 1 (.proj es 0) (.proj es 1))])]) (V.setObj j (.mp 0 z)))
     (k (.tu [(af,[.v (.b af)])]) V)else .fail 78
   |_=>.fail 79
  |_=>.fail 79
 |.entry it=>YL P d it V k
 |.index t x ix=>match P.underlying t,u9 (bO P d V t x),u9 (bO P d V 0 ix)with
  |some .string,aa a,aa b=>vk (.G3 a b) V k
  |_,_,_=>.fail 74
 |.slice t x lo hi mx=>match PD P d t (bO P d V t x) lo hi mx V k with
  |some f=>f
  |none=>if isStr P t then HN P d (bO P d V t x) lo hi mx V k else KY P d t (bO P d V t x) lo hi mx V k
 |.call c=>match c.callee with
  |.builtin .clear=>YK P c (iz P d V c.args.toList c.argTypes.toList) V k
  |.builtin .cap=>match iz P d V c.args.toList c.argTypes.toList,(c.argTypes[0]?).bind P.underlying with
   |[.one (.nl ab _)],aa (.slice _)=>k (.one (.v (.i 0))) V
   |_,_=>.fail 207
  |.builtin .max=>mxS ab (iz P d V c.args.toList c.argTypes.toList) V k
  |.builtin .min=>mxS af (iz P d V c.args.toList c.argTypes.toList) V k
  |_=>.fail 201
 |_=>.fail 200
def Wm(et t1:TypeId)(base x:Cl SE)(V:SS)(k:PV SE->SS->ak):ak:=
 match P.underlying t1,base,x with
 |some (.int _),.nl ab s,.v n=>match aN P et,cy P et,FW P et,(P.info? et).map (·.bytes)with
  |some s',aa z,aa ze,aa bytes=>if asW s 1&&asW s' 1&&atN bytes 1000000&&asW z.cells.size 1&&(z.cells.toList.map IV.raw).all Ev.aj then
    newVar V (.dec 8 n ze) λe V=>newObj V (.row 1 af af af e) λj V=>k (.one (.sr j)) V else .fail 208
  |_,_,_,_=>.fail 208
 |_,_,_=>.fail 208
def fT(d:Nat)(o:Oper)(V:SS)(k:PV SE->SS->ak):ak:=
 let get (t:TypeId) (x:Operand):PV SE:=bO P d V t x
 match o.op with
 |.move x|.assign x=>k (get o.type x) V
 |.pick c a b=>match get 0 c with
  |.one (.v (.b ab))=>k (get o.type a) V
  |.one (.v (.b af))=>k (get o.type b) V
  |_=>.fail 40
 |.alloc t=>let cs:=zeroCells P t;if(cy P t).isNone then .fail 38 else newObj V (.var cs) λj V=>k (.one (.pt j 0 cs.length)) V
 |.box t x=>let cs:=eI (get t x);if !sy cs then .fail 39 else newObj V (.var cs) λj V=>k (.one (.pt j 0 cs.length)) V
 |.load t a=>Wi P t (get 0 a) V k
 |.store t a x=>match get 0 a with
  |.one (.pt j off ext)=>match V.l[j]? with
   |some (.var cs)=>
    let new:=eI (get t x)
    if sy new&&atN new.length ext&&atN (off+new.length) cs.length&&(aN P t)==aa new.length then k (.one .un) (V.setObj j (.var (A4 cs off new)))else .fail 41
   |_=>.fail 42
  |.one (.pr j i off ext)=>match V.l[j]? with
   |some (.row s af cut fr es)=>
    let new:=eI (get t x)
    if asW off 0&&asW new.length s&&asW s ext&&aN P t==aa s&&sy new&&(isAgg P t||asW s 1)then
     match tS V new with
     |some (f,zs,V2)=>if Oe V2.l[j]? s cut fr es then newVar V2 (.Ez s es i (if isAgg P t then d_ zs else zs.headD .an)) λz V=>k (.one .un) (V.setObj j (.row s af cut (fr||f) z))else .fail 43
     |none=>.fail 43
    else .fail 44
   |_=>.fail 45
  |_=>.fail 46
 |.nilCheck x=>match get 0 x with
  |.one (.pt a b c)=>k (.one (.pt a b c)) V
  |.one (.fn _ _)=>.fail 47
  |.one (.tp a)=>k (.one (.tp a)) V
  |_=>.fail 47
 |.binOp op t x y _=>match get t x,get t y with
  |.ag cs,.ag ds=>match tS V cs,tS V ds with
   |some (_,a,_),aa (_,b,_)=>vk (.ok (.bin op t (d_ a) (d_ b))) V k
   |_,_=>.fail 48
  |.one (.v a),.one (.v b)=>vk (.ok (.bin op t a b)) V k
  |.one (.w _ a),.one (.v b)=>vk (.ok (.bin op t a b)) V k
  |.one (.v a),.one (.w _ b)=>vk (.ok (.bin op t a b)) V k
  |.one (.w _ a),.one (.w _ b)=>vk (.ok (.bin op t a b)) V k
  |_,_=>.fail 50
 |.unOp op _ x=>match get 0 x with
  |.one (.v (.b t))=>match op with
   |.not=>k (.one (.v (.b (!t)))) V
   |_=>.fail 51
  |.one (.v a)=>vk (.ok (.un op a)) V k
  |.one (.w _ a)=>vk (.ok (.un op a)) V k
  |_=>.fail 52
 |.convert src dst x=>match get src x with
  |.one (.v a)=>vk (.ok (.cv src dst a)) V k
  |.one (.w _ a)=>vk (.ok (.cv src dst a)) V k
  |_=>.fail 53
 |.build t parts=>match P.underlying t with
  |some (.struct fields)=>
   if !(fields.all λf=>(aN P f.type).isSome)||(cy P t).isNone then .fail 53 else
   match nW (λj x=>eI (bO P d V (agM fields j) x)) (ae4 P fields) parts.toList (zeroCells P t)with
   |some cs=>k (.ag cs) V
   |none=>.fail 54
  |some (.array _ et)=>match aN P et with
   |some s=>if(cy P t).isNone then .fail 53 else
    match nW (λ_ x=>eI (bO P d V et x)) (TF s) parts.toList (zeroCells P t)with
    |some cs=>k (.ag cs) V
    |none=>.fail 55
   |none=>.fail 56
  |_=>.fail 56
 |.buildSlice t len parts=>match elemOf P t with
  |some et=>match aN P et,cy P et with
   |some s,aa z=>if asW s 0|| !asW z.cells.size s|| !atN (len*s) 1048576 then .fail 58 else
    if asW len 0 then(if parts.toList.isEmpty then k (.one (.nl af s)) V else .fail 58)else
    match nW (λ_ x=>eI (bO P d V et x)) (TF s) parts.toList (PC (zeroCells P et) len)with
    |some cs=>match KT P V cs (YJ (sR P 9 et) len)with
     |some (fr,zs,V,rws)=>if !(isAgg P et||asW s 1)then .fail 57 else
      Wh (if fr then[]else rws) (newObj V (.row s af af fr (.tr s (d_ (if isAgg P et then yA s len zs else zs)))) λj V=>k (.one (.sr j)) V)
     |none=>.fail 57
    |none=>.fail 57
   |_,_=>.fail 58
  |none=>.fail 59
 |.fieldAddr s x f=>match fieldAt P s f with
  |some (fo,sz)=>if asW sz 0 then .fail 71 else match get 0 x with
   |.one (.pt j off ext)=>if atN (fo+sz) ext then k (.one (.pt j (off+fo) sz)) V else .fail 72
   |.one (.tp cs)=>if atN (fo+sz) cs.length then k (.one (.tp ((cs.drop fo).take sz))) V else .fail 73
   |.one (.tw fr cs)=>if atN (fo+sz) cs.length then k (.one (.tw fr ((cs.drop fo).take sz))) V else .fail 73
   |.one (.pr j i off ext)=>if atN (fo+sz) ext then k (.one (.pr j i (off+fo) sz)) V else .fail 74
   |_=>.fail 75
  |none=>.fail 76
 |.field t x f=>match get t x,fieldAt P t f with
  |.ag cs,aa (fo,sz)=>match P.underlying t with
   |some (.struct fields)=>
    if atN (fo+sz) cs.length&&(ra P ((fields[f]?).map (·.type)|>.getD 0)).isSome then
     if isAgg P ((fields[f]?).map (·.type)|>.getD 0)then(if asW ((cs.drop fo).take sz).length sz then k (.ag ((cs.drop fo).take sz)) V else .fail 77)else match(cs.drop fo).take sz with
     |[c]=>k (.one c) V
     |_=>.fail 78
    else .fail 79
   |_=>.fail 79
  |_,_=>.fail 80
 |.indexAddr t x ix=>match P.underlying t,get 3 ix with
  |some (.slice et),.one (.v i)=>match aN P et with
   |some s=>match get t x with
    |.one (.v z)=>newVar V (.idx s z i) λe V=>rU P et e (k (.one (.tp (if isAgg P et then(aup s).map (λj=>.bT e j)else[.ok e]))) V)
    |.one (.w fr z)=>newVar V (.idx s z i) λe V=>rU P et e (k (.one (.tw fr (if isAgg P et then(aup s).map (λj=>.bT e j)else[.ok e]))) V)
    |.one (.sr j)=>match V.l[j]? with
     |some (.row s' _ _ _ es)=>if asW s s' then .aS (.idx s es i) (k (.one (.pr j i 0 s)) V)else .fail 81
     |_=>.fail 82
    |_=>.fail 83
   |none=>.fail 84
  |some (.array n et),.one (.v (.i i))=>match aN P et,get t x with
   |some s,.one (.pt j off ext)=>if !asW s 0&&decide (0<=i)&&atQ i.toNat n&&atN (i.toNat*s+s) ext then k (.one (.pt j (off+i.toNat*s) s)) V else .fail 85
   |some s,.one (.tp cs)=>.fail 86
   |_,_=>.fail 87
  |_,_=>.fail 88
 |.extract x i=>match get 0 x with
  |.tu vs=>match vs[i]? with
   |some (ab,cs)=>k (.ag cs) V
   |some (af,[c])=>k (.one c) V
   |_=>.fail 93
  |_=>.fail 94
 |.call c=>match c.callee with
  |.builtin b=>match b,iz P d V c.args.toList c.argTypes.toList with
   |.len,[pv]=>match(c.argTypes[0]?).bind P.underlying with
    |some .string=>match pv with
     |.one (.v z)=>vk (.sx z) V k
     |.one (.w _ z)=>vk (.sx z) V k
     |_=>.fail 96
    |some (.slice _)=>match pv with
     |.one (.v z)=>vk (.len z) V k
     |.one (.w _ z)=>vk (.len z) V k
     |.one (.nl _ _)=>k (.one (.v (.i 0))) V
     |.one (.sr j)=>match V.l[j]? with
      |some (.row _ _ _ _ es)=>vk (.len es) V k
      |_=>.fail 95
     |_=>.fail 96
    |some (.map _ _)=>match pv with
     |.one (.mp j)=>match V.l[j]? with
      |some (.mp kt es)=>if gI kt then .fail 95 else vk (.dec 9 es (.b ab)) V k
      |_=>.fail 95
     |_=>.fail 96
    |_=>.fail 96
   |.append,[.one base,.one x]=>match c.argTypes[0]?,c.argTypes[1]? with
    |some t0,aa t1=>match elemOf P t0,elemOf P t1 with
     |some et,aa _=>match aN P et,cy P et,(P.info? et).map (·.bytes)with
      |some s,aa z,aa bytes=>if asW s 0|| !asW z.cells.size s then .fail 97 else
       match qx P V et s base x with
       |some (fr,es,raw)=>if raw then .aS (.rws es) (A5 bytes s base fr es V k)else A5 bytes s base fr es V k
       |none=>.fail 98
      |_,_,_=>.fail 101
     |some et,ah=>Wm P et t1 base x V k
     |_,_=>.fail 102
    |_,_=>.fail 102
   |.len,_=>.fail 105
   |.append,_=>.fail 105
   |_,_=>gn P d o V k
  |_=>.fail 106
 |_=>gn P d o V k
inductive zC where
 |normal
 |exit (id:Nat)
 |ret
 |b_ (t:TypeId) (pv:PV SE)
abbrev Kx:=TypeId->PV SE->SS->ak
inductive Want where
 |run|skip|test (t:Nat) (e:SE) (want:Bool)|fail
def tU(ops:Array Oper)(d:Nat)(V:SS)(o:Oper):Want:=
 match o.guard with
 |none=>.run
 |some (j,want)=>match(ops[j]?).bind (·.dst)with
  |some t=>if !atQ t V.nt then .fail else match cA d t V.g with
   |some (.one (.v (.b x)))=>if x==want then .run else .skip
   |some (.one (.v e))=>.test t e want
   |some (.one (.w _ e))=>.test t e want
   |_=>.fail
  |none=>.fail
def A6(l:List (Nat×Nat×Nat))(d t j:Nat):Bool:=l.any λ(a,b,c)=>asW a d&&asW b t&&asW c j
def oZ(l:List (Nat×Nat))(a b:Nat):Bool:=l.any λ(c,d)=>asW a c&&asW b d
def agN(ch:Bool)(mode:Nat)(c:Cl SE)(n:Nat)(init:List SE):Cl SE×Nat×List SE:=
 match mode,c with
 |1,.v z=>(.v (.var n),n+1,z::init)
 |1,.nl _ s=>(.v (.var n),n+1,.tr s .an::init)
 |2,.v z=>(.w ab (.var n),n+1,z::init)
 |2,.w _ z=>(.w ab (.var n),n+1,z::init)
 |2,.nl _ s=>(.w ab (.var n),n+1,.tr s .an::init)
 |_,c=>
  if ch then match c with
   |.v z=>(.v (.var n),n+1,z::init)
   |.w fr z=>(.w fr (.var n),n+1,z::init)
   |c=>(c,n,init)
  else(c,n,init)
def Og(ch:Nat->Bool):Nat->List (Cl SE)->Nat->List SE->List (Cl SE)×Nat×List SE
 |_,[],n,init=>([],n,init)
 |j,c::cs,n,init=>
  let(c,n,init):=agN (ch j) 0 c n init
  let(cs,n,init):=Og ch (j+1) cs n init
  (c::cs,n,init)
def YM(h:Hint)(d t:Nat):Nat:=if A6 h.yy d t 2 then 2 else if A6 h.yy d t 1 then 1 else 0
def adt(ch:Nat->Bool):Nat->List (Bool×List (Cl SE))->Nat->List SE->List (Bool×List (Cl SE))×Nat×List SE
 |_,[],n,init=>([],n,init)
 |j,(a,cs)::vs,n,init=>
  let(cs,n,init):=Og ch j cs n init
  let(vs,n,init):=adt ch (j+cs.length) vs n init
  ((a,cs)::vs,n,init)
def KZ(h:Hint):List (Nat×Nat×PV SE)->Nat->List SE->List (Nat×Nat×PV SE)×Nat×List SE
 |[],n,init=>([],n,init)
 |(d,t,pv)::g,n,init=>
  if oZ h.drop d t then KZ h g n init else
  match pv with
  |.one c=>
   let(c,n,init):=agN (A6 h.I2 d t 0) (YM h d t) c n init
   let(g,n,init):=KZ h g n init
   ((d,t,.one c)::g,n,init)
  |.ag cs=>
   let(cs,n,init):=Og (A6 h.I2 d t) 0 cs n init
   let(g,n,init):=KZ h g n init
   ((d,t,.ag cs)::g,n,init)
  |.tu vs=>
   let(vs,n,init):=adt (A6 h.I2 d t) 0 vs n init
   let(g,n,init):=KZ h g n init
   ((d,t,.tu vs)::g,n,init)
def xN(d t:Nat)(V:SS):SS:=
 match cA d t V.g with
 |some (.one (.sr k))=>match V.l[k]? with
  |some (.row _ _ _ fr es)=>(pY k V).bP d (aa t) (.one (.w fr es))
  |_=>V
 |_=>V
def settle:List (Nat×Nat×Nat)->SS->SS
 |[],V=>V
 |(d,t,m)::ws,V=>settle ws (if asW m 2 then xN d t V else V)
def abJ(h:Hint):Nat->List (LO SE)->Nat->List SE->List (LO SE)×Nat×List SE
 |_,[],n,init=>([],n,init)
 |k,o::l,n,init=>
  let(o,n,init):=(match o with
   |.var cs=>
    let(cs,n,init):=Og (oZ h.yx k) 0 cs n init
    (LO.var cs,n,init)
   |.row s st cut fr es=>if oZ h.yx k 0 then(.row s (st||oZ h.yx k 1) (cut||oZ h.yx k 2) (fr||oZ h.yx k 3) (.var n),n+1,es::init)else(.row s (st||oZ h.yx k 1) (cut||oZ h.yx k 2) (fr||oZ h.yx k 3) es,n,init)
   |.mp kt es=>if oZ h.yx k 0 then(.mp kt (.var n),n+1,es::init)else(.mp kt es,n,init)
   |.dead=>(.dead,n,init):LO SE×Nat×List SE)
  let(l,n,init):=abJ h (k+1) l n init
  (o::l,n,init)
def A7(d t j:Nat)(V:SS):SS:=
 match cA d t V.g with
 |some (.one (.nl _ s))=>if asW j 0 then{V with l:=V.l++[.row s af af af (.tr s .an)],g:=Pq d t (.one (.sr V.l.length)) V.g}else V
 |some (.ag cs)=>match cs[j]? with
  |some (.nl _ s)=>{V with l:=V.l++[.row s af af af (.tr s .an)],g:=Pq d t (.ag (cs.set j (.sr V.l.length))) V.g}
  |_=>V
 |_=>V
def A8(k j:Nat)(V:SS):SS:=
 match V.l[k]? with
 |some (.var cs)=>match cs[j]? with
  |some (.nl _ s)=>{V with l:=V.l.set k (.var (cs.set j (.sr V.l.length)))++[.row s af af af (.tr s .an)]}
  |_=>V
 |_=>V
def u_(h:Hint):List (Nat×Nat×Nat)->SS->SS
 |[],V=>V
 |(d,t,j)::l,V=>u_ h l (if asW (YM h d t) 0 then A7 d t j V else V)
def va:List (Nat×Nat)->SS->SS
 |[],V=>V
 |(k,j)::l,V=>va l (A8 k j V)
def vb(h:Hint)(V:SS):SS:=va h.yx.reverse (u_ h h.I2.reverse V)
def tV:Cl SE->List Nat
 |.pt k _ _|.sr k|.sv k _|.pr k _ _ _|.mp k=>[k]
 |.fn _ bs=>bs.map (·.1)
 |_=>[]
def PE:PV SE->List Nat
 |.one c=>tV c
 |.ag cs=>cs.flatMap tV
 |.tu vs=>vs.flatMap λp=>p.2.flatMap tV
def reach(l:List (LO SE)):Nat->List Nat->List Nat->List Nat
 |0,_,seen=>seen
 |_,[],seen=>seen
 |n+1,k::ks,seen=>if seen.any (asW k)then reach l n ks seen else
  match l[k]? with
  |some (.var cs)=>reach l n (cs.flatMap tV++ks) (k::seen)
  |some (.mp kt _)=>reach l n (if atN 1000000 kt then(kt % 1000000)::ks else ks) (k::seen)
  |_=>reach l n ks (k::seen)
def marks(seen:List Nat):Nat->List (LO SE)->List (LO SE)
 |_,[]=>[]
 |k,o::os=>(if seen.any (asW k)then o else .dead)::marks seen (k+1) os
def gcS(V:SS):SS:={V with l:=marks (reach V.l 2000 (V.g.flatMap λp=>PE p.2.2) []) 0 V.l}
def SE.wX(n:Nat):SE->Bool
 |.var x=>atQ x n
 |.i _|.k _ _|.b _|.s _|.raw _|.an=>ab
 |.ok e|.sQ _ e|.bT e _|.len e|.sx e|.tr _ e|.tp e|.proj e _|.un _ e|.cv _ _ e|.rw e|.rws e=>e.wX n
 |.idx _ e f|.G2 _ e f _|.ac e f|.cat _ _ e f|.bin _ _ e f|.mx _ e f|.G3 e f|.has _ e f|.dec _ e f=>e.wX n&&f.wX n
 |.Ez _ e f g|.sub _ e f g|.Py _ e f g|.HK e f g|.ins _ e f g=>e.wX n&&f.wX n&&g.wX n
 |.get _ e f g=>e.wX n&&f.wX n&&g.wX n
structure Mt where
 args:List (Nat×SE)
 eg:List (Nat×Nat)
def sA{α:Type}(l:List (Nat×α))(k:Nat):Option α:=
 match l with
 |[]=>ah
 |(a,b)::l=>if asW a k then aa b else sA l k
def zD(n nm:Nat)(h e:SE)(m:Mt):Option Mt:=
 match h with
 |.var i=>if atQ i n then(if h.eq e then aa m else ah)else if atN nm i then ah else(match sA m.args i with
  |some e'=>if e'.eq e then aa m else ah
  |none=>aa {m with args:=(i,e)::m.args})
 |h=>if h.wX n&&h.eq e then aa m else ah
def PF(h e:Nat)(m:Mt):Option Mt:=
 match sA m.eg h with
 |some e'=>if asW e e' then aa m else ah
 |none=>if m.eg.any (λp=>asW p.2 e)then ah else aa {m with eg:=(h,e)::m.eg}
def PG(n nm:Nat):List SE->List SE->Mt->Option Mt
 |[],[],m=>aa m
 |a::as,b::bs,m=>match zD n nm a b m with
  |some m=>PG n nm as bs m
  |none=>ah
 |_,_,_=>ah
def agO:List (Nat×Nat)->List (Nat×Nat)->Mt->Option Mt
 |[],[],m=>aa m
 |(a,x)::as,(b,y)::bs,m=>if asW x y then(match PF a b m with
  |some m=>agO as bs m
  |none=>ah)else ah
 |_,_,_=>ah
def agP(n nm:Nat)(h e:Cl SE)(m:Mt):Option Mt:=
 match h,e with
 |.un,_=>aa m
 |.v a,.v b=>zD n nm a b m
 |.w f a,.w f' b=>if f|| !f' then zD n nm a b m else ah
 |.w f a,.v b=>if f then zD n nm a b m else ah
 |.v a,.nl _ s=>zD n nm a (.tr s .an) m
 |.w _ a,.nl _ s=>zD n nm a (.tr s .an) m
 |.nl a s,.nl b s'=>if a==b&&asW s s' then aa m else ah
 |.pt k o x,.pt k' o' x'=>if asW o o'&&asW x x' then PF k k' m else ah
 |.tp a,.tp b=>PG n nm a b m
 |.tw f a,.tw f' b=>if f|| !f' then PG n nm a b m else ah
 |.sr k,.sr k'=>PF k k' m
 |.mp k,.mp k'=>PF k k' m
 |.fn f a,.fn f' b=>if asW f f' then agO a b m else ah
 |_,_=>ah
def Oh(n nm:Nat):List (Cl SE)->List (Cl SE)->Mt->Option Mt
 |[],[],m=>aa m
 |a::as,b::bs,m=>match agP n nm a b m with
  |some m=>Oh n nm as bs m
  |none=>ah
 |_,_,_=>ah
def adu(n nm:Nat):List (Bool×List (Cl SE))->List (Bool×List (Cl SE))->Mt->Option Mt
 |[],[],m=>aa m
 |(x,a)::as,(y,b)::bs,m=>if x==y then(match Oh n nm a b m with
  |some m=>adu n nm as bs m
  |none=>ah)else ah
 |_,_,_=>ah
def aj9(n nm:Nat)(h e:PV SE)(m:Mt):Option Mt:=
 match h,e with
 |.one a,.one b=>agP n nm a b m
 |.ag as,.ag bs=>Oh n nm as bs m
 |.tu as,.tu bs=>adu n nm as bs m
 |_,_=>ah
def agQ(n nm:Nat)(g:List (Nat×Nat×PV SE)):List (Nat×Nat×PV SE)->Mt->Option Mt
 |[],m=>aa m
 |(d,t,pv)::h,m=>match cA d t g with
  |some Dy=>match aj9 n nm pv Dy m with
   |some m=>agQ n nm g h m
   |none=>ah
  |none=>ah
def aox(n nm:Nat)(h e:LO SE)(m:Mt):Option Mt:=
 match h,e with
 |.var cs,.var ds=>Oh n nm cs ds m
 |.row s st cut fr es,.row s' l8 u7 dg aF=>if asW s s'&&st==l8&&(cut|| !u7)&&(fr|| !dg)then zD n nm es aF m else ah
 |.mp kt es,.mp ma aF=>if asW kt ma then zD n nm es aF m else ah
 |.dead,_=>aa m
 |_,_=>ah
def abK(n nm:Nat)(l:List (LO SE)):Nat->List (LO SE)->Mt->Option Mt
 |_,[],m=>aa m
 |k,o::os,m=>
  match o with
  |.dead=>abK n nm l (k+1) os m
  |o=>match PF k ((sA m.eg k).getD k) m with
  |some m=>match l[(sA m.eg k).getD k]? with
   |some o'=>match aox n nm o o' m with
    |some m=>abK n nm l (k+1) os m
    |none=>ah
   |none=>ah
  |none=>ah
def PH(n:Nat)(m:Mt):Nat->List SE->Option (List SE)
 |0,acc=>aa acc
 |j+1,acc=>match sA m.args (n+j)with
  |some e=>PH n m j (e::acc)
  |none=>ah
def isLive(l:List (LO SE))(k:Nat):Bool:=
 match l[k]? with
 |some .dead|none=>af
 |_=>ab
def agR(l:List (LO SE))(k:Nat):Bool:=
 match l[k]? with
 |some (.mp _ _)=>ab
 |_=>af
def HO(H:SS):Bool:=
 (H.g.all λp=>(PE p.2.2).all (isLive H.l))&&H.l.all λ|.var cs=>(cs.flatMap tV).all (isLive H.l)|.mp kt _=>atQ kt 1000000||agR H.l (kt % 1000000)|_=>ab
def vu(n:Nat)(args:List SE)(h e:SE):Bool:=
 match h with
 |.var x=>if atQ x n then h.eq e else(match args[x- n]? with
  |some a=>a.eq e
  |none=>af)
 |h=>h.wX n&&h.eq e
def EB(eg:List (Nat×Nat))(h e:Nat):Bool:=
 match sA eg h with
 |some e'=>asW e e'
 |none=>af
def rj(n:Nat)(args:List SE)(eg:List (Nat×Nat))(h e:Cl SE):Bool:=
 match h,e with
 |.un,_=>ab
 |.v a,.v b=>vu n args a b
 |.w f a,.w f' b=>(f|| !f')&&vu n args a b
 |.w f a,.v b=>f&&vu n args a b
 |.v a,.nl _ s=>vu n args a (.tr s .an)
 |.w _ a,.nl _ s=>vu n args a (.tr s .an)
 |.nl a s,.nl b s'=>a==b&&asW s s'
 |.pt k o x,.pt k' o' x'=>asW o o'&&asW x x'&&EB eg k k'
 |.tp a,.tp b=>mb (vu n args) a b
 |.sr k,.sr k'=>EB eg k k'
 |.mp k,.mp k'=>EB eg k k'
 |.fn f a,.fn f' b=>asW f f'&&mb (λ(p q:Nat×Nat)=>asW p.2 q.2&&EB eg p.1 q.1) a b
 |_,_=>af
def I5(n:Nat)(args:List SE)(eg:List (Nat×Nat))(h e:PV SE):Bool:=
 match h,e with
 |.one a,.one b=>rj n args eg a b
 |.ag as,.ag bs=>mb (rj n args eg) as bs
 |.tu as,.tu bs=>mb (λ(p q:Bool×List (Cl SE))=>p.1==q.1&&mb (rj n args eg) p.2 q.2) as bs
 |_,_=>af
def agS(n:Nat)(args:List SE)(eg:List (Nat×Nat))(g:List (Nat×Nat×PV SE))(h:List (Nat×Nat×PV SE)):Bool:=
 h.all λ(d,t,pv)=>match cA d t g with
  |some Dy=>I5 n args eg pv Dy
  |none=>af
def Av(n:Nat)(args:List SE)(eg:List (Nat×Nat))(h e:LO SE):Bool:=
 match h,e with
 |.var cs,.var ds=>mb (rj n args eg) cs ds
 |.row s st cut fr es,.row s' l8 u7 dg aF=>asW s s'&&st==l8&&(cut|| !u7)&&(fr|| !dg)&&vu n args es aF
 |.mp kt es,.mp ma aF=>asW kt ma&&vu n args es aF&&(atQ kt 1000000||EB eg (kt % 1000000) (kt % 1000000))
 |_,_=>af
def PI(n:Nat)(args:List SE)(eg:List (Nat×Nat))(l:List (LO SE)):Nat->List (LO SE)->Bool
 |_,[]=>ab
 |k,o::os=>(match o with
  |.dead=>ab
  |o=>match sA eg k with
   |some k'=>match l[k']? with
    |some o'=>Av n args eg o o'
    |none=>af
   |none=>af)&&PI n args eg l (k+1) os
def abL(eg:List (Nat×Nat)):Bool:=eg.all λp=>eg.all λq=> !asW p.2 q.2||asW p.1 q.1
def inst(n m:Nat)(H V:SS):Option (List SE×List (Nat×Nat)):=
 if !HO H then ah else match agQ n (n+m) V.g H.g ⟨[],[]⟩with
 |some mt=>match abK n (n+m) V.l 0 H.l mt with
  |some mt=>match PH n mt m []with
   |some args=>if agS n args mt.eg V.g H.g&&PI n args mt.eg V.l 0 H.l&&abL mt.eg&&asW args.length m then aa (args,mt.eg)else ah
   |none=>ah
  |none=>ah
 |none=>ah
def A9:Code->Nat
 |.region id _ _=>id
 |.seq a _=>A9 a
 |.block _ a=>A9 a
 |.loop a=>A9 a
 |.scope a=>A9 a
 |_=>0
abbrev nX:=Nat->Nat->Code->SS->(zC->SS->ak)->ak
section step
variable(self:nX)(kx:Kx)
def setArgs(d:Nat):Nat->List (PV SE)->List (Nat×Nat×PV SE)
 |_,[]=>[]
 |j,pv::dp=>(d,j,pv)::setArgs d (j+1) dp
def jU(d:Nat):List (Nat×Nat×PV SE)->List (Nat×Nat×PV SE)
 |[]=>[]
 |(d',t,pv)::g=>if asW d' d=ab then jU d g else(d',t,pv)::jU d g
def PJ(t:TypeId)(pa:PV SE)(V:SS):Option (PV SE):=
 match aN P t,ra P t,pa with
 |some s,aa _,.one (.pt j off ext)=>match V.l[j]? with
  |some (.var cs)=>if atN s ext&&atN (off+s) cs.length then(if isAgg P t then aa (.ag ((cs.drop off).take s))else match(cs.drop off).take s with
   |[c]=>aa (.one c)
   |_=>ah)else ah
  |_=>ah
 |_,_,_=>ah
def lR(d:Nat)(V:SS):List ResultVar->Option (List (PV SE))
 |[]=>aa []
 |.tmp t::rs=>match lR d V rs with
  |some dp=>aa ((cA d t V.g).getD (.one .un)::dp)
  |none=>ah
 |.cell a t::rs=>match cA d a V.g with
  |some pa=>match PJ P t pa V,lR d V rs with
   |some pv,aa dp=>aa (pv::dp)
   |_,_=>ah
  |none=>ah
def EC(dp:List (PV SE)):PV SE:=
 match dp with
 |[]=>.one .un
 |[pv]=>pv
 |dp=>.tu (dp.map λpv=>match pv with
  |.one c=>(af,[c])
  |.ag cs=>(ab,cs)
  |.tu _=>(af,[.un]))
def sU(d f:Nat)(dst:Option Nat)(g:FuncId)(args:List (PV SE))(V:SS)(k:PV SE->SS->ak):ak:=
 match P.funcs[g]? with
 |some fn=>match fn.body with
  |some body=>
   if cfg.stop.any (asW g)then .fail 119 else if atN args.length fn.ntmps&&fn.name != "runtime.NumGoroutine" then
    self (d+1) (f*1000+dst.getD 999+1) body {V with g:=setArgs (d+1) 0 args++jU (d+1) V.g,nt:=fn.ntmps} λex W=>match ex with
     |.exit _=>.fail 111
     |.b_ t pv=>kx t pv {W with g:=jU (d+1) W.g,nt:=V.nt}
     |_=>match lR P (d+1) W fn.results.toList with
      |some dp=>k (EC dp) {W with g:=jU (d+1) W.g,nt:=V.nt}
      |none=>.fail 110
   else .fail 112
  |none=>.fail 113
 |none=>.fail 114
def pZ:ak->Option (SS×SS)
 |.test _ a b|.two _ a b=>match pZ a with
  |some x=>aa x
  |none=>pZ b
 |.bind _ k|.aS _ k|.call _ _ _ k|.loop _ k|.uniq k|.same _ _ k=>pZ k
 |.pick _ _ a b=>match pZ a with
  |some x=>aa x
  |none=>pZ b
 |.kP a _ b=>match pZ a with
  |some x=>aa x
  |none=>pZ b
 |.bad 999999 n lv _ _ hg hl g l=>aa (⟨hg,hl,n,lv,0⟩,⟨g,l,n,lv,0⟩)
 |_=>ah
def guardOf(g:FuncId):Option TypeId:=(cfg.rows.find? λn=>atN 1000000 n&&asW (n % 1000000) g).map λn=>n/1000000- 1
def FY(g:FuncId)(bs:List (Nat×Nat))(args:List (PV SE)):Option (TypeId×FuncId×List (Nat×Nat)):=
 match bs,args with
 |[],[.one (.fn c uT)]=>(guardOf cfg g).map λt=>(t,c,uT)
 |_,_=>ah
def ED(d:Nat)(V:SS):Option Nat:=
 match cA d 2 V.g with
 |some (.one (.pt j 0 1))=>match V.l[j]? with
  |some (.var [.v (.i z)])=>if z==0 then aa j else ah
  |_=>ah
 |_=>ah
def I6(d f:Nat)(dst:Option Nat)(g:FuncId)(t:TypeId)(c:FuncId)(uT:List (Nat×Nat))(V:SS)(k:PV SE->SS->ak):ak:=
 .call (3*P.funcs.size+g) ab (d_ [.i t])<|
  sU P cfg self (λt' pv W=>match pv,ED (d+1) W with
   |.ag [.v e],aa j=>if asW t' t then .aS (.rw e) (k (.one (.v e)) {W with g:=jU (d+1) W.g,nt:=V.nt,l:=((W.l++[LO.dead]).set W.l.length LO.dead).set j (.var [.v e])})else .fail 171
   |_,_=>.fail 172) (d+1) (f*1000+dst.getD 999+1) ah c (uT.map λ(k,ext)=>.one (.pt k 0 ext))
   {V with n:=V.n+1,l:=V.l++[.var [.v (.i 0)]],g:=(d+1,2,.one (.pt V.l.length 0 1))::jU (d+1) V.g,nt:=3} λ_ W=>match ED (d+1) W with
    |some j=>k (.one (.v (.i 0))) {W with g:=jU (d+1) W.g,nt:=V.nt,l:=W.l.set j (.var [.v (.i 0)])}
    |none=>.fail 173
def FZ(d f:Nat)(dst:Option Nat)(g:FuncId)(args:List (PV SE))(V:SS)(k:PV SE->SS->ak):ak:=
 match FY cfg g [] args with
 |some (t,c,uT)=>match P.funcs[g]? with
  |some fn=>if fn.body.isSome&&fn.name != "runtime.NumGoroutine" then I6 P cfg self d f dst g t c uT V k else .fail 18
  |none=>.fail 18
 |none=>sU P cfg self kx d f dst g args V k
def F0(d f:Nat)(dst:Option Nat)(g:FuncId)(args:List (PV SE))(V:SS)(k:SS->ak):ak:=
 let V1:SS:={V with lv:=V.lv+1}
 match pZ (FZ P cfg self (λ_ _ _=>.fail 0) d f dst g args V1 λpv W=>let W:=W.bP d dst pv;.bad 999999 W.n W.lv 0 0 W.g W.l W.g W.l)with
 |none=>.fail 150
 |some (V2,_)=>
  let h:=(cfg.hints.find? λh=>asW h.d d&&asW h.f f&&asW h.id (1000000+dst.getD 999)).getD ⟨d,f,1000000+dst.getD 999,[],[],[],[]⟩
  let Vg:=gcS (vb h (settle h.yy V2))
  let(g',n,init):=KZ h Vg.g V.n []
  let(l',n,_):=abJ h 0 Vg.l n init
  let H:SS:=⟨g',l',V.n+(n- V.n),V.lv,V.nt⟩
  .kP (FZ P cfg self kx d f dst g args V1 λpv W=>
   let W:=vb h (settle h.yy (W.bP d dst pv))
   match inst V.n (n- V.n) H W with
   |some (args,_)=>.next V.lv (d_ args)
   |none=>.bad d f (1000000+dst.getD 999) V.n n H.g H.l W.g W.l) (n- V.n) (k H)
def tW(V:SS):List (PV SE)->Option (List SE×SS)
 |[]=>aa ([],V)
 |pv::dp=>match tT V pv with
  |some (_,z,V)=>match tW V dp with
   |some (zs,V)=>aa (z::zs,V)
   |none=>ah
  |none=>ah
def BV:List (PV SE)->Bool
 |[]=>ab
 |.tu _::_=>af
 |_::l=>BV l
def Oi(fn:Func)(V:SS)(r:SE)(k:PV SE->SS->ak):ak:=
 match fn.resultTypes.toList with
 |[t]=>rU P t r (k (ofType P t r) V)
 |ts=>PA P r 0 ts (k (.tu (KR P r 0 ts)) V)
def F3(g:FuncId)(zs:List SE)(j:Nat)(V:SS)(k:PV SE->SS->ak):ak:=
 match V.l[j]? with
 |some (.row s af af _ es)=>if atQ g P.funcs.size then .aS (.rws es) (.call (P.funcs.size+g) ab (d_ (es::zs)) (k (.one (.sr j)) ((({V with n:=V.n+1}:SS).sS j).setObj j (.row s af af af (.var V.n)))))else .fail 13
 |_=>.fail 14
def sV:List (PV SE)->List (Nat×Nat)×List (PV SE)
 |.one (.pt k 0 ext)::r=>((k,ext)::(sV r).1,(sV r).2)
 |r=>([],r)
def yB(V:SS):List (Nat×Nat)->Option (List (List SE))
 |[]=>aa []
 |(k,n)::l=>match V.l[k]? with
  |some (.var ds)=>if asW ds.length n then(match FX ds,yB V l with
   |some es,aa r=>aa (es::r)
   |_,_=>ah)else ah
  |_=>ah
def distinct:List Nat->Bool
 |[]=>ab
 |k::l=> !(l.any (asW k))&&distinct l
def lW(y:SE):Nat->List (Nat×Nat)->List (LO SE)->List (LO SE)
 |_,[],L=>L
 |i,(k,n)::l,L=>lW y (i+1) l (L.set k (.var ((aup n).map λq=>.v (.bT (.proj y (i+1)) q))))
def abM(g:FuncId)(l:List (Nat×Nat))(rest:List (PV SE))(V:SS)(k:PV SE->SS->ak):ak:=
 match tW V rest,yB V l,P.funcs[g]? with
 |some (zs,_),aa EF,aa fn=>if !rest.all oY then .fail 161 else if !distinct (l.map (·.1))then .fail 162 else match fn.resultTypes.toList with
  |[t]=>.call (2*P.funcs.size+g) ab (.ac (d_ (EF.map d_)) (d_ zs)) (rU P t (.proj (.var V.n) 0) (k (ofType P t (.proj (.var V.n) 0)) {V with n:=V.n+1,l:=lW (.var V.n) 0 l V.l}))
  |_=>.fail 163
 |_,_,_=>.fail 164
def abN(g:FuncId)(args:List (PV SE))(V:SS)(k:PV SE->SS->ak):ak:=
 if !(sV args).1.isEmpty then abM P g (sV args).1 (sV args).2 V k else
 match args with
 |.one c::rest=>match tW V rest with
  |some (zs,_)=>if !rest.all oY then .fail 16 else match c with
   |.sr j=>F3 P g zs j V k
   |.nl _ s=>newObj V (.row s af af af (.tr s .an)) λj V=>F3 P g zs j V k
   |_=>.fail 17
  |none=>.fail 15
 |_=>.fail 15
def xO(g:FuncId):Bool:=atQ g 100000&&cfg.rows.any (asW (g+500000))
def A_:a_:={cfg with rows:=cfg.rows.filter λn=>atQ n 500000||atN 600000 n}
def agT(g:FuncId):Bool:=cfg.rows.any (asW (g+600000))
def cP(g:FuncId):Nat:=
 match P.funcs[g]? with
 |some fn=>match fn.resultTypes.toList with
  |[t]=>match P.underlying t with
   |some (.slice el)=>(aN P el).getD 0
   |_=>0
  |_=>0
 |none=>0
def PK(g:FuncId)(args:List (PV SE))(V:SS)(k:PV SE->SS->ak):ak:=
 match tW V args,P.funcs[g]? with
 |some (zs,V'),aa fn=>if BV args&&(fn.body.isSome&&fn.name != "runtime.NumGoroutine")then
   .call (4*P.funcs.size+g) ab (d_ zs) (k (.one (.sr V'.l.length)) {V' with n:=V'.n+1,l:=V'.l++[.row (cP P g) af af af (.var V'.n)]})else .fail 181
 |_,_=>.fail 181
def abO(g:FuncId):Option TypeId:=
 match P.funcs[g]? with
 |some fn=>match fn.resultTypes.toList with
  |[t]=>match P.underlying t with
   |some (.map kt _)=>if gI kt then ah else aa kt
   |_=>ah
  |_=>ah
 |none=>ah
def K3(g:FuncId)(kt:TypeId)(args:List (PV SE))(V:SS)(k:PV SE->SS->ak):ak:=
 match tW V args,P.funcs[g]? with
 |some (zs,V'),aa fn=>if BV args&&(fn.body.isSome&&fn.name != "runtime.NumGoroutine")then
   .call (5*P.funcs.size+g) ab (d_ zs) (k (.one (.mp V'.l.length)) {V' with n:=V'.n+1,l:=V'.l++[.mp kt (.var V'.n)]})else .fail 182
 |_,_=>.fail 182
def Wn(g:FuncId)(args:List (PV SE))(V:SS)(k:PV SE->SS->ak):ak:=
 match args with
 |.one (.mp j)::rest=>match V.l[j]?,tW V rest,P.funcs[g]? with
  |some (.mp kt es),aa (zs,V'),aa fn=>if BV rest&& !gI kt&&(fn.body.isSome&&fn.name != "runtime.NumGoroutine")then
    .call (6*P.funcs.size+g) ab (d_ (es::zs)) (k (.one (.v (.var V'.n))) {V' with n:=V'.n+1})else .fail 183
  |_,_,_=>.fail 183
 |_=>.fail 183
def Wo(d f0:Nat)(qV:Bool)(o:Oper)(c:Call)(V:SS)(k:PV SE->SS->ak):ak:=
 match c.callee with
 |.builtin _=>fT P d o V k
 |.value f=>match bO P d V 0 f with
  |.one (.fn g bs)=>
   let args:=iz P d V c.args.toList c.argTypes.toList
   match FY cfg g bs args with
   |some (t,cf,uT)=>match P.funcs[g]? with
    |some fn=>if !qV&&fn.body.isSome&&fn.name != "runtime.NumGoroutine" then I6 P cfg self d f0 o.dst g t cf uT V k else .fail 18
    |none=>.fail 18
   |none=>
   if bs.isEmpty&&xO cfg g then(match abO P g with|some kt=>K3 P g kt args V k|none=>PK P g args V k)
   else if bs.isEmpty&&agT cfg g then Wn P g args V k
   else if bs.isEmpty&&cfg.rows.any (asW g)then
    match P.funcs[g]? with
    |some fn=>if !qV&&fn.body.isSome&&fn.name != "runtime.NumGoroutine" then abN P g args V k else .fail 18
    |none=>.fail 18
   else if bs.isEmpty&&cfg.pure.any (asW g)then
    match tW V args,P.funcs[g]? with
    |some (zs,V'),aa fn=>if BV args&&fn.body.isSome&&fn.name != "runtime.NumGoroutine" then .call g (!args.all oY) (d_ zs) (Oi P fn {V' with n:=V'.n+1} (.var V'.n) k)else .fail 115
    |_,_=>.fail 115
   else if qV then .fail 116 else sU P cfg self kx d f0 o.dst g (args++bs.map λ(k,ext)=>.one (.pt k 0 ext)) V k
  |_=>.fail 117
 |.invoke .. =>.fail 118
def I7(d f0:Nat)(qV:Bool)(o:Oper)(V:SS)(k:PV SE->SS->ak):ak:=
 match o.op with
 |.call c=>Wo P cfg self kx d f0 qV o c V k
 |_=>fT P d o V k
def Wp(d:Nat)(o:Oper)(V:SS):Option (Bool×Cl SE):=
 match o.op with
 |.binOp op t x y _=>match P.underlying t,bO P d V t x,y with
  |some (.slice _),.one c,.const (.slice ah 0 0)=>match op with
   |.eql=>aa (ab,c)
   |.neq=>aa (af,c)
   |_=>ah
  |_,_,_=>ah
 |_=>ah
def agU(e:Bool)(c:Cl SE)(V:SS)(k:PV SE->SS->ak):ak:=
 match c with
 |.v z=>.two z (k (.one (.v (.b e))) V) (k (.one (.v (.b (!e)))) V)
 |.w _ z=>.two z (k (.one (.v (.b e))) V) (k (.one (.v (.b (!e)))) V)
 |.nl b _=>k (.one (.v (.b (if b then e else !e)))) V
 |.sr j=>match V.l[j]? with
  |some (.row _ _ _ _ es)=>.two es (k (.one (.v (.b e))) V) (k (.one (.v (.b (!e)))) V)
  |_=>.fail 31
 |_=>.fail 31
def Oj:SE->Option IV
 |.i n=>aa (.int n)
 |.b t=>aa (.bool t)
 |_=>ah
def adv:IV->Option SE
 |.raw (.int .i64 n)=>aa (.i n)
 |.raw (.bool b)=>aa (.b b)
 |_=>ah
def PL(d:Nat)(V:SS)(o:Oper):Option (PV SE):=
 match o.op with
 |.binOp op t x y _=>match bO P d V t x,bO P d V t y with
  |.one (.v a),.one (.v b)=>match Oj a,Oj b with
   |some u,aa v=>((pP P op t x y u v).bind adv).map λe=>.one (.v e)
   |_,_=>ah
  |_,_=>ah
 |.index t x ix=>match P.underlying t,bO P d V t x,bO P d V 0 ix with
  |some (.array n el),.ag cs,.one (.v (.i z))=>match aN P el,ra P el with
   |some s,aa _=>if 0<=z/\z<n/\z.toNat*s+s<=cs.length then(if isAgg P el then aa (.ag ((cs.drop (z.toNat*s)).take s))else match(cs.drop (z.toNat*s)).take s with
    |[c]=>aa (.one c)
    |_=>ah)else ah
   |_,_=>ah
  |_,_,_=>ah
 |_=>ah
def adw:Bool:=cfg.hints.any λh=>asW h.d 999999
def aoy:Bool:=cfg.hints.any λh=>asW h.d 999998
def Wq(d:Nat)(V:SS)(o:Oper):Option (SE×Nat×Cl SE):=
 match o.op with
 |.call c=>match c.callee with
  |.builtin .append=>match iz P d V c.args.toList c.argTypes.toList with
   |[.one base,.one x]=>match c.argTypes[0]?,c.argTypes[1]? with
    |some t0,aa t1=>match elemOf P t0,elemOf P t1 with
     |some et,aa _=>match aN P et,cy P et,(P.info? et).map (·.bytes)with
      |some s,aa z,aa bytes=>if asW s 0|| !asW z.cells.size s|| !atN bytes 1000000 then ah else
       match qx P V et s base x,base with
       |some (_,es,_),.nl b w=>aa (es,s,.nl b w)
       |_,_=>ah
      |_,_,_=>ah
     |_,_=>ah
    |_,_=>ah
   |_=>ah
  |_=>ah
 |_=>ah
def I8(d:Nat)(V:SS)(o:Oper):Option (Nat×Nat×TypeId×SE×SE):=
 match o.op with
 |.next it af=>match bO P d V 0 it with
  |.one (.mp j)=>match V.l[j]? with
   |some (.mp kt x)=>if atN 1000000 kt then(match V.l[kt % 1000000]? with
    |some (.mp mc es)=>if gI mc then ah else aa (j,kt,mc,es,x)
    |_=>ah)else ah
   |_=>ah
  |_=>ah
 |_=>ah
def Wr(j kt:Nat)(mc:TypeId)(es x:SE)(V:SS)(k:PV SE->SS->ak):ak:=
 match P.underlying (kt/1000000- 1)with
 |some (.map _ _)=>.pick es x (k (.tu [(af,[.v (.b af)])]) V)
   (k (.tu [(af,[.v (.b ab)]),(af,[.un]),(af,[.un])]) {V with n:=V.n+2,l:=V.l.set j (.mp kt (.var (V.n+1)))})
 |_=>.fail 190
def BW(d f0:Nat)(qV:Bool)(o:Oper)(V:SS)(k:PV SE->SS->ak):ak:=
 match(if qV then ah else I8 P d V o)with
 |some (j,kt,mc,es,x)=>Wr P j kt mc es x V k
 |none=>match(if qV then ah else Wp P d o V)with
 |some (e,c)=>agU e c V k
 |none=>match(if !qV&&aoy cfg then Wq P d V o else ah)with
 |some (es,s,c)=>.aS (.sub s es (.len es) (.i 0)) (k (.one c) V)
 |none=>match(if !qV&&adw cfg then PL P d V o else ah)with
  |some pv=>k pv V
  |none=>I7 P cfg self kx d f0 qV o V k
def yC(d:Nat)(qV:Bool)(o:Oper)(V:SS):Option (FuncId×List (PV SE)):=
 if qV then ah else match o.op with
 |.call c=>match c.callee with
  |.value f=>match bO P d V 0 f with
   |.one (.fn g bs)=>if cfg.iw.any (asW g)&& !(bs.isEmpty&&cfg.pure.any (asW g))then aa (g,iz P d V c.args.toList c.argTypes.toList++bs.map λ(k,ext)=>.one (.pt k 0 ext))else ah
   |_=>ah
  |_=>ah
 |_=>ah
def tX(sk:List Nat):Option Nat->List Nat
 |some t=>sk.filter λx=> !asW x t
 |none=>sk
def F4(sk:List Nat):Option Nat->List Nat
 |some t=>t::tX sk (aa t)
 |none=>sk
def ni(sk:List Nat)(ops:Array Oper)(o:Oper):Bool:=
 match o.guard with
 |some (j,_)=>match(ops[j]?).bind (·.dst)with
  |some t=>wH sk t
  |none=>af
 |none=>af
def HP(t:TypeId):Bool:=
 match P.underlying t with
 |some (.interface _)=>af
 |some _=>ab
 |none=>af
def Ws(d:Nat)(V:SS)(o:Oper)(rest:List Oper):Option (TypeId×PV SE):=
 match o.op,rest with
 |.makeInterface t x,[p]=>match p.op,o.dst,o.guard,p.guard with
  |.panic (.tmp a),aa b,ah,ah=>if asW a b&&HP P t then aa (t,bO P d V t x)else ah
  |_,_,_,_=>ah
 |_,_=>ah
def iA(d f0:Nat)(qV:Bool)(ops:Array Oper):List Nat->List Oper->SS->(SS->ak)->ak
 |_,[],V,k=>k V
 |sk,o::rest,V,k=>
  if !(match o.dst with|some t=>atQ t V.nt|none=>ab)then .fail 121 else
  match(if qV then ah else Ws P d V o rest)with
  |some (t,pv)=>kx t pv (V.jT d o.dst)
  |none=>
  let run (V:SS):ak:=match yC P cfg d qV o V with
   |some (g,args)=>F0 P cfg self kx d f0 o.dst g args V λV=>iA d f0 qV ops (tX sk o.dst) rest V k
   |none=>BW P cfg self kx d f0 qV o V λpv V=>iA d f0 qV ops (tX sk o.dst) rest (V.bP d o.dst pv) k
  let skip (V:SS):ak:=iA d f0 qV ops (F4 sk o.dst) rest (V.jT d o.dst) k
  match(if ni sk ops o then .skip else tU ops d V o)with
  |.run=>run V
  |.skip=>skip V
  |.test t e want=>.test e ((if want then run else skip) (V.bP d (aa t) (.one (.v (.b ab))))) ((if want then skip else run) (V.bP d (aa t) (.one (.v (.b af)))))
  |.fail=>.fail 120
def EH(d:Nat)(V:SS):ko:=⟨V.nt,(V.g.filterMap λ(d',t,_)=>if asW d d' then aa t else ah).filter (λt=>match cA d t V.g with
 |some (.one (.pt _ _ _))=>ab
 |some (.one (.tp _))=>ab
 |_=>af),[],V.g.filterMap λ(d',t,_)=>if asW d d' then(match cA d t V.g with
  |some (.one (.pt k _ _))=>aa (t,k)
  |_=>ah)else ah,[]⟩
def aj_(d:Nat)(a:Code)(V:SS):Option Nat:=
 match a with
 |.seq (.region _ ops af) _=>match ops.toList with
  |[o]=>match o.op with
   |.binOp .lss _ (.tmp i) (.const (.int .i64 n)) _=>match cA d i V.g with
    |some (.one (.v (.i z)))=>if z==0&&decide (0<=n)&&decide (n<=4)then aa (n.toNat+1)else ah
    |_=>ah
   |_=>ah
  |_=>ah
 |_=>ah
def TH:Code->Bool
 |.seq a _=>TH a
 |.region _ ops _=>ops.toList.any λo=>match o.op with
  |.next _ af=>ab
  |_=>af
 |_=>af
def K4(d f:Nat)(a:Code)(k:zC->SS->ak):Nat->SS->ak
 |0,_=>.fail 180
 |n+1,V=>self d f a V λex W=>match ex with
  |.normal=>K4 d f a k n W
  |ex=>k ex W
def nY:nX:=λd f c V k=>
 match c with
 |.skip|.label _=>k .normal V
 |.region _ ops draw=>
  if draw then(if(dG ops).ok&&(FQ ops (dG ops)||nf P (dG ops) ops.toList.zipIdx (EH d V))then iA P (if nf P (dG ops) ops.toList.zipIdx (EH d V)then cfg else A_ cfg) self (λt pv V=>k (.b_ t pv) V) d f ab ops [] ops.toList V λV=>k .normal V else .fail 130)
  else iA P cfg self (λt pv V=>k (.b_ t pv) V) d f af ops [] ops.toList V λV=>k .normal V
 |.seq a b=>self d f a V λex V=>match ex with
  |.normal=>self d f b V k
  |ex=>k ex V
 |.cond c a b=>match bO P d V 0 c with
  |.one (.v (.b ab))=>self d f a V k
  |.one (.v (.b af))=>self d f b V k
  |.one (.v e)=>match c with
   |.tmp t=>if !atQ t V.nt then .fail 131 else .test e (self d f a (V.bP d (aa t) (.one (.v (.b ab)))) k) (self d f b (V.bP d (aa t) (.one (.v (.b af)))) k)
   |_=>.fail 131
  |.one (.w _ e)=>match c with
   |.tmp t=>if !atQ t V.nt then .fail 131 else .test e (self d f a (V.bP d (aa t) (.one (.v (.b ab)))) k) (self d f b (V.bP d (aa t) (.one (.v (.b af)))) k)
   |_=>.fail 131
  |_=>.fail 132
 |.block id a=>self d f a V λex V=>match ex with
  |.exit bB=>if asW id bB then k .normal V else k (.exit bB) V
  |ex=>k ex V
 |.loop a=>match(if adw cfg then aj_ d a V else ah)with
  |some n=>K4 self d f a k n V
  |none=>
  let id:=A9 a
  let h:=(cfg.hints.find? λh=>asW h.d d&&asW h.f f&&asW h.id id).getD ⟨d,f,id,[],[],[],[]⟩
  let V0:=vb h (settle h.yy V)
  let Vg:=gcS V0
  let(g,n,init):=KZ h Vg.g Vg.n []
  let(l,n,_):=abJ h 0 Vg.l n init
  let H:SS:=⟨g,l,V0.n+(n- V0.n),V.lv+1,V.nt⟩
  match inst V0.n (n- V0.n) H V0 with
  |some (args,_)=>(if TH a then ak.uniq else λk=>k)<|.loop (d_ args) (self d f a H λex W=>match ex with
   |.normal=>match inst V0.n (n- V0.n) H (settle h.yy W)with
    |some (args,_)=>.next V.lv (d_ args)
    |none=>.bad d f id V0.n n H.g H.l W.g W.l
   |ex=>k ex W)
  |none=>.bad d f id V0.n n H.g H.l V0.g V0.l
 |.scope a=>self d f a V k
 |.exit id=>k (.exit id) V
 |.ret=>k .ret V
 |_=>.fail 133
end step
def exec(n:Nat):nX:=av6 (λ_ _ _ _ _=>.fail 140) (λ_ s=>nY P cfg s) n
def dC:Nat->List TypeId->List (PV SE)
 |_,[]=>[]
 |j,t::ts=>ofType P t (.var j)::dC (j+1) ts
def p4:Nat->List TypeId->ak->ak
 |_,[],k=>k
 |j,t::ts,k=>rU P t (.var j) (p4 (j+1) ts k)
def aH(n:Nat)(new:Bool)(f:FuncId):ak:=
 match P.funcs[f]? with
 |some fn=>match fn.body with
  |some c=>
   if atN fn.params.size fn.ntmps then
    p4 P 0 fn.params.toList<|exec P cfg n 0 f c ⟨setArgs 0 0 (dC P 0 fn.params.toList),[],fn.params.size,0,fn.ntmps⟩ λex V=>match ex with
     |.exit _=>.fail 141
     |.b_ _ _=>.fail 146
     |_=>match lR P 0 V fn.results.toList with
      |some dp=>match tT V (EC dp)with
       |some (fr,z,_)=>.ret (if new&&fr then .rw z else z)
       |none=>.fail 142
      |none=>.fail 110
   else .fail 143
  |none=>.fail 144
 |none=>.fail 145
end run
end Go.Ev
namespace Go.Ev
variable(P:Program)
def yD(z:IV):Option IV:=if aj z then aa z else ah
def aA:IV->Bool
 |.raw _=>ab
 |_=>af
def gS:IV->Option Int
 |.raw (.int _ n)=>aa n
 |_=>ah
def dt(op:BinOp)(t:TypeId)(a b:IV):Option IV:=
 match i_ a,i_ b with
 |some .nilIface,_=>ah
 |some _,aa _=>pP P op t (.func 0) (.func 0) a b
 |_,_=>ah
def Wt(op:UnOp):IV->Option IV
 |.raw v=>(aT P (Op.unary op v)).map lift
 |_=>ah
def Wu(src dst:TypeId):IV->Option IV
 |.raw (.string s)=>match P.underlying src,P.underlying dst with
  |some _,aa .string=>aa (.raw (.string s))
  |_,_=>ah
 |.raw v=>(aT P (convert src dst v)).map lift
 |_=>ah
def dy(s:Nat):IV->IV->Option IV
 |.tree s' es,i=>match gS i with
  |some n=>if s'=s/\0<=n then match es[n.toNat]? with
   |some x=>if(cellsOf x).length=s then aa x else ah
   |none=>ah
   else ah
  |none=>ah
 |_,_=>ah
def jm(s:Nat)(es:List IV):Bool:=es.all λe=>(cellsOf e).length==s&&(cellsOf e).all aj
def kq(s bytes:Nat):IV->IV->Option IV
 |.tree s1 es,.tree s2 fs=>if s1=s/\s2=s/\0<s/\jm s fs=ab/\(4*(es.length+fs.length)+4096)*bytes<=2 ^47/\es.length+fs.length<=2 ^40 then aa (.tree s (es++fs))else ah
 |_,_=>ah
def YN(s:Nat):IV->IV->IV->Option IV
 |.tree s1 es,i,x=>match gS i with
  |some n=>if s1=s/\0<=n/\n.toNat<es.length/\(cellsOf x).length=s then aa (.tree s (es.set n.toNat x))else ah
  |none=>ah
 |_,_,_=>ah
def nj(s:Nat):IV->IV->IV->Option IV
 |.tree s1 es,lo,hi=>match gS lo,gS hi with
  |some l,aa h=>if s1=s/\0<=l/\l.toNat<=h.toNat/\0<=h/\h.toNat<=es.length then aa (.tree s ((es.take h.toNat).drop l.toNat))else ah
  |_,_=>ah
 |_,_,_=>ah
def YO(s:Nat):IV->IV->IV->Option IV
 |.tree s1 es,lo,z=>match gS lo with
  |some l=>if s1=s/\0<=l/\l.toNat<=es.length/\(cellsOf z).length=s then aa (.tree s (es.take l.toNat++ate (es.length- l.toNat) z))else ah
  |none=>ah
 |_,_,_=>ah
def I9:IV->Option IV
 |.tree _ es=>aa (.int es.length)
 |_=>ah
def xP:IV->Option IV
 |.raw (.string b)=>aa (.int b.size)
 |_=>ah
def vc:List IV->Option (List Value)
 |[]=>aa []
 |c::cs=>match c with
  |.raw (.int q n)=>(vc cs).map (Value.int q n::·)
  |.raw (.string q)=>(vc cs).map (Value.string q::·)
  |_=>ah
def keyOf:IV->Option Value
 |.raw (.int q n)=>aa (.int q n)
 |.raw (.string q)=>aa (.string q)
 |.agg cs=>(vc cs).map λvs=>.agg vs.toArray
 |_=>ah
def oH:List IV->Option (List Value)
 |[]=>aa []
 |d::ds=>match d with
  |.az [k,_]=>match keyOf k,oH ds with
   |some v,aa vs=>aa (v::vs)
   |_,_=>ah
  |_=>ah
def nowAt(kd:TypeDesc)(k:Value):List Value->Nat->Option (Option Nat)
 |[],_=>aa ah
 |e::es,n=>match Instr.sameNow kd k e with
  |some ab=>aa (aa n)
  |some af=>nowAt kd k es (n+1)
  |none=>ah
def F5(kt:TypeId):Option TypeDesc:=
 match P.underlying kt with
 |some (.int q)=>aa (.int q)
 |some .string=>aa .string
 |_=>ah
def I_(kt:TypeId)(ks:List Value)(k:Value):Option (Option Nat):=
 match ia P ab kt k (ks.map λe=>(e,.undef,0)),ia P af kt k (ks.map λe=>(e,.undef,0))with
 |some q,aa q'=>if q=q' then(match q with
  |none=>aa ah
  |some j=>match ks[j]? with
   |some e=>if Instr.sameBits 10000 e k then aa (aa j)else ah
   |none=>ah)else ah
 |_,_=>ah
def fB(kt:TypeId)(ds:List IV)(key:IV):Option (Option Nat):=
 match F5 P kt,oH ds,keyOf key with
 |some kd,aa ks,aa k=>nowAt kd k ks 0
 |none,aa ks,aa k=>I_ P kt ks k
 |_,_,_=>ah
def mA(w:Nat):IV->IV->Option IV
 |.raw (.string s),.raw (.int .i64 p)=>if 0<=p then(match w with
  |0=>aa (.raw (.bool (decide (p.toNat<s.size))))
  |1=>aa (.raw (.int .i32 (auE s p.toNat).1))
  |2=>aa (.raw (.int .i64 ((p.toNat+(auE s p.toNat).2:Nat))))
  |_=>ah)else ah
 |.raw (.int q c),p=>if w=7/\0<=c/\c<=1000000 then aa (.raw (.int q c))
  else if w=8/\1<=c/\c<=1000000/\(q==IntKind.i64)=ab/\(cellsOf p).length=1 then aa (.tree 1 (ate c.toNat p))else ah
 |.az ds,_=>if w=9 then aa (.int ds.length)else ah
 |_,_=>ah
def SE.den(ν:List IV):SE->Option IV
 |.var x=>ν[x]?
 |.i n=>aa (.raw (.int .i64 n))
 |.k q n=>aa (.raw (.int q n))
 |.b t=>aa (.raw (.bool t))
 |.s l=>aa (.raw (.string ⟨l.toArray⟩))
 |.raw v=>aa (.raw v)
 |.ok e=>(e.den ν).bind yD
 |.sQ n e=>(e.den ν).bind λ|.agg cs=>if cs.length=n/\cs.all aj then aa (.agg cs)else ah|_=>ah
 |.bT e j=>(e.den ν).bind λ|.agg cs=>(cs[j]?).bind yD|_=>ah
 |.idx q e x=>(e.den ν).bind λa1=>(x.den ν).bind λb1=>dy q a1 b1
 |.G2 q e x j=>(e.den ν).bind λa1=>(x.den ν).bind λb1=>(dy q a1 b1).bind λy=>((cellsOf y)[j]?).bind yD
 |.len e=>(e.den ν).bind I9
 |.sx e=>(e.den ν).bind xP
 |.an=>aa (.agg [])
 |.ac a r=>(a.den ν).bind λx=>(r.den ν).bind λ|.agg cs=>aa (.agg (x::cs))|_=>ah
 |.tr q r=>(r.den ν).bind λ|.agg cs=>if 0<q/\cs.all (λe=>(cellsOf e).length==q)then aa (.tree q cs)else ah|_=>ah
 |.tp r=>(r.den ν).bind λ|.agg cs=>aa (.az cs)|_=>ah
 |.cat q bytes e f=>(e.den ν).bind λa1=>(f.den ν).bind λb1=>kq q bytes a1 b1
 |.Ez q e x y=>(e.den ν).bind λa1=>(x.den ν).bind λb1=>(y.den ν).bind λc1=>YN q a1 b1 c1
 |.sub q e lo hi=>(e.den ν).bind λa1=>(lo.den ν).bind λb1=>(hi.den ν).bind λc1=>nj q a1 b1 c1
 |.Py q e lo z=>(e.den ν).bind λa1=>(lo.den ν).bind λb1=>(z.den ν).bind λc1=>YO q a1 b1 c1
 |.proj e j=>(e.den ν).bind λ|.az cs=>cs[j]? |_=>ah
 |.bin op t a2 b2=>(a2.den ν).bind λx1=>(b2.den ν).bind λy1=>dt P op t x1 y1
 |.un op a=>(a.den ν).bind (Wt P op)
 |.cv q d a=>(a.den ν).bind (Wu P q d)
 |.mx EA a2 b2=>(a2.den ν).bind λx1=>(b2.den ν).bind λy1=>if EA then Kp P [x1,y1]else Ox P [x1,y1]
 |.G3 e x=>(e.den ν).bind λa1=>(x.den ν).bind λb1=>match a1,b1 with
  |.raw (.string q),.raw (.int _ n)=>if 0<=n then(q.data.toList[n.toNat]?).map λc=>.raw (.int .u8 c.toNat)else ah
  |_,_=>ah
 |.HK e lo hi=>(e.den ν).bind λa1=>(lo.den ν).bind λb1=>(hi.den ν).bind λc1=>match a1,gS b1,gS c1 with
  |.raw (.string q),aa l,aa h=>if 0<=l/\l.toNat<=h.toNat/\0<=h/\h.toNat<=q.size then aa (.raw (.string ⟨((q.data.toList.drop l.toNat).take (h.toNat- l.toNat)).toArray⟩))else ah
  |_,_,_=>ah
 |.dec w a p=>(a.den ν).bind λa1=>(p.den ν).bind λb1=>mA w a1 b1
 |.rw e=>(e.den ν).bind λz=>if aA z then aa z else ah
 |.rws e=>(e.den ν).bind λ|.tree q es=>if es.all (λe=>(cellsOf e).all aA)then aa (.tree q es)else ah|_=>ah
 |.has kt m key=>(m.den ν).bind λa1=>(key.den ν).bind λk1=>match a1 with
  |.az ds=>(fB P kt ds k1).map λr=>.bool r.isSome
  |_=>ah
 |.get kt m key z=>(m.den ν).bind λa1=>(key.den ν).bind λk1=>(z.den ν).bind λd1=>match a1 with
  |.az ds=>match fB P kt ds k1 with
   |some (aa j)=>match ds[j]? with
    |some (.az [_,y1])=>aa y1
    |_=>ah
   |some ah=>aa d1
   |none=>ah
  |_=>ah
 |.ins kt m key x=>(m.den ν).bind λa1=>(key.den ν).bind λk1=>(x.den ν).bind λy1=>match a1 with
  |.az ds=>match fB P kt ds k1 with
   |some (aa j)=>aa (.az (ds.set j (.az [k1,y1])))
   |some ah=>aa (.az (ds++[.az [k1,y1]]))
   |none=>ah
  |_=>ah
theorem SE.c9{ν μ:List IV}:∀(e:SE) {z:IV},e.den P ν=aa z->e.den P (ν++μ)=aa z:=by
 have hb:∀{o o':Option IV} {f:IV->Option IV} {z:IV},(∀y,o=aa y->o'=aa y)->o.bind f=aa z->o'.bind f=aa z:=by
  intro o o' f z h hz;cases o with
  |none=>cases hz
  |some y=>rw[h y rfl];exact hz
 intro e;induction e with
 |var x=>intro z h;simp only[SE.den]at h⊢;rw[asY (asM.1 h).1];exact h
 |i n=>intro z h;exact h
 |k q n=>intro z h;exact h
 |b t=>intro z h;exact h
 |s l=>intro z h;exact h
 |raw v=>intro z h;exact h
 |an=>intro z h;exact h
 |ok e ih=>intro z h;exact hb (λy=>ih) h
 |sQ n e ih=>intro z h;exact hb (λy=>ih) h
 |bT e j ih=>intro z h;exact hb (λy=>ih) h
 |sx e ih=>intro z h;exact hb (λy=>ih) h
 |len e ih=>intro z h;exact hb (λy=>ih) h
 |tr q r ih=>intro z h;exact hb (λy=>ih) h
 |tp r ih=>intro z h;exact hb (λy=>ih) h
 |proj e j ih=>intro z h;exact hb (λy=>ih) h
 |un op a ih=>intro z h;exact hb (λy=>ih) h
 |cv q d a ih=>intro z h;exact hb (λy=>ih) h
 |rw e ih=>intro z h;exact hb (λy=>ih) h
 |rws e ih=>intro z h;exact hb (λy=>ih) h
 |idx q e x fJ eV|G2 q e x j fJ eV|ac a r fJ eV|cat q by' e f fJ eV|bin op t a b fJ eV|mx EA a b fJ eV|G3 e x fJ eV|has kt m key fJ eV|dec w a p fJ eV=>
  intro z h;simp only[SE.den,as_]at h⊢;obtain⟨a,h1,b,h2,h3⟩:=h;exact⟨a,fJ h1,b,eV h2,h3⟩
 |Ez q e x y fJ eV Ba|sub q e lo hi fJ eV Ba|Py q e lo z' fJ eV Ba|HK e lo hi fJ eV Ba|ins kt m key x fJ eV Ba|get kt m key z' fJ eV Ba=>
  intro z h;simp only[SE.den,as_]at h⊢;obtain⟨a,h1,b,h2,c,h3,h4⟩:=h;exact⟨a,fJ h1,b,eV h2,c,Ba h3,h4⟩
abbrev Cr:=FuncId->Bool->List IV->IV->Prop
def iY(ν:List IV)(e:SE):Option (List IV):=
 match e.den P ν with
 |some (.agg cs)=>aa cs
 |_=>ah
def ak.sat(C:Cr)(Q:IV->Prop):ak->List (List IV->Prop)->List IV->Prop
 |.fail _,_,_=>False
 |.ret e,_,ν=>∃z,e.den P ν=aa z/\Q z
 |.test e a b,K,ν=>(e.den P ν=aa (.bool ab)/\a.sat C Q K ν)\/(e.den P ν=aa (.bool af)/\b.sat C Q K ν)
 |.two e a b,K,ν=>∃q es,e.den P ν=aa (.tree q es)/\b.sat C Q K ν/\(es=[]->a.sat C Q K ν)
 |.bind e k,K,ν=>∃z,e.den P ν=aa z/\k.sat C Q K (ν++[z])
 |.aS e k,K,ν=>(∃z,e.den P ν=aa z)/\k.sat C Q K ν
 |.call f new args k,K,ν=>∃xs z,iY P ν args=aa xs/\C f new xs z/\k.sat C Q K (ν++[z])
 |.pick es x a b,K,ν=>∃ds rem,es.den P ν=aa (.az ds)/\(∃r,x.den P ν=aa (.az (.az ds::.az rem::r)))/\(rem=[]->a.sat C Q K ν)/\∀i y,rem[i]?=aa y->b.sat C Q K (ν++[y,.az [.az ds,.az (rem.eraseIdx i),y]])
 |.same es x k,K,ν=>∃ds r,es.den P ν=aa (.az ds)/\x.den P ν=aa (.az (.az ds::r))/\k.sat C Q K ν
 |.uniq k,K,ν=>∃z,Q z/\k.sat C (·=z) (K.map λ_ _=>False) ν
 |.loop init body,K,ν=>∃vs,iY P ν init=aa vs/\∃m:Nat,(av6 (motive:=λ_=>List IV->Prop) (λ_=>False) (λ_ ih vs=>body.sat C Q (K++[ih]) (ν++vs)) m) vs
 |.kP body m cont,K,ν=>body.sat C Q (K++[λvs=>vs.length=m/\cont.sat C Q K (ν++vs)]) ν
 |.next lv args,K,ν=>∃vs p,iY P ν args=aa vs/\K[lv]?=aa p/\p vs
 |.bad ..,_,_=>False
abbrev sW(K K':List (List IV->Prop)):Prop:=All2 (λp q=>∀vs,p vs->q vs) K K'
theorem sW.snoc{K K':List (List IV->Prop)}(h:sW K K'){p q:List IV->Prop}(hp:∀vs,p vs->q vs):sW (K++[p]) (K'++[q]):=h.app ⟨hp,trivial⟩
theorem sW.refl:∀(K:List (List IV->Prop)),sW K K
 |[]=>trivial
 |_::K=>⟨λ_ h=>h,sW.refl K⟩
theorem sW.no:∀(K:List (List IV->Prop)),sW (K.map λ_ _=>False) K
 |[]=>trivial
 |_::K=>⟨λ_ h=>h.elim,sW.no K⟩
theorem sW.nos:∀{K K':List (List IV->Prop)},sW K K'->sW (K.map λ_ _=>False) (K'.map λ_ _=>False)
 |[],[],_=>trivial
 |_::_,_::_,h=>⟨λ_ h=>h,sW.nos h.2⟩
 |[],_::_,h=>h.elim
 |_::_,[],h=>h.elim
theorem ak.eJ{C:Cr}:∀(f:ak) {Q Q':IV->Prop} {K K':List (List IV->Prop)} {ν:List IV},(∀z,Q z->Q' z)->sW K K'->f.sat P C Q K ν->f.sat P C Q' K' ν
 |.fail _,_,_,_,_,_,_,_,h=>h
 |.bad ..,_,_,_,_,_,_,_,h=>h
 |.ret _,_,_,_,_,_,hq,_,⟨z,h1,h2⟩=>⟨z,h1,hq z h2⟩
 |.test _ a b,_,_,_,_,_,hq,hk,h=>h.imp (λh=>⟨h.1,eJ a hq hk h.2⟩) (λh=>⟨h.1,eJ b hq hk h.2⟩)
 |.two _ a b,_,_,_,_,_,hq,hk,⟨q,es,h1,h2,h3⟩=>⟨q,es,h1,eJ b hq hk h2,λhe=>eJ a hq hk (h3 he)⟩
 |.bind _ k,_,_,_,_,_,hq,hk,⟨z,h1,h2⟩=>⟨z,h1,eJ k hq hk h2⟩
 |.aS _ k,_,_,_,_,_,hq,hk,⟨h1,h2⟩=>⟨h1,eJ k hq hk h2⟩
 |.call _ _ _ k,_,_,_,_,_,hq,hk,⟨xs,z,h1,h2,h3⟩=>⟨xs,z,h1,h2,eJ k hq hk h3⟩
 |.pick _ _ a b,_,_,_,_,_,hq,hk,⟨ds,rem,h1,h2,h3,h4⟩=>⟨ds,rem,h1,h2,λhe=>eJ a hq hk (h3 he),λi y hy=>eJ b hq hk (h4 i y hy)⟩
 |.same _ _ k,_,_,_,_,_,hq,hk,⟨ds,r,h1,h2,h3⟩=>⟨ds,r,h1,h2,eJ k hq hk h3⟩
 |.uniq k,_,_,_,_,_,hq,hk,⟨z,h1,h2⟩=>⟨z,hq z h1,eJ k (λ_ h=>h) hk.nos h2⟩
 |.next lv _,_,_,_,_,_,_,hk,⟨vs,p,h1,h2,h3⟩=>by
  have wo:=asL (by rw[<-hk.len];exact(asM.1 h2).1);exact⟨vs,_,h1,wo,hk.get h2 wo vs h3⟩
 |.kP a m b,_,_,_,_,_,hq,hk,h=>eJ a hq (hk.snoc λ_ hv=>⟨hv.1,eJ b hq hk hv.2⟩) h
 |.loop _ b,Q,Q',K,K',ν,hq,hk,⟨vs,h1,m,hm⟩=>by
  have key:∀(m:Nat) (vs:List IV),(av6 (motive:=λ_=>List IV->Prop) (λ_=>False) (λ_ ih vs=>b.sat P C Q (K++[ih]) (ν++vs)) m) vs->(av6 (motive:=λ_=>List IV->Prop) (λ_=>False) (λ_ ih vs=>b.sat P C Q' (K'++[ih]) (ν++vs)) m) vs:=by
   intro m;induction m with
   |zero=>intro vs h;exact h
   |succ m ih=>intro vs h;exact eJ b hq (hk.snoc ih) h
  exact⟨vs,h1,m,key m vs hm⟩
end Go.Ev
namespace Go.Ev
variable{P:Program}{N:Nat}{σ ao:St}{R R':Rs}{φ aL:Ph}{E:Nat->Env}{ν:List IV}
abbrev au(P:Program)(ν:List IV):SE->Option IV:=λe=>e.den P ν
theorem bytes_eta(b:ByteArray):(⟨b.data.toList.toArray⟩:ByteArray)=b:=by cases b;simp
variable{L:List (LO SE)}{Γ:Gm SE}
theorem Mx(t:TypeId)(v:Value):cI (au P ν) R φ L σ (.raw v) (yz P t v):=by
 have raw:∀u:Value,(∀c,u≠.agg c)->(∀c,u≠.tuple c)->cI (au P ν) R φ L σ (.raw u) (.v (.raw u)):=λu h1 h2=>by
  refine⟨.raw u,rfl,.raw u,?_⟩;cases u<;>first|rfl|exact absurd rfl (h1 _)|exact absurd rfl (h2 _)
 unfold yz;split
 ·exact⟨_,rfl,.raw _,rfl⟩
 ·exact⟨_,rfl,.raw _,rfl⟩
 ·exact⟨_,rfl,.raw _,rfl⟩
 ·rename_i b;refine⟨.raw (.string b),?_,.raw _,rfl⟩;show aa (IV.raw (.string ⟨b.data.toList.toArray⟩))=_;rw[bytes_eta]
 ·split
  ·rename_i s hs;split
   ·exact raw _ (by simp) (by simp)
   ·rename_i h;have:s≠0:=by simpa[Nat.beq_eq]using h
    exact⟨by omega,rfl⟩
  ·exact raw _ (by simp) (by simp)
 ·trivial
 ·trivial
 ·exact raw _ (λc hc=>by subst hc;simp_all) (λc hc=>by subst hc;simp_all)
theorem BX:∀(ts:List TypeId) (vs:List Value),ts.length=vs.length->All2 (cI (au P ν) R φ L σ) (vs.map .raw) (Wg (yz P) ts vs)
 |[],[],_=>trivial
 |t::ts,v::vs,h=>⟨Mx t v,BX ts vs (by simpa using h)⟩
 |[],_::_,h=>by simp at h
 |_::_,[],h=>by simp at h
theorem Wv(t:TypeId)(v:Value):VR (au P ν) R φ L σ (lift v) (KQ P t v):=by
 have key:cI (au P ν) R φ L σ (.raw v) (yz P t v):=Mx t v;cases v with
 |agg cs=>
  simp only[KQ,lift];split
  ·rename_i h;exact⟨_,rfl,BX _ _ (asV h)⟩
  ·trivial
 |_=>exact key
theorem np{t:TypeId}{z:Value}(h:cy P t=aa z):All2 (cI (au P ν) R φ L σ) (z.cells.toList.map .raw) (zeroCells P t):=by
 unfold zeroCells;rw[h];simp only;split
 ·rename_i hh;exact BX _ _ (asV hh)
 ·refine .mk (by simp) λi a b h1 h2=>?_;rw[List.getElem?_map]at h2;obtain⟨_,_,rfl⟩:=Option.map_eq_some_iff.1 h2;trivial
theorem bo{V:SS}(h:J (au P ν) R φ V.g V.l E σ)(d:Nat)(t:TypeId)(x:Operand):VR (au P ν) R φ V.l σ (ax (E d) x) (bO P d V t x):=by
 cases x with
 |tmp y=>
  show VR _ _ _ _ _ ((E d).at y) ((cA d y V.g).getD (.one .un));cases hg:cA d y V.g with
  |none=>trivial
  |some pv=>exact h.slot d y pv hg
 |const v=>exact Wv t v
 |func f=>exact .inl ⟨rfl,rfl⟩
 |global g=>trivial
theorem bn.aj{fr:Bool}{x y:IV}(h:bn fr R σ x y)(hy:Ev.aj y=ab):Ev.aj x=ab:=by
 cases h<;>first|exact hy|rfl|(simp[Ev.aj]at hy;done)
theorem bn.ae5{fr:Bool}{x y:IV}(h:bn fr R σ x y)(hx:Ev.aj x=ab):Ev.aj y=ab:=by
 cases h<;>first|exact hx|rfl|(simp[Ev.aj]at hx;done)
theorem cI.aj{x:IV}{c:Cl SE}(h:cI (au P ν) R φ L σ x c)(hn:c≠.un):Ev.aj x=ab:=by
 cases c with
 |un=>exact absurd rfl hn
 |v z=>obtain⟨y,_,h1,h2⟩:=h;exact h1.aj h2
 |w fr z=>obtain⟨y,_,h1,h2⟩:=h;exact h1.aj h2
 |pt k off ext=>obtain⟨id,cs,_,_,rfl⟩:=h;rfl
 |tp cs=>obtain⟨ds,rfl,_⟩:=h;rfl
 |tw fr cs=>obtain⟨_,⟨_,ds,rfl,_⟩|⟨id,off,ep,m,cJ,ay,mn,_,_,_,_,rfl,_⟩⟩:=h<;>rfl
 |sr k=>obtain⟨s,st,cut,fr,z,es,_,_,⟨_,_,rfl|rfl⟩|⟨id,cs,ay,mn,cap,_,_,rfl,_⟩⟩:=h<;>rfl
 |sv k lo=>obtain⟨s,st,cut,fr,z,es,y,n,_,_,_,_,_,(⟨_,_,rfl|rfl⟩|⟨id,cs,ay,mn,cap,_,_,rfl,_⟩)|⟨_,rfl⟩⟩:=h<;>rfl
 |pr k i off ext=>obtain⟨s,st,cut,fr,z,es,y,n,id,cs,ay,mn,_,_,_,_,_,_,_,_,rfl⟩:=h;rfl
 |mp k=>obtain⟨id,kt,es,_,_,rfl⟩:=h;split<;>rfl
 |nl b s=>obtain⟨_,rfl⟩:=h;cases b<;>rfl
 |fn f bs=>obtain⟨_,rfl⟩|⟨ys,rfl,_⟩:=h<;>rfl
theorem HQ:∀{cs:List (Cl SE)},sy cs=ab->∀c∈cs,c≠.un
 |[],_,c,hc=>by cases hc
 |d::cs,h,c,hc=>by
  have hd:d≠.un/\sy cs=ab:=by
   cases d<;>simp_all[sy]
  rcases List.mem_cons.1 hc with rfl|hc
  ·exact hd.1
  ·exact HQ hd.2 c hc
theorem qy{xs:List IV}{cs:List (Cl SE)}(h:All2 (cI (au P ν) R φ L σ) xs cs)(hn:sy cs=ab):xs.all Ev.aj=ab:=by
 rw[List.all_eq_true];intro x hx;obtain⟨i,hi⟩:=List.getElem?_of_mem hx;have hl:i<cs.length:=by rw[<-h.len];exact(asM.1 hi).1
 have hc:cs[i]?=aa cs[i]:=asL hl;exact(h.get hi hc).aj (HQ hn _ (List.mem_of_getElem? hc))
theorem zE{x:IV}{pv:PV SE}(h:VR (au P ν) R φ L σ x pv)(hn:sy (eI pv)=ab):All2 (cI (au P ν) R φ L σ) (cellsOf x) (eI pv):=by
 cases pv with
 |one c=>
  have bz:=cI.aj (c:=c) h (HQ hn c (by simp[eI]))
  have:cellsOf x=[x]:=by
   cases x<;>first|rfl|(simp[Ev.aj]at bz;done)
  rw[this];exact⟨h,trivial⟩
 |ag cs=>obtain⟨xs,rfl,h2⟩:=h;exact h2
 |tu vs=>simp[eI,sy]at hn
theorem BY{s:Nat}:∀{es:List IV} (_:∀e∈es,(cellsOf e).length=s) {i j:Nat} {e d:IV},es[i]?=aa e->(cellsOf e)[j]?=aa d->(flat es)[i*s+j]?=aa d:=by
 intro es;induction es with
 |nil=>intro _ i j e d h;simp at h
 |cons a es ih=>
  intro bH i j e d he hd;have ha:(cellsOf a).length=s:=bH a (by simp);unfold flat;rw[ave];cases i with
  |zero=>
   simp at he;subst he;rw[asY (by have:=(asM.1 hd).1;omega)];simpa using hd
  |succ i=>
   simp at he;rw[atq,List.getElem?_append_right (by omega),ha];have:=ih (λe he=>bH e (by simp[he])) he hd;rw[show i*s+1*s+j- s=i*s+j by omega];exact this
theorem nZ{s:Nat}:∀{es:List IV} (_:∀e∈es,(cellsOf e).length=s),(flat es).length=es.length*s:=by
 intro es;induction es with
 |nil=>intro _;simp[flat]
 |cons a es ih=>
  intro bH;have:=ih (λe he=>bH e (by simp[he]));unfold flat at this⊢;rw[ave,List.length_append,this,bH a (by simp),List.length_cons,atq];omega
theorem Ww(V:SS)(k:Nat)(o:LO SE):(V.setObj k o).l=V.l.set k o:=rfl
theorem abP{V:SS}{k s:Nat}{cut fr:Bool}{z:SE}(h:J (au P ν) R φ V.g V.l E σ)(hk:V.l[k]?=aa (.row s af cut fr z)):
 ∃R',kO (au P ν) (au P ν) R φ V.l σ R' φ (V.l.set k (.row s ab cut fr z)) σ (λ_=>False)/\J (au P ν) R' φ V.g (V.l.set k (.row s ab cut fr z)) E σ:=by
 obtain⟨bE,es,he,bH,hor⟩:=h.obj k _ hk;have py:=dj hk;have bj:(V.l.set k (.row s ab cut fr z))[k]?=aa (.row s ab cut fr z):=by simp[py]
 have aW:∀j,j≠k->(V.l.set k (.row s ab cut fr z))[j]?=V.l[j]? :=λj hj=>List.getElem?_set_ne (λhc=>hj hc.symm)
 have adx:∀R',ja R σ R' σ->kO (au P ν) (au P ν) R φ V.l σ R' φ (V.l.set k (.row s ab cut fr z)) σ (λ_=>False):=λR' hg=>by
  refine .mk' (λ_ _ h=>h) hg (λj cs hj=>?_) (λj kt es hj=>?_) (λj s' st u7 dg z' hj _=>?_)
  ·by_cases bI:j=k
   ·subst bI;rw[hk]at hj;cases hj
   ·exact⟨⟨cs,by rw[aW j bI];exact hj⟩,rfl⟩
  ·by_cases bI:j=k
   ·subst bI;rw[hk]at hj;cases hj
   ·exact⟨⟨es,by rw[aW j bI];exact hj⟩,rfl⟩
  ·by_cases bI:j=k
   ·subst bI;rw[hk]at hj;cases hj;exact⟨⟨ab,bj⟩,rfl,λ_ _=>rfl⟩
   ·exact⟨⟨st,by rw[aW j bI];exact hj⟩,rfl,λ_ _=>rfl⟩
 rcases hor with⟨h1,h2⟩|⟨id,cs,ay,mn,h1,h2,h3,h4,h5,h6,h7⟩
 ·have hs:=adx R (ja.refl h.fits);refine⟨R,hs,{h with slot:=λd t pv hg=>(h.slot d t pv hg).step hs pv.aZ,obj:=λj o hj=>?_,lt:=λj id hj=>by simpa using h.lt j id hj}⟩;by_cases bI:j=k
  ·subst bI;rw[bj]at hj;cases hj;exact⟨bE,es,he,bH,.inl ⟨h1,h2⟩⟩
  ·rw[aW j bI]at hj;exact(h.obj j o hj).step hs rfl (λ_ _=>⟨rfl,rfl⟩) o.aZ
 ·let R':Rs:=λi=>if i=id then aa (es.length*s)else R i
  have BZ:R id=ah:=by simpa using h5
  have hg:ja R σ R' σ:=by
   refine⟨λi m hm=>⟨m,?_,asR _⟩,λi m cz iW pX hm aE=>⟨cz,iW,aE,asR _,λ_ _=>rfl⟩,λi m cz iW pX hm aE=>?_⟩
   ·have:i≠id:=λhc=>by rw[hc,BZ]at hm;cases hm
    simp[R',this,hm]
   ·simp only[R']at hm;split at hm
    ·rename_i hc;subst hc;cases hm;rw[h2]at aE;cases aE;exact h4
    ·exact h.fits i m cz iW pX hm aE
  have hs:=adx R' hg;refine⟨R',hs,{h with slot:=λd t pv zi=>(h.slot d t pv zi).step hs pv.aZ,obj:=λj o hj=>?_,lt:=λj id hj=>by simpa using h.lt j id hj,qU:=λi m hm=>?_,fits:=hg.fits}⟩
  ·by_cases bI:j=k
   ·subst bI;rw[bj]at hj;cases hj;exact⟨bE,es,he,bH,.inr ⟨id,cs,ay,mn,h1,h2,h3,h4,by simp[R'],h6,λj x d hx hd=>(h7 j x d hx hd).mono hg⟩⟩
   ·rw[aW j bI]at hj;refine(h.obj j o hj).step hs rfl (λi hi=>⟨rfl,?_⟩) o.aZ;have:i≠id:=λhc=>bI (h.inj j k id (by rw[<-hc];exact hi) h1);simp[R',this]
  ·simp only[R']at hm;split at hm
   ·rename_i hc;subst hc;exact(h.lt _ _ h1).2
   ·exact h.qU i m hm
theorem PM{x:IV}{k s:Nat}{cut fr:Bool}{z:SE}(h:J (au P ν) R φ Γ L E σ)(hk:L[k]?=aa (.row s ab cut fr z))(hx:cI (au P ν) R φ L σ x (.sr k)):
 ∃y,z.den P ν=aa y/\bn fr R σ x y/\aj y=ab:=by
 obtain⟨bE,es,he,bH,hor⟩:=h.obj k _ hk;obtain⟨s',l8,u7,dg,z',aF,h1,h2,nG⟩:=hx;rw[hk]at h1;cases h1;rw[he]at h2;cases h2;refine⟨_,he,?_,rfl⟩;rcases nG with⟨h3,h4,h5⟩|⟨id,cs,ay,mn,cap,h3,h4,rfl,h5,h6,h7⟩
 ·have:es=[]:=List.eq_nil_of_length_eq_zero h4;subst this;rcases h5 with rfl|rfl
  ·exact .nil s bE
  ·exact .emp s bE
 ·rcases hor with⟨h8,_⟩|⟨bB,cz,iW,pX,h8,h9,Ep,Dw,DB,TI,YP⟩
  ·rw[h3]at h8;cases h8
  ·rw[h3]at h8;cases h8;rw[h4]at h9;cases h9;refine .sl id (0*s) (es.length- 0) cap ay s (es.length*s) cs ay mn es (by simpa using DB) h4 Ep (asR _) bE rfl (by simp) Dw bH λi e j c d he hd hc=>?_;refine YP (i*s+j) c d (by simpa using hc) (BY bH he hd)
def jz(P:Program)(ν:List IV)(R:Rs)(φ:Ph)(V:SS)(σ:St)(R':Rs)(V':SS):Prop:=
 V'.g=V.g/\V'.n=V.n/\V'.ln=V.ln/\kO (au P ν) (au P ν) R φ V.l σ R' φ V'.l σ (λ_=>False)
theorem kO.trans{α:Type}{ev:α->Option IV}{R1 R2 R3:Rs}{dI DC φ3:Ph}{L1 L2 L3:List (LO α)}{aq dw wi:St}(h:kO ev ev R1 dI L1 aq R2 DC L2 dw (λ_=>False))(k:kO ev ev R2 DC L2 dw R3 φ3 L3 wi (λ_=>False)):
 kO ev ev R1 dI L1 aq R3 φ3 L3 wi (λ_=>False):=by
 refine⟨λ_ _ h=>h,⟨λid m hm=>?_,λid m cs ay mn hm aE=>?_,k.grow.fits⟩,λj cs hj=>?_,λj kt es hj=>?_,λj s st cut fr z hj hb=>?_⟩
 ·obtain⟨m1,h1,h2⟩:=h.grow.le id m hm;obtain⟨m2,h3,h4⟩:=k.grow.le id m1 h1;exact⟨m2,h3,atd h2 h4⟩
 ·obtain⟨oI,B8,h1,h2,h3⟩:=h.grow.keep id m cs ay mn hm aE;obtain⟨m1,h4,h5⟩:=h.grow.le id m hm;obtain⟨cs2,tY,h6,h7,h8⟩:=k.grow.keep id m1 oI B8 mn h4 h1;exact⟨cs2,tY,h6,atd h2 h7,λj hj=>by rw[h8 j (by omega),h3 j hj]⟩
 ·obtain⟨⟨cz,h1⟩,h2⟩:=h.var j cs hj;obtain⟨h3,h4⟩:=k.var j cz h1;exact⟨h3,h4.trans h2⟩
 ·obtain⟨⟨aF,h1⟩,h2⟩:=h.map j kt es hj;obtain⟨h3,h4⟩:=k.map j kt aF h1;exact⟨h3,h4.trans h2⟩
 ·obtain⟨⟨sX,sY,z1,h1,c8⟩,h2,h3⟩:=h.row j _ _ _ _ _ hj hb;obtain⟨⟨YQ,YR,z2,h4,h4'⟩,h5,h6⟩:=k.row j _ _ _ _ _ h1 hb;refine⟨⟨YQ,YR,z2,h4,λes he=>?_⟩,h5.trans h2,λid cs ay mn hid aE=>?_⟩
  ·obtain⟨fe,a1,a2⟩:=c8 es he;obtain⟨gZ,b1,b2⟩:=h4' fe a1;exact⟨gZ,b1,b2.trans a2⟩
  ·obtain⟨oI,Bb,a1,a2,a3⟩:=h3 id cs ay mn hid aE;obtain⟨cs2,DE,b1,b2,b3⟩:=h6 id oI ay Bb (by rw[h2];exact hid) a1;exact⟨cs2,DE,b1,b2.trans a2,λh=>b3 (a3 h)⟩
theorem jz.refl{V:SS}(h:J (au P ν) R φ V.g V.l E σ):jz P ν R φ V σ R V:=
 ⟨rfl,rfl,rfl,.mk' (λ_ _ h=>h) (ja.refl h.fits) (λk cs hk=>⟨⟨cs,hk⟩,rfl⟩) (λk kt es hk=>⟨⟨es,hk⟩,rfl⟩) (λk s st cut fr z hk _=>⟨⟨st,hk⟩,rfl,λ_ _=>rfl⟩)⟩
theorem jz.trans{V V1 V2:SS}{R1 R2:Rs}(h:jz P ν R φ V σ R1 V1)(k:jz P ν R1 φ V1 σ R2 V2):jz P ν R φ V σ R2 V2:=
 ⟨k.1.trans h.1,k.2.1.trans h.2.1,k.2.2.1.trans h.2.2.1,h.2.2.2.trans k.2.2.2⟩
theorem jz.My{V V1:SS}{R1:Rs}(h:jz P ν R φ V σ R1 V1){x:IV}{c:Cl SE}(hx:cI (au P ν) R φ V.l σ x c):cI (au P ν) R1 φ V1.l σ x c:=hx.step h.2.2.2 c.aZ
theorem jz.vr{V V1:SS}{R1:Rs}(h:jz P ν R φ V σ R1 V1){x:IV}{c:PV SE}(hx:VR (au P ν) R φ V.l σ x c):VR (au P ν) R1 φ V1.l σ x c:=hx.step h.2.2.2 c.aZ
theorem G4{V:SS}(h:J (au P ν) R φ V.g V.l E σ)(k:Nat):∃R',jz P ν R φ V σ R' (pY k V)/\J (au P ν) R' φ (pY k V).g (pY k V).l E σ/\
 (∀s st cut fr z,V.l[k]?=aa (.row s st cut fr z)->(pY k V).l[k]?=aa (.row s ab cut fr z)):=by
 unfold pY;split
 ·rename_i s cut fr es hk;obtain⟨R',h1,h2⟩:=abP h hk;refine⟨R',⟨rfl,rfl,rfl,h1⟩,h2,λs' l8 u7 dg z' cH=>?_⟩;rw[hk]at cH;cases cH;simp[Ww,dj hk]
 ·rename_i hn;refine⟨R,.refl h,h,λs st cut fr z hk=>?_⟩;cases st with
  |true=>exact hk
  |false=>exact absurd hk (hn _ _ _ _)
theorem EI{V V':SS}{c:Cl SE}{fr:Bool}{z:SE}(h:J (au P ν) R φ V.g V.l E σ)(hr:wW V c=aa (fr,z,V')):
 ∃R',jz P ν R φ V σ R' V'/\J (au P ν) R' φ V'.g V'.l E σ/\∀x,cI (au P ν) R φ V.l σ x c->∃y,z.den P ν=aa y/\bn fr R' σ x y/\aj y=ab:=by
 cases c with
 |v z'=>
  simp only[wW,asP,ati]at hr;obtain⟨rfl,rfl,rfl⟩:=hr;refine⟨R,.refl h,h,λx ⟨y,h1,h2,h3⟩=>⟨y,h1,?_,h3⟩⟩;have hg:ja (λ_=>ah) ⟨0,.lf⟩ R σ:=⟨λ_ _ h=>(by cases h),λ_ _ _ _ _ h=>(by cases h),h.fits⟩;exact h2.mono hg
 |w f z'=>
  simp only[wW,asP,ati]at hr;obtain⟨rfl,rfl,rfl⟩:=hr;exact⟨R,.refl h,h,λx hx=>hx⟩
 |nl b s=>
  simp only[wW,asP,ati]at hr;obtain⟨rfl,rfl,rfl⟩:=hr;refine⟨R,.refl h,h,λx ⟨h1,h2⟩=>⟨.tree s [],?_,?_,rfl⟩⟩
  ·simp[SE.den,h1]
  ·subst h2;cases b
   ·exact .emp s h1
   ·exact .nil s h1
 |sr k=>
  simp only[wW]at hr;split at hr
  ·rename_i s st cut dg es hk;simp only[asP,ati]at hr;obtain⟨rfl,rfl,rfl⟩:=hr;obtain⟨R',h1,h2,h3⟩:=G4 h k;exact⟨R',h1,h2,λx hx=>PM h2 (h3 _ _ _ _ _ hk) (h1.My hx)⟩
  ·cases hr
 |un|pt|tp|tw|sv|pr|mp|fn=>simp[wW]at hr
theorem ve:∀{cs:List (Cl SE)} {V V':SS} {R:Rs} {fr:Bool} {zs:List SE},J (au P ν) R φ V.g V.l E σ->tS V cs=aa (fr,zs,V')->
 ∃R',jz P ν R φ V σ R' V'/\J (au P ν) R' φ V'.g V'.l E σ/\zs.length=cs.length/\∀xs,All2 (cI (au P ν) R φ V.l σ) xs cs->∃ys,All2 (λ(z:SE) y=>z.den P ν=aa y) zs ys/\All2 (bn fr R' σ) xs ys/\ys.all Ev.aj=ab
 |[],V,V',R,fr,zs,h,hr=>by
  simp only[tS,asP,ati]at hr;obtain⟨rfl,rfl,rfl⟩:=hr;refine⟨R,.refl h,h,rfl,λxs hx=>⟨[],trivial,?_,rfl⟩⟩;cases xs with
  |nil=>trivial
  |cons=>exact hx.elim
 |c::cs,V,V',R,fr,zs,h,hr=>by
  simp only[tS]at hr;split at hr
  ·rename_i f1 z V1 h1;split at hr
   ·rename_i f2 zs' V2 h2;simp only[asP,ati]at hr;obtain⟨rfl,rfl,rfl⟩:=hr;obtain⟨R1,a1,a2,a3⟩:=EI h h1;obtain⟨R2,b1,b2,bl,b3⟩:=ve a2 h2;refine⟨R2,a1.trans b1,b2,by simp[bl],λxs hx=>?_⟩;cases xs with
    |nil=>exact hx.elim
    |cons x xs=>
     obtain⟨y,c1,c2,c3⟩:=a3 x hx.1;obtain⟨ys,d1,d2,d3⟩:=b3 xs (hx.2.mono λ_ _ bS=>a1.My bS);exact⟨y::ys,⟨c1,d1⟩,⟨(c2.mono b1.2.2.2.grow).wide (λh=>by simp[h]),d2.mono λ_ _ bS=>bS.wide (λh=>by simp[h])⟩,by simp[c3,d3]⟩
   ·cases hr
  ·cases hr
theorem eL:∀{zs:List SE} {ys:List IV},All2 (λ(z:SE) y=>z.den P ν=aa y) zs ys->(d_ zs).den P ν=aa (.agg ys)
 |[],[],_=>rfl
 |z::zs,y::ys,h=>by simp[d_,SE.den,h.1,eL h.2]
 |[],_::_,h=>h.elim
 |_::_,[],h=>h.elim
end Go.Ev
namespace Go.Ev
abbrev ak.nt(e:SE)(a b:ak):ak:=.aS e (.test e a b)
abbrev ak.nr(e:SE):ak:=.aS e (.ret e)
abbrev ak.nx(n:Nat)(e r:SE):ak:=.aS e (.next n (.ac e r))
abbrev jH(a b:Nat):SE:=.bT (.var a) b
abbrev g_(a:Nat):SE:=.ok (.var a)
abbrev PN(a:BinOp)(b:TypeId)(c d:SE):SE:=.ok (.bin a b c d)
abbrev wY(a b c:SE):SE:=.ac a (.ac b c)
abbrev YS(a b:SE)(c d:ak):ak:=.aS a (.nt b c d)
abbrev rp5(a:BinOp)(b:TypeId)(c:Nat)(d:SE):SE:=PN a b (.var c) d
abbrev Ja(a b:Nat):SE:=.len (jH a b)
abbrev iC(a:SE):SE:=.ac a .an
abbrev EJ:SE:=.b af
abbrev jI(a:Nat):SE:=.len (g_ a)
abbrev n9(a:SE)(b c:Nat)(d:SE):SE:=wY a (jH b c) d
abbrev HR(a b c d:Nat)(e:SE):SE:=n9 (jH a b) c d e
abbrev lp(a:FuncId)(b:SE)(c:ak):ak:=.call a af b c
abbrev EK(a:Nat)(b c:SE)(d:ak):ak:=.bind (.idx a b c) d
abbrev cY(a b:SE)(c:ak):ak:=.aS a (.aS b c)
abbrev bf:ak:=.ret EJ
abbrev lS(a b:Nat):SE:=.sQ a (.var b)
abbrev cx:SE:=.i 0
abbrev jn(a:Nat)(b:SE)(c:Nat)(d:ak):ak:=EK a b (.var c) d
abbrev agV(a:BinOp)(b:TypeId)(c:Nat)(d:Int):SE:=rp5 a b c (.i d)
abbrev aoz(a:Nat)(b:BinOp)(c:TypeId)(d:Nat)(e:Int)(f:SE):ak:=.nx a (agV b c d e) f
abbrev B9(a:SE)(b:BinOp)(c:TypeId)(d e:SE)(f g:ak):ak:=YS a (PN b c d e) f g
abbrev aoA(a:Nat)(b:TypeId)(c:Nat)(d:Int)(e:SE):ak:=aoz a .add b c d e
abbrev bw:SE:=g_ 0
abbrev Aw(a b:Nat):SE:=.proj (.var a) b
abbrev aoB(a:UnOp)(b:SE):SE:=.ok (.un a b)
abbrev tZ(a:SE):SE:=aoB .not a
abbrev HS:SE:=iC cx
abbrev agW(a:TypeId)(b:Nat)(c:SE):SE:=rp5 .lss a b c
abbrev jo(a:FuncId)(b:SE)(c:ak):ak:=lp a (iC b) c
abbrev lq(a b:Nat)(c:ak):ak:=.aS (lS a b) c
abbrev HT(a b:SE)(c d:ak):ak:=YS a (tZ b) c d
abbrev kg(a:BinOp)(b:TypeId)(c d:SE)(e f:ak):ak:=.nt (PN a b c d) e f
abbrev rl(a b:SE):SE:=wY a b .an
abbrev n_(a b c d:Nat):SE:=HR a b c d .an
abbrev abQ(a:ak):ak:=.loop HS a
abbrev aoC(a b:Nat)(c:Int)(d:SE):ak:=aoA a 3 b c d
abbrev B_(a b:Nat)(c:SE):ak:=aoC a b 1 c
abbrev eC(a:Nat)(b:ak):ak:=.aS (g_ a) b
abbrev HU(a:SE)(b:TypeId)(c:Nat)(d:SE)(e f:ak):ak:=YS a (agW b c d) e f
abbrev eh(a b:Nat):ak:=B_ a b .an
abbrev aoD(a:Nat)(b:SE)(c d:ak):ak:=HT (g_ a) b c d
abbrev mB(a b:Nat)(c d:ak):ak:=aoD a (g_ b) c d
abbrev oa(a:SE)(b:BinOp)(c d:SE)(e f:ak):ak:=B9 a b 3 c d e f
abbrev bK:SE:=jI 0
abbrev K5(a:SE)(b:TypeId)(c:Nat)(d:SE)(e:Nat)(f:SE)(g:Nat)(h i:ak):ak:=HU a b c d (jn e f g h) i
abbrev lT:SE:=.b ab
abbrev EL(a:TypeId)(b:Nat)(c:SE)(d e:ak):ak:=.nt (agW a b c) d e
abbrev HV(a:Nat):SE:=.tr a .an
abbrev K6(a:TypeId)(b:Nat)(c:SE)(d:Nat)(e:SE)(f:Nat)(g h:ak):ak:=EL a b c (jn d e f g) h
abbrev pf(a:Nat):SE:=iC (.var a)
abbrev abR(a:BinOp)(b:TypeId)(c d:Nat)(e:SE)(f g:ak):ak:=kg a b (jH c d) e f g
abbrev mC(a b:Nat)(c d:SE)(e:ak):ak:=.bind (.cat a b c d) e
abbrev oc(a:Int):ak:=.ret (.i a)
abbrev abS(a b:SE)(c:ak):ak:=.loop (rl a b) c
abbrev od(a:SE)(b:BinOp)(c:SE)(d:Int)(e f:ak):ak:=oa a b c (.i d) e f
abbrev agX(a b c d e f g h:Nat):SE:=HR a b c d (n_ e f g h)
abbrev wI(a:SE)(b:ak):ak:=.aS (.rw a) b
abbrev gB(a b:Nat)(c:FuncId)(d:SE)(e:ak):ak:=lq a b (jo c d e)
abbrev Wx(a:SE):ak:=.ret (.tp a)
abbrev Ca(a b c:Nat):ak:=B_ a b (pf c)
abbrev K7(a:Nat):SE:=Ja 1 a
abbrev rm:ak:=.ret lT
abbrev eb:SE:=.var 5
abbrev cZ:SE:=g_ 1
abbrev Cb(a:Nat)(b:SE):ak:=.next a (iC b)
abbrev aoE(a:SE)(b:Int):ak:=wI a (oc b)
abbrev aoF(a:SE)(b:TypeId)(c:Nat)(d:SE)(e:Nat)(f:SE)(g:Nat)(h i:ak):ak:=abQ (K5 a b c d e f g h i)
abbrev mD:SE:=HV 4
abbrev K8(a b:Nat):SE:=.ok (Aw a b)
abbrev iD(a:FuncId)(b:SE)(c:ak):ak:=.call a ab b c
abbrev K9(a:SE)(b:ak):ak:=abS cx a b
abbrev cB:SE:=g_ 2
abbrev kC(a b:Nat)(c:SE)(d:ak):ak:=cY (lS a b) c d
abbrev kD(a:FuncId)(b c:SE)(d:ak):ak:=lp a (rl b c) d
abbrev t_(a b:SE):ak:=Wx (rl a b)
abbrev EN(a b:Nat):SE:=iC (jH a b)
abbrev jq(a b:Int):ak:=aoE (.i a) b
abbrev aoG(a:TypeId)(b:Nat)(c:SE)(d:Nat)(e:SE)(f:Nat)(g h:ak):ak:=abQ (K6 a b c d e f g h)
abbrev PO(a b c:Nat):SE:=.bT (Aw a b) c
abbrev lU(a b:Nat)(c:ak)(d e:Nat):ak:=mB a b c (eh d e)
abbrev mE(a b c:Nat)(d:SE)(e:ak):ak:=mC a b (.var c) d e
abbrev ua(a b:SE)(c:Int)(d e:ak):ak:=od a .gtr b c d e
abbrev wJ(a b c:SE)(d e:ak):ak:=oa a .eql b c d e
abbrev dU(a:Nat):SE:=jH a 0
abbrev dz:SE:=jI 2
abbrev EO(a:Nat):SE:=Ja 0 a
abbrev ub(a:BinOp)(b c:SE):SE:=PN a 3 b c
abbrev K_(a:BinOp)(b:SE)(c:Int):SE:=ub a b (.i c)
abbrev Wy(a b:SE):SE:=wY a cx b
abbrev ej:SE:=g_ 3
abbrev uc(a:Nat)(b:ak):ak:=.aS (K7 a) b
abbrev kh(a:FuncId)(b:SE)(c:Nat)(d:ak):ak:=jo a b (eC c d)
abbrev aoH(a:Nat)(b:SE)(c d:Nat):SE:=.G2 a b (.var c) d
abbrev lV(a:Int):SE:=.k .u8 a
abbrev La(a:Int):SE:=iC (.i a)
abbrev gC:SE:=g_ 5
abbrev PQ(a:SE)(b:ak):ak:=cY bw a b
abbrev oe:SE:=.var 2
abbrev HW(a:BinOp)(b c:Nat)(d:SE)(e f:ak):ak:=abR a 3 b c d e f
abbrev jV(a:BinOp)(b c:Nat)(d:Int)(e f:ak):ak:=HW a b c (.i d) e f
abbrev Cc(a:Nat):SE:=jH 1 a
abbrev dR:SE:=jI 1
abbrev eY:SE:=EO 1
abbrev F6(a:BinOp)(b:TypeId)(c:SE)(d e:ak):ak:=kg a b bw c d e
abbrev jW:SE:=.len eb
abbrev ady(a:Nat)(b c d:SE)(e:ak):ak:=.bind (.sub a b c d) e
abbrev mU(a b:SE):SE:=ub .add a b
abbrev fq:SE:=HV 1
abbrev ft:SE:=K7 3
abbrev jX:SE:=.var 8
abbrev fC(a b:SE)(c:Int)(d:ak):ak:=ua a b c bf d
abbrev xh(a b c d e f:Nat):SE:=HR a b c d (EN e f)
abbrev vw(a b:Nat)(c:ak):ak:=mB a b bf c
abbrev adz(a:BinOp)(b:Nat)(c:Int):SE:=agV a 3 b c
abbrev Wz(a:BinOp)(b:Nat):SE:=adz a b 1
abbrev xi(a:Nat):SE:=Wz .sub a
abbrev eS:SE:=g_ 4
abbrev WA(a b:SE):ak:=Wx (Wy a b)
abbrev aka(a:Nat)(b:SE):SE:=Wy (HV a) b
abbrev akb(a:SE)(b:Int):ak:=WA a (La b)
abbrev lE:SE:=K7 1
abbrev zF(a b c:Nat):SE:=n_ a b c 1
abbrev Cd(a b:Nat):SE:=zF a 0 b
abbrev F7(a:Int):ak:=.ret (lV a)
abbrev iE:SE:=.var 10
abbrev ud(a:BinOp)(b:TypeId)(c:Nat):SE:=rp5 a b c cx
abbrev akc(a:SE)(b:TypeId)(c:Nat)(d:SE)(e:Nat)(f:SE)(g:Nat)(h i:ak):ak:=K9 a (K6 b c d e f g h i)
abbrev WB(a b:SE)(c:Nat)(d:SE):SE:=wY a b (aka c d)
abbrev akd(a b:SE)(c:Nat)(d:SE)(e:Int):ak:=akb (WB a b c d) e
abbrev fD:SE:=g_ 6
abbrev WC:SE:=.rw EJ
abbrev ake(a:TypeId)(b:Nat):SE:=ud .geq a b
abbrev WD(a:Nat):SE:=iC (xi a)
abbrev ue(a:Nat):SE:=Wz .add a
abbrev jY:SE:=.var 11
abbrev Ce(a:Nat):ak:=Cb a EJ
abbrev WE(a:SE)(b:Nat):ak:=t_ a (WD b)
abbrev iF(a:Nat):SE:=jH a 1
abbrev uf:SE:=K7 0
abbrev vy:SE:=Cc 4
abbrev jb:SE:=K7 2
abbrev F8(a:Nat):ak:=eh 0 a
abbrev jZ(a:Nat):SE:=Ja a 1
abbrev WG(a b c:Nat)(d:SE):SE:=HR a 0 b c d
abbrev Jb(a b:Nat)(c:SE):SE:=WG a b 1 c
abbrev fv(a:SE)(b:Nat)(c:SE)(d:Nat)(e:SE)(f:Nat)(g h:ak):ak:=aoF a 3 b c d e f g h
abbrev jA:SE:=EO 2
abbrev lF:ak:=Ce 4
abbrev zG(a:TypeId)(b:SE)(c d:ak):ak:=F6 .eql a b c d
abbrev pz(a:SE)(b:BinOp)(c d:SE)(e:ak):ak:=oa a b c d bf e
abbrev xj(a:Nat):SE:=Ja a 3
abbrev me:SE:=Cc 3
abbrev qz(a:ak):ak:=PQ cZ a
abbrev akf(a b:SE)(c:TypeId)(d:Nat)(e:SE)(f:Nat)(g:SE)(h:Nat)(i j:ak):ak:=K9 a (K5 b c d e f g h i j)
abbrev akg(a:SE)(b:Nat)(c:SE)(d:Int):ak:=akd mD a b c d
abbrev akh(a:Nat)(b:SE)(c:Int):ak:=akg mD a b c
abbrev aki(a:Nat)(b:Int):ak:=akh a HS b
abbrev lG(a b c d e f g h i j:Nat):SE:=Jb a b (agX c d e f g h i j)
abbrev kE:SE:=EO 3
abbrev j2(a b:SE)(c d:ak):ak:=wJ a b cx c d
abbrev rV(a b c d e f g h:Nat):SE:=Jb a b (xh c d e f g h)
abbrev zH(a:Nat)(b:SE):SE:=rl (.var a) b
abbrev akj(a b c d e f g:Nat):SE:=agX a 0 b c d e f g
abbrev akk(a b c d e f:Nat):SE:=akj a b 1 c d e f
abbrev akl(a b c d e:Nat):SE:=akk a b c 2 d e
abbrev gu(a b c d:Nat):SE:=akl a b c d 3
abbrev akm(a:Nat):SE:=Cd 0 a
abbrev lH:SE:=akm 0
abbrev vA(a:SE)(b c:ak):ak:=.nt (tZ a) b c
abbrev ug:SE:=.sx bw
abbrev akn(a:Nat):ak:=WE WC a
abbrev rW:ak:=.ret cx
abbrev og:SE:=iF 0
abbrev Jc(a:SE):SE:=.G3 bw a
abbrev ako(a:Nat):SE:=Jc (.var a)
abbrev qA(a:Nat)(b:SE)(c:Nat)(d:SE)(e:Nat)(f g:ak):ak:=aoG 3 a b c d e f g
abbrev zI(a b:SE)(c d:Int)(e:ak):ak:=HT a b (jq c d) e
abbrev pA(a:ak):ak:=.aS bw a
abbrev mh:SE:=.var 6
abbrev kF:SE:=g_ 7
abbrev j8:SE:=g_ 9
abbrev fE(a b:Nat):SE:=PO a 0 b
abbrev fQ(a:Nat):SE:=Ja a 2
abbrev Ol(a:Nat)(b:SE):SE:=.tr a (iC b)
abbrev WH(a:SE):SE:=mU uf a
abbrev vB:SE:=WH lE
abbrev pB:SE:=xj 2
abbrev mV:SE:=.var 9
abbrev zJ:SE:=.s []
abbrev vC:SE:=.len jX
abbrev Cf(a:SE)(b:TypeId)(c d:SE)(e f:ak):ak:=B9 a .eql b c d e f
abbrev rX:SE:=xj 15
abbrev zK(a:ak):ak:=.aS bK a
abbrev akp(a b c d:Nat)(e:ak):ak:=kC a b (lS c d) e
abbrev lI(a:BinOp)(b c:Nat)(d e:ak):ak:=HW a b c cx d e
abbrev F9(a:Nat):SE:=ake 3 a
abbrev akq(a b c:Nat):SE:=.tr a (EN b c)
abbrev pC(a b:Nat)(c:SE):ak:=B_ a b (iC c)
abbrev qB(a b c d:Nat)(e:SE)(f:ak):ak:=mE a b c (Ol d e) f
abbrev gT(a:Nat):SE:=K8 a 1
abbrev qC:SE:=.var 14
abbrev qD:ak:=F8 2
abbrev oh:SE:=dU 0
abbrev qE:ak:=akn 0
abbrev pD(a b:Nat)(c:FuncId)(d e f g:Nat)(h:ak):ak:=gB a b c (gu d e f g) h
abbrev akr(a:SE)(b c:Nat):SE:=aoH 1 a b c
abbrev uh(a:SE)(b:Nat):SE:=akr a b 0
abbrev F_(a:BinOp)(b:SE):SE:=K_ a b 1
abbrev qF(a:SE):SE:=.ok (.rw a)
abbrev Cg(a b:Nat):ak:=Ca 1 a b
abbrev Om(a:Int):ak:=aki 6 a
abbrev rY:SE:=Cc 1
abbrev rZ(a:Nat):ak:=Cg 4 a
abbrev r6:SE:=jZ 2
abbrev r7:SE:=ako 1
abbrev xk(a:Nat)(b:ak):ak:=.aS (ue a) b
abbrev mW(a:SE)(b:Nat)(c:SE)(d:Nat)(e:SE)(f:Nat)(g:ak):ak:=fv a b c d e f g rm
abbrev ui:SE:=jI 3
abbrev aks(a b:Nat)(c:SE)(d:Nat)(e f:ak):ak:=qA a bK b c d e f
abbrev oi(a b c:Nat)(d e:ak):ak:=aks a b bw c d e
abbrev Ga(a b c:Nat)(d:SE)(e:ak):ak:=EK a (jH b c) d e
abbrev akt(a:BinOp):SE:=F_ a vy
abbrev vD:SE:=akt .add
abbrev pE(a b:Nat)(c:Int)(d e:ak):ak:=jV .eql a b c d e
abbrev aku(a b c:Nat):SE:=.sQ a (Aw b c)
abbrev qG:SE:=.var 3
abbrev qH(a:FuncId)(b c d e:Nat)(f:ak):ak:=lp a (n_ b c d e) f
abbrev uj:SE:=Cc 2
abbrev uo(a:FuncId)(b:SE)(c d:Nat)(e:ak):ak:=jo a b (vw c d e)
abbrev ur(a b c:SE)(d:ak):ak:=ady 1 a b c d
abbrev adA(a b:Nat)(c:TypeId)(d e:SE)(f g:ak):ak:=Cf (lS a b) c d e f g
abbrev akv(a:TypeId)(b:SE)(c:ak):ak:=zG a b rm c
abbrev On(a:TypeId)(b:List UInt8)(c:ak):ak:=akv a (.s b) c
abbrev r8:SE:=.var 4
abbrev pF:SE:=g_ 8
abbrev gU(a:SE)(b:Nat)(c:SE)(d:Nat)(e:SE)(f:Nat)(g h:ak):ak:=akc a 3 b c d e f g h
abbrev xl:SE:=jZ 15
abbrev WI(a:SE)(b c:Nat)(d:SE):SE:=n9 a b c (iC d)
abbrev vE(a:SE):SE:=F_ .sub a
abbrev vF:ak:=Om 6
abbrev vG:SE:=.var 13
abbrev r9(a:SE)(b:Int):SE:=K_ .leq a b
abbrev zL:ak:=.ret oe
abbrev vH:ak:=F8 1
abbrev vI:SE:=iF 2
abbrev vJ:SE:=xj 4
abbrev uu(a:Nat):ak:=Cb a lT
abbrev Gb(a b:SE):SE:=.idx 1 a b
abbrev uw:SE:=dU 1
abbrev vK(a:Nat)(b:FuncId)(c d:SE)(e:ak):ak:=eC a (kD b c d e)
abbrev ux:SE:=K7 4
abbrev uy:SE:=EO 0
abbrev Ch:ak:=.ret WC
abbrev uz(a b:Nat)(c:TypeId)(d:Nat)(e:SE)(f g:ak):ak:=adA a b c (dU d) e f g
abbrev Jd(a:TypeId)(b:List UInt8)(c:TypeId)(d:List UInt8)(e:ak):ak:=On a b (On c d e)
abbrev zM(a:SE):ak:=.ret (.rws a)
abbrev vL(a:FuncId)(b c:SE)(d:ak):ak:=iD a (rl b c) d
abbrev xm:SE:=fQ 2
abbrev vM(a b:Nat)(c:FuncId)(d e:Nat)(f:ak):ak:=gB a b c (Cd d e) f
abbrev lJ(a b:Nat):ak:=Ca 0 a b
abbrev akw(a:FuncId)(b:SE)(c d:Nat)(e:SE)(f:ak):ak:=lp a (WI b c d e) f
abbrev uA(a:SE)(b:TypeId)(c:Nat)(d:SE)(e f:ak):ak:=abQ (HU a b c d e f)
abbrev akx(a b c d:SE)(e f:ak):ak:=wJ (Gb a b) c d e f
abbrev vN(a b c:SE)(d:Nat)(e:SE)(f g:ak):ak:=akx a b (uh c d) e f g
abbrev vO:SE:=g_ 11
abbrev qI(a:SE)(b:BinOp)(c:SE)(d e:ak):ak:=oa a b c cx d e
abbrev aky(a:TypeId)(b:Nat)(c:SE):SE:=rp5 .add a b c
abbrev vP(a b:SE)(c:ak):ak:=ur a cx b c
abbrev pG(a b:Nat):SE:=akq 1 a b
abbrev r_(a b c d:Nat):ak:=lU a b bf c d
abbrev mj(a:Nat)(b:ak):ak:=lq 4 a b
abbrev xn(a:TypeId)(b c d:SE)(e:ak):ak:=.bind (.ins a b c d) e
abbrev adB(a:BinOp)(b:TypeId)(c d:Nat)(e f:ak):ak:=abR a b c d zJ e f
abbrev WJ(a:SE):ak:=.ret (.rw a)
abbrev Gc:ak:=WJ lT
abbrev adC:SE:=.i (-1)
abbrev zN:ak:=F7 0
abbrev zO:ak:=F8 3
abbrev Ge(a:ak):ak:=qz (zK a)
abbrev xo(a:ak):ak:=PQ bK a
abbrev vQ(a b c d:SE):SE:=wY a b (rl c d)
abbrev Ci:SE:=jZ 16
abbrev uB(a:TypeId)(b c:Nat)(d e:ak):ak:=adB .eql a b c d e
abbrev xp:SE:=.var 0
abbrev xq(a:Nat):SE:=K8 a 0
abbrev akz(a:Nat):ak:=.nr (xq a)
abbrev akA:SE:=La 200
abbrev Cj:SE:=iC akA
abbrev akB(a:Nat)(b:SE)(c d:Int)(e:ak):ak:=zI (F9 a) b c d e
abbrev zP(a b:Nat)(c d:Int)(e:ak):ak:=akB a (F9 b) c d e
abbrev uC(a:SE)(b:ak):ak:=.nt a b bf
abbrev WK(a:Nat)(b:SE):SE:=aky 3 a b
abbrev vR(a b c:SE):SE:=wY a b (iC c)
abbrev sb(a:SE)(b:BinOp)(c:SE)(d:Int)(e:ak):ak:=od a b c d e bf
abbrev vS(a:Nat):SE:=jH a 2
abbrev xr:SE:=vS 0
abbrev zQ:SE:=dU 6
abbrev Ck:SE:=.tp .an
abbrev Cm(a:Nat)(b c:ak):ak:=vA (.var a) b c
abbrev vT(a:Nat)(b:SE)(c:Nat)(d:SE)(e:Nat)(f:ak)(g:Nat)(h:ak):ak:=qA a b c d e f (uc g h)
abbrev WL(a b:SE):SE:=ub .eql a b
abbrev Cn:ak:=rZ 5
abbrev zR:ak:=oc 2
abbrev Gf(a:SE):SE:=WK 2 a
abbrev Gg:SE:=Gf ui
abbrev Co(a:FuncId)(b:SE)(c:Nat):ak:=iD a b (akz c)
abbrev Cp:SE:=La 20
abbrev zS(a:FuncId)(b:SE)(c d:Nat)(e:ak):ak:=lp a b (vw c d e)
abbrev qJ(a:Nat):SE:=lS 4 a
abbrev vU(a:FuncId)(b c:Nat)(d:SE)(e:ak):ak:=akw a bw b c d e
abbrev xu(a:BinOp)(b:TypeId)(c:SE)(d:Int):SE:=PN a b c (lV d)
abbrev adD(a:Nat):SE:=Aw 3 a
abbrev Cq:SE:=adD 1
abbrev Cs(a:SE):ak:=t_ adC a
abbrev zT(a b c:SE)(d e:ak):ak:=.aS a (HT b c d e)
abbrev akC(a:Nat):SE:=uh oe a
abbrev Ct:SE:=akC 4
abbrev Cu(a:SE):SE:=WL a cx
abbrev akD(a b c:Nat)(d:ak):ak:=akp a 0 b c d
abbrev WM(a b:Nat)(c:ak):ak:=akD a b 1 c
abbrev uD(a:Nat)(b:ak):ak:=WM 2 a b
abbrev WN(a:SE)(b:TypeId)(c d:SE)(e f:ak):ak:=B9 a .neq b c d e f
abbrev vV(a:SE)(b:TypeId)(c:SE)(d e:ak):ak:=WN a b c cx d e
abbrev j9(a b:SE)(c:Nat)(d:SE)(e:Nat)(f:SE)(g:Nat)(h i:ak):ak:=akf a b 3 c d e f g h i
abbrev xw(a b c:Nat)(d:ak):ak:=Ga a b c cx d
abbrev xx(a b c:SE)(d:ak):ak:=pz a .neq b c d
abbrev Gh(a b:SE)(c:ak):ak:=.aS (Gb a b) c
abbrev uE(a b:Nat):SE:=aku a b 0
abbrev Cv(a:TypeId)(b c:SE)(d:ak):ak:=.bind (.has a b c) d
abbrev Cw:SE:=.var 7
abbrev Cx(a b c:Nat)(d:SE):ak:=B_ a b (zH c d)
abbrev Cy(a:BinOp)(b:TypeId)(c:SE)(d:Int)(e:ak):ak:=F6 a b c (F7 d) e
abbrev Cz:SE:=g_ 10
abbrev Je:ak:=.fail 146
abbrev Jf:ak:=oc (-1)
abbrev Gi:ak:=Om 2
abbrev zU(a:SE)(b:ak):ak:=cY gC a b
abbrev Gj:SE:=adD 0
abbrev Gk:SE:=lV 95
end Go.Ev
