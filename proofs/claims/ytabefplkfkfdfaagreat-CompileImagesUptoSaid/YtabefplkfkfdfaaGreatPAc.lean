/- Lemmas, a part of the proof; no conditions. -/
import Derived.Test.YtabefplkfkfdfaaGreatPAb
open Nat renaming beq->ZW,ble->ZK,blt->UO,rec->WN,one_mul->aLb,beq_eq->ZT,sub_zero->aK7,zero_mul->aJO
open List renaming replicate->Xp,range->YF,mem_of_mem_drop->YM,all_append->aJo,eq_of_mem_replicate->M6
open Go.Instr renaming sameNow->Uz,sameBits->Xi,findNow->Yp,findAsking->Qu,findKey->YA,checkKey->ZC
open Go.Utf8 renaming decode->Nf
open Go.IntKind renaming i64->QY
open Option renaming map_eq_some_iff->Lq,bind_some->Z8,map_some->ZO
open Prod.mk renaming injEq->TY
open Go.Builtin renaming len->aKH
open Go renaming undef->ZL,TypeId->VK,Value->ZQ,Program->V5,Operand->Xs,FuncId->V4,Oper->YX
open Go.Value.int renaming injEq->aJU
open Option renaming some->aa,none->ah
open Bool renaming true->ab,false->af
set_option linter.all false
def Yr:=@Nat.ble_eq
def YN:=@List.getElem?_of_mem
def XG:=@List.flatMap_cons
def Z_:=@List.append_nil
def Z4:=@List.getElem_mem
def Um:=@List.length_eq_one_iff
def ND:=@List.getElem?_range
def XC:=@List.mem_flatMap
def ZM:=@List.map_cons
def ZS:=@Option.bind_eq_some_iff
namespace Go.Ev
section
inductive SE where
 |var (i:Nat)
 |i (n:Int)
 |k (k:IntKind) (n:Int)
 |b (t:Bool)
 |s (l:List UInt8)
 |raw (v:ZQ)
 |ok (e:SE)
 |qG (n:Nat) (e:SE)
 |bt (e:SE) (j:Nat)
 |idx (s:Nat) (e i:SE)
 |mG (s:Nat) (e i:SE) (j:Nat)
 |len (e:SE)
 |xl (e:SE)
 |an
 |ac (a r:SE)
 |tr (s:Nat) (r:SE)
 |tp (r:SE)
 |cat (s bytes:Nat) (e f:SE)
 |BP (s:Nat) (e i x:SE)
 |sub (s:Nat) (e lo hi:SE)
 |proj (e:SE) (j:Nat)
 |bin (op:BinOp) (t:VK) (a b:SE)
 |un (op:UnOp) (a:SE)
 |cv (src dst:VK) (a:SE)
 |mx (big:Bool) (a b:SE)
 |Pr (e i:SE)
 |N2 (e lo hi:SE)
 |rw(e:SE)
 |rws (e:SE)
 |has (kt:VK) (m key:SE)
 |get (kt:VK) (m key z:SE)
 |ins (kt:VK) (m key x:SE)
 |dec (w:Nat) (a p:SE)
 deriving Inhabited
inductive au where
 |fail (why:Nat)
 |ret (e:SE)
 |test (e:SE) (a b:au)
 |bind (e:SE) (k:au)
 |aQ (e:SE) (k:au)
 |call (f:V4) (aH:Bool) (av:SE) (k:au)
 |loop (init:SE) (body:au)
 |pick (es x:SE) (a b:au)
 |same (es x:SE) (k:au)
 |uniq (k:au)
 |qH (body:au) (m:Nat) (cont:au)
 |next (lv:Nat) (av:SE)
 |bad (d f id n0 nm:Nat) (hd:List (Nat×Nat×PV SE)) (hl:List (LO SE)) (g:List (Nat×Nat×PV SE)) (l:List (LO SE))
 deriving Inhabited
section eqs
def aqu(a b:IntKind):Bool:=a==b
def mX{B:Type}(f:B->B->Bool):aj B->aj B->Bool
 |[],[]=>ab
 |a::as,b::bs=>f a b&&mX f as bs
 |_,_=>af
def SE.eq:SE->SE->Bool
 |.var x,.var y=>ZW x y
 |.i x,.i y=>x==y
 |.k j x,.k j' y=>aqu j j'&&x==y
 |.b x,.b y=>x==y
 |.s x,.s y=>mX (·==·) x y
 |.ok x,.ok y=>x.eq y
 |.bt e j,.bt f j'=>ZW j j'&&e.eq f
 |.idx q e x,.idx q' e' x'=>ZW q q'&&e.eq e'&&x.eq x'
 |.mG q e x j,.mG q' e' x' j'=>ZW q q'&&ZW j j'&&e.eq e'&&x.eq x'
 |.len e,.len f=>e.eq f
 |.xl e,.xl f=>e.eq f
 |.an,.an=>ab
 |.ac a r,.ac a' r'=>a.eq a'&&r.eq r'
 |.tr q r,.tr q' r'=>ZW q q'&&r.eq r'
 |.tp r,.tp r'=>r.eq r'
 |.proj e j,.proj f j'=>ZW j j'&&e.eq f
 |.bin op t x y,.bin op' t' x' y'=>op==op'&&ZW t t'&&x.eq x'&&y.eq y'
 |.un op x,.un op' x'=>op==op'&&x.eq x'
 |.cv q d x,.cv q' d' x'=>ZW q q'&&ZW d d'&&x.eq x'
 |.mx t x y,.mx t' x' y'=>t==t'&&x.eq x'&&y.eq y'
 |.rw x,.rw y=>x.eq y
 |.Pr e x,.Pr e' x'=>e.eq e'&&x.eq x'
 |.dec w e x,.dec w' e' x'=>ZW w w'&&e.eq e'&&x.eq x'
 |_,_=>af
end eqs
structure SS where
 g:aj (Nat×Nat×PV SE)
 l:aj (LO SE)
 n:Nat
 lv:Nat
 nt:Nat
 deriving Inhabited
def SS.ln(V:SS):Nat×Nat:=(V.lv,V.nt)
structure Hint where
 d:Nat
 f:Nat
 id:Nat
 Ps:aj (Nat×Nat×Nat)
 D4:aj (Nat×Nat)
 drop:aj (Nat×Nat)
 zQ:aj (Nat×Nat×Nat)
 deriving Inhabited
structure fz where
 pure:aj Nat
 Ir:aj Nat
 stop:aj Nat
 hints:aj Hint
 rows:aj Nat
section run
variable(P:V5)(cfg:fz)
def fieldAt(s:VK)(f:Nat):aF (Nat×Nat):=
 match P.underlying s with
 |some (.struct fields)=>match fields[f]? with
  |some fd=>match bD P fd.type with
   |some sz=>aa (fd.offset,sz)
   |none=>ah
  |none=>ah
 |_=>ah
def elemOf(t:VK):aF VK:=
 match P.underlying t with
 |some (.slice e)=>aa e
 |_=>ah
def u7:Nat->VK->aj VK
 |0,_=>[]
 |n+1,t=>match P.underlying t with
  |some (.struct fields)=>fields.toList.flatMap λf=>u7 n f.type
  |some (.array m e)=>(Xp m (u7 n e)).flatten
  |_=>[t]
def Hg(t:VK):Bool:=
 match P.underlying t with
 |some .bool|some (.int _)|some .string=>ab
 |_=>af
def D5(t:VK):ZQ->Cl SE
 |.bool b=>.v (.b b)
 |.int .i64 n=>.v (.i n)
 |.int k n=>.v (.k k n)
 |.string b=>.v (.s b.data.toList)
 |.slice ah 0 0=>match(elemOf P t).bind (bD P)with
  |some s=>if ZW s 0 then .v (.raw (.slice ah 0 0))else .nl ab s
  |none=>.v (.raw (.slice ah 0 0))
 |.agg _|.tuple _=>.un
 |v=>.v (.raw v)
def P1{B β γ:Type}(f:B->β->γ):aj B->aj β->aj γ
 |a::as,b::bs=>f a b::P1 f as bs
 |_,_=>[]
def Rp(t:VK):ZQ->PV SE
 |.agg cs=>if ZW (u7 P 9 t).length cs.toList.length then .ag (P1 (D5 P) (u7 P 9 t) cs.toList)else .one .un
 |v=>.one (D5 P t v)
def zeroCells(t:VK):aj (Cl SE):=
 match dW P t with
 |some z=>if ZW (u7 P 9 t).length z.cells.toList.length then P1 (D5 P) (u7 P 9 t) z.cells.toList else z.cells.toList.map λ_=>.un
 |none=>[]
def isAgg(t:VK):Bool:=(vL P t)==aa ab
def cJ(d:Nat)(V:SS)(t:VK):Xs->PV SE
 |.tmp x=>(dk d x V.g).getD (.one .un)
 |.const v=>Rp P t v
 |.func f=>.one (.fn f [])
 |.global _=>.one .un
def gU{B:Type}:PV B->aj (Cl B)
 |.one c=>[c]
 |.ag cs=>cs
 |.tu _=>[.un]
def zR:aj (Cl SE)->Bool
 |[]=>ab
 |.un::_=>af
 |_::cs=>zR cs
def SS.da(V:SS)(d:Nat)(dst:aF Nat)(pv:PV SE):SS:=
 match dst with
 |none=>V
 |some t=>{V with g:=Rh d t pv V.g}
def SS.np(V:SS)(d:Nat)(dst:aF Nat):SS:=
 match dst with
 |none=>V
 |some t=>{V with g:=Ij d t V.g}
def SS.xL(V:SS)(k:Nat):SS:={V with g:=Po k V.g,l:=V.l.map (LO.drop k)}
def SS.setObj(V:SS)(k:Nat)(o:LO SE):SS:={V with l:=V.l.set k o}
def fZ:aj SE->SE
 |[]=>.an
 |a::as=>.ac a (fZ as)
def qt(k:Nat)(V:SS):SS:=
 match V.l[k]? with
 |some (.row s af cut fr es)=>V.setObj k (.row s ab cut fr es)
 |_=>V
def Ng(V:SS):Cl SE->aF (Bool×SE×SS)
 |.v z=>aa (ab,z,V)
 |.w fr z=>aa (fr,z,V)
 |.nl _ s=>aa (af,.tr s .an,V)
 |.sr k=>match V.l[k]? with
  |some (.row _ _ _ fr es)=>aa (fr,es,qt k V)
  |_=>ah
 |_=>ah
def D6(V:SS):aj (Cl SE)->aF (Bool×aj SE×SS)
 |[]=>aa (af,[],V)
 |c::cs=>match Ng V c with
  |some (f1,z,V)=>match D6 V cs with
   |some (f2,zs,V)=>aa (f1||f2,z::zs,V)
   |none=>ah
  |none=>ah
def BQ(V:SS):PV SE->aF (Bool×SE×SS)
 |.one c=>Ng V c
 |.ag cs=>match D6 V cs with
  |some (f,zs,V)=>aa (f,fZ zs,V)
  |none=>ah
 |.tu vs=>match PR V vs with
  |some (f,zs,V)=>aa (f,.tp (fZ zs),V)
  |none=>ah
where PR (V:SS):aj (Bool×aj (Cl SE))->aF (Bool×aj SE×SS)
 |[]=>aa (af,[],V)
 |(a,cs)::vs=>match D6 V cs with
  |some (f1,zs,V)=>match PR V vs with
   |some (f2,ys,V)=>match a,zs with
    |true,zs=>aa (f1||f2,fZ zs::ys,V)
    |false,[z]=>aa (f1||f2,z::ys,V)
    |_,_=>ah
   |none=>ah
  |none=>ah
def zS:aj (Cl SE)->Bool
 |[]=>ab
 |.v _::cs=>zS cs
 |.nl _ _::cs=>zS cs
 |_::_=>af
def pL:PV SE->Bool
 |.one c=>zS [c]
 |.ag cs=>zS cs
 |.tu _=>af
def ofType(t:VK)(e:SE):PV SE:=
 if isAgg P t then .ag ((YF ((bD P t).getD 0)).map λj=>.v (.bt e j))else .one (.v (.ok e))
def wz(t:VK)(e:SE)(k:au):au:=if isAgg P t then .aQ (.qG ((bD P t).getD 0) e) k else .aQ (.ok e) k
def WO(e:SE):Nat->aj VK->au->au
 |_,[],k=>k
 |j,t::ts,k=>wz P t (.proj e j) (WO e (j+1) ts k)
def vk(e:SE)(V:SS)(k:PV SE->SS->au):au:=.aQ e (k (.one (.v e)) V)
def Rq(e:SE):Nat->aj VK->aj (Bool×aj (Cl SE))
 |_,[]=>[]
 |j,t::ts=>(isAgg P t,gU (ofType P t (.proj e j)))::Rq e (j+1) ts
def mK(d:Nat)(V:SS):aj Xs->aj VK->aj (PV SE)
 |x::xs,t::ts=>cJ P d V t x::mK d V xs ts
 |x::xs,[]=>cJ P d V 0 x::mK d V xs []
 |[],_=>[]
def WQ(d:Nat)(V:SS):aj Xs->aF (aj (Nat×Nat))
 |[]=>aa []
 |x::xs=>match cJ P d V 0 x with
  |.one (.pt k 0 ext)=>match WQ d V xs with
   |some l=>aa ((k,ext)::l)
   |none=>ah
  |_=>ah
def Hh(cells:aj (Cl SE))(ay:Nat)(aH:aj (Cl SE)):aj (Cl SE):=cells.take ay++aH++cells.drop (ay+aH.length)
def rY(get:Nat->Xs->aj (Cl SE))(place:Nat->aF (Nat×Nat)):aj (Nat×Xs)->aj (Cl SE)->aF (aj (Cl SE))
 |[],cs=>aa cs
 |(j,x)::ps,cs=>match place j with
  |some (ay,sz)=>
   let aH:=get j x
   if zR aH&&ZW aH.length sz&&ZK (ay+sz) cs.length then rY get place ps (Hh cs ay aH)else ah
  |none=>ah
def aqv(fields:Array Field)(j:Nat):VK:=((fields[j]?).map (·.type)).getD 0
def anO(fields:Array Field)(j:Nat):aF (Nat×Nat):=(fields[j]?).bind λf=>(bD P f.type).map λs=>(f.offset,s)
def aas(s j:Nat):aF (Nat×Nat):=aa (j*s,s)
def Pt:SE->Bool
 |.i _|.k _ _|.b _|.s _=>ab
 |_=>af
def rdT(V:SS)(c:Cl SE)(t:VK):aF (Bool×SE×SS×aj SE):=
 match c with
 |.v z=>if Hg P t then aa (af,z,V,if Pt z then[]else[z])else aa (ab,z,V,[])
 |c=>match Ng V c with
  |some (fr,z,V)=>aa (fr,z,V,[])
  |none=>ah
def XU(V:SS):aj (Cl SE)->aj VK->aF (Bool×aj SE×SS×aj SE)
 |[],_=>aa (af,[],V,[])
 |c::cs,t::ts=>match rdT P V c t with
  |some (f1,z,V,r1)=>match XU V cs ts with
   |some (f2,zs,V,r2)=>aa (f1||f2,z::zs,V,r1++r2)
   |none=>ah
  |none=>ah
 |_::_,[]=>ah
def D7(s:Nat):Nat->aj SE->aj SE
 |0,_=>[]
 |n+1,zs=>fZ (zs.take s)::D7 s n (zs.drop s)
def WR(zero:aj (Cl SE)):Nat->aj (Cl SE)
 |0=>[]
 |n+1=>zero++WR zero n
def afE(ts:aj VK):Nat->aj VK
 |0=>[]
 |n+1=>ts++afE ts n
def ac5:aj SE->au->au
 |[],k=>k
 |e::es,k=>.aQ (.rw e) (ac5 es k)
def newVar(V:SS)(e:SE)(k:SE->SS->au):au:=.bind e (k (.var V.n) {V with n:=V.n+1})
def newObj(V:SS)(o:LO SE)(k:Nat->SS->au):au:=k V.l.length {V with l:=V.l++[o]}
def ac6(t:VK)(a:PV SE)(V:SS)(k:PV SE->SS->au):au:=
 let ag:=isAgg P t
 match bD P t,vL P t with
 |none,_=>.fail 1
 |_,ah=>.fail 1
 |some s,aa _=>
  let out (cs:aj (Cl SE)):au:=if ag then(if ZW cs.length s then k (.ag cs) V else .fail 2)else match cs with
   |[c]=>k (.one c) V
   |_=>.fail 3
  match a with
  |.one (.pt j ay ext)=>match V.l[j]? with
   |some (.var cs)=>if ZK s ext&&ZK (ay+s) cs.length then out ((cs.drop ay).take s)else .fail 4
   |_=>.fail 5
  |.one (.tp cs)=>if ZK s cs.length then out (((cs.map .v).drop 0).take s)else .fail 4
  |.one (.tw fr cs)=>if ZK s cs.length then out (((cs.map (.w fr)).drop 0).take s)else .fail 4
  |.one (.pr j i ay ext)=>match V.l[j]? with
   |some (.row sz _ _ fr es)=>if ZK s ext then out ((((YF sz).map λq=>.w fr (.mG sz es i q)).drop ay).take s)else .fail 4
   |_=>.fail 6
  |_=>.fail 7
def Hi(bytes:Nat)(s:Nat)(base:Cl SE)(fr:Bool)(es:SE)(V:SS)(k:PV SE->SS->au):au:=
 match base with
 |.nl _ s'=>if ZW s s' then newVar V (.cat s bytes (.tr s .an) es) λz V=>newObj V (.row s af af fr z) λj V=>k (.one (.sr j)) V else .fail 10
 |.sr j=>match V.l[j]? with
  |some (.row s' st cut eP bF)=>
   if ZW s s'&& !(st&&cut)then newVar V (.cat s bytes bF es) λz V=>k (.one (.sr j)) (((V.xL j)).setObj j (.row s st cut (fr||eP) z))else .fail 11
  |_=>.fail 12
 |_=>.fail 13
def avV(j:Nat):Cl SE->Bool
 |.sr j'=> !ZW j j'
 |_=>ab
def zT(V:SS)(et:VK)(s:Nat)(base:Cl SE):Cl SE->aF (Bool×SE×Bool)
 |.sr j=>match V.l[j]? with
  |some (.row s' _ _ fr es)=>if ZW s s'&&avV j base then aa (fr,es,af)else ah
  |_=>ah
 |.nl _ _=>aa (af,.tr s .an,af)
 |.w fr z=>aa (fr,z,af)
 |.v z=>if(u7 P 9 et).all (Hg P)then aa (af,z,ab)else aa (ab,z,af)
 |_=>ah
def ac7(o:aF (LO SE))(s:Nat)(cut fr:Bool)(es:SE):Bool:=
 match o with
 |some (.row s' af BR eP bF)=>ZW s s'&&cut==BR&&fr==eP&&es.eq bF
 |_=>af
def Is(t:VK):aF SE:=
 match dW P t with
 |some (.bool b)=>aa (.b b)
 |some (.int q n)=>aa (.k q n)
 |some (.string b)=>aa (.s b.data.toList)
 |_=>ah
def Mf:aj (Cl SE)->aF (aj SE)
 |[]=>aa []
 |.v e::ds=>match Mf ds with
  |some es=>aa (e::es)
  |none=>ah
 |_::_=>ah
def Bm:aj (Cl SE)->aF (aj SE)
 |[]=>aa []
 |c::ds=>match c with
  |.v e|.w _ e=>(Bm ds).map (e::·)
  |.nl _ s=>(Bm ds).map (.tr s .an::·)
  |_=>ah
def N3:PV SE->aF SE
 |.one (.v e)=>aa e
 |.one (.w _ e)=>aa e
 |.ag cs=>(Bm cs).map fZ
 |_=>ah
def Rr(kt:VK)(m key x:PV SE)(V:SS)(k:PV SE->SS->au):au:=
 match m,N3 key,N3 x with
 |.one (.mp j),aa ke,aa xe=>match V.l[j]? with
  |some (.mp uo es)=>if ZW kt uo&& !rL kt then newVar V (.ins kt es ke xe) λz V=>k (.one .un) (V.setObj j (.mp kt z))else .fail 63
  |_=>.fail 64
 |_,_,_=>.fail 65
def aat(kt et:VK)(m key:PV SE)(ok:Bool)(V:SS)(k:PV SE->SS->au):au:=
 match m,N3 key,Is P et with
 |.one (.mp j),aa ke,aa z0=>match V.l[j]? with
  |some (.mp uo es)=>if ZW kt uo&& !rL kt then newVar V (.ok (.rw (.get kt es ke z0))) λr V=>
    if ok then newVar V (.has kt es ke) λh V=>k (.tu [(af,[.v r]),(af,[.v h])]) V else k (.one (.v r)) V
   else .fail 67
  |_=>.fail 68
 |_,_,_=>.fail 69
def U4(t:VK):Bool:=
 match dW P t with
 |some (.agg cs)=>cs.toList.isEmpty
 |_=>af
def Rt(kt et:VK)(m key:PV SE)(ok:Bool)(V:SS)(k:PV SE->SS->au):au:=
 match m,N3 key,(match dW P et with|some (.agg _)=>Bm (zeroCells P et)|_=>ah),bD P et with
 |.one (.mp j),aa ke,aa zs,aa n=>match V.l[j]? with
  |some (.mp uo es)=>if ZW kt uo&& !rL kt then newVar V (.qG n (.get kt es ke (fZ zs))) λr V=>
    let cs:aj (Cl SE):=(YF n).map λj=>.w ab (.bt r j)
    if ok then newVar V (.has kt es ke) λh V=>k (.tu [(ab,cs),(af,[.v h])]) V else k (.ag cs) V
   else .fail 67
  |_=>.fail 68
 |_,_,_,_=>.fail 70
def Ru(kt:VK)(m key:PV SE)(V:SS)(k:PV SE->SS->au):au:=
 match m,N3 key with
 |.one (.mp j),aa ke=>match V.l[j]? with
  |some (.mp uo es)=>if ZW kt uo&& !rL kt then .aQ (.qG 0 (.get kt es ke .an)) (newVar V (.has kt es ke) λh V=>k (.tu [(ab,[]),(af,[.v h])]) V)else .fail 67
  |_=>.fail 68
 |_,_=>.fail 69
def N4(d:Nat)(V:SS)(Uu:SE):aF Xs->aF SE
 |none=>aa Uu
 |some o=>match cJ P d V 3 o with
  |.one (.v e)=>aa e
  |_=>ah
def stood(V:SS):Cl SE->Bool
 |.sr j=>match V.l[j]? with
  |some (.row _ st _ _ _)=>st
  |_=>af
 |_=>af
def Rw(d:Nat)(t:VK)(x:PV SE)(lo hi mx:aF Xs)(V:SS)(k:PV SE->SS->au):au:=
 match P.underlying t,x,mx with
 |some (.slice el),.one c,ah=>match bD P el with
  |some s=>match c,lo,hi,stood V c with
   |.sr j,aa l,ah,af=>match V.l[j]?,cJ P d V 3 l with
    |some (.row s' af cut fr es),.one (.v e)=>if ZW s s' then .aQ (.sub s es e (.len es)) (k (.one (.sv j e)) V)else .fail 24
    |_,_=>.fail 25
   |c,lo,hi,_=>match(match c with|.v _|.nl _ _|.sr _=>Ng V c|_=>ah)with
    |some (fr,z,V2)=>match N4 P d V (.i 0) lo,N4 P d V (.len z) hi with
     |some l,aa h=>newVar V2 (.sub s z l h) λy V=>k (.one (.w fr y)) V
     |_,_=>.fail 26
    |none=>.fail 27
  |none=>.fail 28
 |_,_,_=>.fail 29
def xm:PV SE->aF SE
 |.one (.v e)=>aa e
 |.one (.w _ e)=>aa e
 |_=>ah
def mxS(big:Bool)(dM:aj (PV SE))(V:SS)(k:PV SE->SS->au):au:=
 match dM with
 |[a,b]=>match xm a,xm b with
  |some a,aa b=>vk (.ok (.rw (.mx big a b))) V k
  |_,_=>.fail 75
 |_=>.fail 76
def isStr(t:VK):Bool:=match P.underlying t with
 |some .string=>ab
 |_=>af
def N5(d:Nat)(x:PV SE)(lo hi mx:aF Xs)(V:SS)(k:PV SE->SS->au):au:=
 match xm x,mx with
 |some a,ah=>match N4 P d V (.i 0) lo,N4 P d V (.xl a) hi with
  |some l,aa h=>newVar V (.N2 a l h) λz V=>k (.one (.v z)) V
  |_,_=>.fail 20
 |_,_=>.fail 21
def Zq(d:Nat)(t:VK)(l c:Xs)(V:SS)(k:PV SE->SS->au):au:=
 match P.underlying t,cJ P d V 0 l,xm (cJ P d V 0 c)with
 |some (.slice el),.one (.v (.i 0)),aa ce=>match bD P el,dW P el,(P.info? el).map (·.bytes)with
  |some s,aa z,aa bytes=>if !ZW s 0&&ZW z.cells.size s&&ZK bytes 1000000&&(z.cells.toList.map IV.raw).all Ev.aw then
    .aQ (.dec 7 ce (.b ab)) (newObj V (.row s af af af (.tr s .an)) λj V=>k (.one (.sr j)) V)else .fail 202
  |_,_,_=>.fail 202
 |some (.slice el),pl,aa ce=>match xm pl,bD P el,dW P el,Is P el,(P.info? el).map (·.bytes)with
  |some le,aa s,aa z,aa ze,aa bytes=>if le.eq ce&&ZW s 1&&ZK bytes 1000000&&ZW z.cells.size 1&&(z.cells.toList.map IV.raw).all Ev.aw then
    newVar V (.dec 10 ce ze) λe V=>newObj V (.row 1 af af af e) λj V=>k (.one (.sr j)) V else .fail 202
  |_,_,_,_,_=>.fail 202
 |_,_,_=>.fail 202
def Tq(t:VK)(e:SE):Bool×aj (Cl SE):=
 if isAgg P t then(ab,(YF ((bD P t).getD 0)).map λj=>.w ab (.bt e j))else if Hg P t then(af,[.v (.ok (.rw e))])else(af,[.w ab (.ok e)])
def Pu(t:VK)(e:SE)(k:au):au:=
 if isAgg P t then .aQ (.qG ((bD P t).getD 0) e) k else if Hg P t then .aQ (.ok (.rw e)) k else .aQ (.ok e) k
def afF(d:Nat)(it:Xs)(V:SS)(k:PV SE->SS->au):au:=
 match cJ P d V 0 it with
 |.one (.mp j)=>match V.l[j]? with
  |some (.mp kt x)=>if ZK 1000000 kt then(match V.l[kt % 1000000]?,P.underlying (kt/1000000- 1)with
   |some (.mp rM es),aa (.map _ et)=>if rL rM then .fail 191 else .same es x (Pu P rM (.proj (.proj x 2) 0) (Pu P et (.proj (.proj x 2) 1) (k (.tu [Tq P rM (.proj (.proj x 2) 0),Tq P et (.proj (.proj x 2) 1)]) V)))
   |_,_=>.fail 191)else .fail 191
  |_=>.fail 191
 |_=>.fail 191
def WS(d:Nat)(t:VK)(x:PV SE)(lo hi mx:aF Xs)(V:SS)(k:PV SE->SS->au):aF au:=
 match P.underlying t,x,lo,hi,mx with
 |some (.slice el),.one c,ah,aa h,ah=>match cJ P d V 3 h,bD P el,c with
  |.one (.v (.i 0)),aa s,.nl ab s'=>if ZW s s' then aa (k (.one (.nl ab s)) V)else ah
  |.one (.v (.i 0)),aa s,.sr j=>match V.l[j]? with
   |some (.row s' af _ fr es)=>if ZW s s' then aa (.aQ (.idx s es (.i 0)) (k (.one (.sr j)) ((V.xL j).setObj j (.row s af ab fr (.tr s .an)))))else ah
   |_=>ah
  |_,_,_=>ah
 |_,_,_,_,_=>ah
def lx(d:Nat)(o:YX)(V:SS)(k:PV SE->SS->au):au:=
 match o.op with
 |.makeFunc (.func f) first cap=>if first.toList.isEmpty then match WQ P d V cap.toList with
   |some bs=>k (.one (.fn f bs)) V
   |none=>.fail 60
  else .fail 61
 |.makeMap t r=>match r,P.underlying t with
  |none,aa (.map kt _)=>if rL kt then .fail 76 else newObj V (.mp kt (.tp .an)) λj V=>k (.one (.mp j)) V
  |_,_=>.fail 62
 |.makeSlice t l c=>Zq P d t l c V k
 |.mapUpdate t m key x|.insert t m key x=>match P.underlying t with
  |some (.map kt et)=>Rr kt (cJ P d V t m) (cJ P d V kt key) (cJ P d V et x) V k
  |_=>.fail 66
 |.lookup t m key ok=>match P.underlying t with
  |some (.map kt et)=>if ok&&U4 P et then Ru kt (cJ P d V t m) (cJ P d V kt key) V k else if isAgg P et then Rt P kt et (cJ P d V t m) (cJ P d V kt key) ok V k else aat P kt et (cJ P d V t m) (cJ P d V kt key) ok V k
  |_=>.fail 70
 |.range t x=>match P.underlying t,xm (cJ P d V t x)with
  |some .string,aa a=>.aQ (.xl a) (newObj V (.mp 0 (.tp (.ac a (.ac (.i 0) .an)))) λj V=>k (.one (.mp j)) V)
  |some (.map _ _),_=>match cJ P d V t x with
   |.one (.mp m)=>match V.l[m]? with
    |some (.mp kt es)=>if rL kt|| !UO m 1000000 then .fail 77 else .aQ (.dec 9 es (.b ab)) (newObj V (.mp ((t+1)*1000000+m) (.tp (.ac es (.ac es .an)))) λj V=>k (.one (.mp j)) V)
    |_=>.fail 77
   |_=>.fail 77
  |_,_=>.fail 77
 |.next it ab=>match cJ P d V 0 it with
  |.one (.mp j)=>match V.l[j]? with
   |some (.mp kt es)=>if ZW kt 0 then .test (.dec 0 (.proj es 0) (.proj es 1))
     (newVar V (.tp (.ac (.proj es 0) (.ac (.dec 2 (.proj es 0) (.proj es 1)) .an))) λz V=>k (.tu [(af,[.v (.b ab)]),(af,[.v (.proj es 1)]),(af,[.v (.dec 1 (.proj es 0) (.proj es 1))])]) (V.setObj j (.mp 0 z)))
     (k (.tu [(af,[.v (.b af)])]) V)else .fail 78
   |_=>.fail 79
  |_=>.fail 79
 |.entry it=>afF P d it V k
 |.index t x ix=>match P.underlying t,xm (cJ P d V t x),xm (cJ P d V 0 ix)with
  |some .string,aa a,aa b=>vk (.Pr a b) V k
  |_,_,_=>.fail 74
 |.slice t x lo hi mx=>match WS P d t (cJ P d V t x) lo hi mx V k with
  |some f=>f
  |none=>if isStr P t then N5 P d (cJ P d V t x) lo hi mx V k else Rw P d t (cJ P d V t x) lo hi mx V k
 |.call c=>match c.callee with
  |.builtin .cap=>match mK P d V c.args.toList c.argTypes.toList,(c.argTypes[0]?).bind P.underlying with
   |[.one (.nl ab _)],aa (.slice _)=>k (.one (.v (.i 0))) V
   |_,_=>.fail 207
  |.builtin .max=>mxS ab (mK P d V c.args.toList c.argTypes.toList) V k
  |_=>.fail 201
 |_=>.fail 200
def Uj(et t1:VK)(base x:Cl SE)(V:SS)(k:PV SE->SS->au):au:=
 match P.underlying t1,base,x with
 |some (.int _),.nl ab s,.v n=>match bD P et,dW P et,Is P et,(P.info? et).map (·.bytes)with
  |some s',aa z,aa ze,aa bytes=>if ZW s 1&&ZW s' 1&&ZK bytes 1000000&&ZW z.cells.size 1&&(z.cells.toList.map IV.raw).all Ev.aw then
    newVar V (.dec 8 n ze) λe V=>newObj V (.row 1 af af af e) λj V=>k (.one (.sr j)) V else .fail 208
  |_,_,_,_=>.fail 208
 |_,_,_=>.fail 208
def WT(i:SE)(f:Nat->au):Nat->Nat->au
 |_,0=>.fail 85
 |c,m+1=>.test (.bin .lss 3 i (.i (c+1))) (f c) (WT i f (c+1) m)
def aau(i:SE)(f:Nat->au)(n:Nat):au:=.test (.bin .lss 3 i (.i 0)) (.fail 85) (WT i f 0 n)
def jB(d:Nat)(o:YX)(V:SS)(k:PV SE->SS->au):au:=
 let get (t:VK) (x:Xs):PV SE:=cJ P d V t x
 match o.op with
 |.move x|.assign x=>k (get o.type x) V
 |.pick c a b=>match get 0 c with
  |.one (.v (.b ab))=>k (get o.type a) V
  |.one (.v (.b af))=>k (get o.type b) V
  |_=>.fail 40
 |.alloc t=>let cs:=zeroCells P t;if(dW P t).isNone then .fail 38 else newObj V (.var cs) λj V=>k (.one (.pt j 0 cs.length)) V
 |.box t x=>let cs:=gU (get t x);if !zR cs then .fail 39 else newObj V (.var cs) λj V=>k (.one (.pt j 0 cs.length)) V
 |.load t a=>ac6 P t (get 0 a) V k
 |.store t a x=>match get 0 a with
  |.one (.pt j ay ext)=>match V.l[j]? with
   |some (.var cs)=>
    let aH:=gU (get t x)
    if zR aH&&ZK aH.length ext&&ZK (ay+aH.length) cs.length&&(bD P t)==aa aH.length then k (.one .un) (V.setObj j (.var (Hh cs ay aH)))else .fail 41
   |_=>.fail 42
  |.one (.pr j i ay ext)=>match V.l[j]? with
   |some (.row s af cut fr es)=>
    let aH:=gU (get t x)
    if ZW ay 0&&ZW aH.length s&&ZW s ext&&bD P t==aa s&&zR aH&&(isAgg P t||ZW s 1)then
     match D6 V aH with
     |some (f,zs,V2)=>if ac7 V2.l[j]? s cut fr es then newVar V2 (.BP s es i (if isAgg P t then fZ zs else zs.headD .an)) λz V=>k (.one .un) (V.setObj j (.row s af cut (fr||f) z))else .fail 43
     |none=>.fail 43
    else .fail 44
   |_=>.fail 45
  |_=>.fail 46
 |.nilCheck x=>match get 0 x with
  |.one (.pt a b c)=>k (.one (.pt a b c)) V
  |.one (.fn _ _)=>.fail 47
  |.one (.tp a)=>k (.one (.tp a)) V
  |_=>.fail 47
 |.binOp op t x y _=>match get t x,get t y with
  |.ag cs,.ag ds=>match D6 V cs,D6 V ds with
   |some (_,a,_),aa (_,b,_)=>vk (.ok (.bin op t (fZ a) (fZ b))) V k
   |_,_=>.fail 48
  |.one (.v a),.one (.v b)=>vk (.ok (.bin op t a b)) V k
  |.one (.w _ a),.one (.v b)=>vk (.ok (.bin op t a b)) V k
  |.one (.v a),.one (.w _ b)=>vk (.ok (.bin op t a b)) V k
  |.one (.w _ a),.one (.w _ b)=>vk (.ok (.bin op t a b)) V k
  |_,_=>.fail 50
 |.unOp op _ x=>match get 0 x with
  |.one (.v (.b t))=>match op with
   |.not=>k (.one (.v (.b (!t)))) V
   |_=>.fail 51
  |.one (.v a)=>vk (.ok (.un op a)) V k
  |.one (.w _ a)=>vk (.ok (.un op a)) V k
  |_=>.fail 52
 |.convert src dst x=>match get src x with
  |.one (.v a)=>vk (.ok (.cv src dst a)) V k
  |.one (.w _ a)=>vk (.ok (.cv src dst a)) V k
  |_=>.fail 53
 |.build t parts=>match P.underlying t with
  |some (.struct fields)=>
   if !(fields.all λf=>(bD P f.type).isSome)||(dW P t).isNone then .fail 53 else
   match rY (λj x=>gU (cJ P d V (aqv fields j) x)) (anO P fields) parts.toList (zeroCells P t)with
   |some cs=>k (.ag cs) V
   |none=>.fail 54
  |some (.array _ et)=>match bD P et with
   |some s=>if(dW P t).isNone then .fail 53 else
    match rY (λ_ x=>gU (cJ P d V et x)) (aas s) parts.toList (zeroCells P t)with
    |some cs=>k (.ag cs) V
    |none=>.fail 55
   |none=>.fail 56
  |_=>.fail 56
 |.buildSlice t len parts=>match elemOf P t with
  |some et=>match bD P et,dW P et with
   |some s,aa z=>if ZW s 0|| !ZW z.cells.size s|| !ZK (len*s) 1048576 then .fail 58 else
    if ZW len 0 then(if parts.toList.isEmpty then k (.one (.nl af s)) V else .fail 58)else
    match rY (λ_ x=>gU (cJ P d V et x)) (aas s) parts.toList (WR (zeroCells P et) len)with
    |some cs=>match XU P V cs (afE (u7 P 9 et) len)with
     |some (fr,zs,V,rws)=>if !(isAgg P et||ZW s 1)then .fail 57 else
      ac5 (if fr then[]else rws) (newObj V (.row s af af fr (.tr s (fZ (if isAgg P et then D7 s len zs else zs)))) λj V=>k (.one (.sr j)) V)
     |none=>.fail 57
    |none=>.fail 57
   |_,_=>.fail 58
  |none=>.fail 59
 |.fieldAddr s x f=>match fieldAt P s f with
  |some (fo,sz)=>if ZW sz 0 then .fail 71 else match get 0 x with
   |.one (.pt j ay ext)=>if ZK (fo+sz) ext then k (.one (.pt j (ay+fo) sz)) V else .fail 72
   |.one (.tp cs)=>if ZK (fo+sz) cs.length then k (.one (.tp ((cs.drop fo).take sz))) V else .fail 73
   |.one (.tw fr cs)=>if ZK (fo+sz) cs.length then k (.one (.tw fr ((cs.drop fo).take sz))) V else .fail 73
   |.one (.pr j i ay ext)=>if ZK (fo+sz) ext then k (.one (.pr j i (ay+fo) sz)) V else .fail 74
   |_=>.fail 75
  |none=>.fail 76
 |.field t x f=>match get t x,fieldAt P t f with
  |.ag cs,aa (fo,sz)=>match P.underlying t with
   |some (.struct fields)=>
    if ZK (fo+sz) cs.length&&(vL P ((fields[f]?).map (·.type)|>.getD 0)).isSome then
     if isAgg P ((fields[f]?).map (·.type)|>.getD 0)then(if ZW ((cs.drop fo).take sz).length sz then k (.ag ((cs.drop fo).take sz)) V else .fail 77)else match(cs.drop fo).take sz with
     |[c]=>k (.one c) V
     |_=>.fail 78
    else .fail 79
   |_=>.fail 79
  |_,_=>.fail 80
 |.indexAddr t x ix=>match P.underlying t,get 3 ix,xm (get 3 ix)with
  |some (.slice et),_,aa i=>match bD P et with
   |some s=>match get t x with
    |.one (.v z)=>newVar V (.idx s z i) λe V=>wz P et e (k (.one (.tp (if isAgg P et then(YF s).map (λj=>.bt e j)else[.ok e]))) V)
    |.one (.w fr z)=>newVar V (.idx s z i) λe V=>wz P et e (k (.one (.tw fr (if isAgg P et then(YF s).map (λj=>.bt e j)else[.ok e]))) V)
    |.one (.sr j)=>match V.l[j]? with
     |some (.row s' _ _ _ es)=>if ZW s s' then .aQ (.idx s es i) (k (.one (.pr j i 0 s)) V)else .fail 81
     |_=>.fail 82
    |_=>.fail 83
   |none=>.fail 84
  |some (.array n et),.one (.v (.i i)),_=>match bD P et,get t x with
   |some s,.one (.pt j ay ext)=>if !ZW s 0&&decide (0<=i)&&UO i.toNat n&&ZK (i.toNat*s+s) ext then k (.one (.pt j (ay+i.toNat*s) s)) V else .fail 85
   |some s,.one (.tp cs)=>.fail 86
   |_,_=>.fail 87
  |some (.array n et),_,aa i=>match bD P et,get t x with
   |some s,.one (.pt j ay ext)=>if !ZW s 0&&ZK (n*s) ext&&ZK n 8 then aau i (λc=>k (.one (.pt j (ay+c*s) s)) V) n else .fail 85
   |_,_=>.fail 87
  |_,_,_=>.fail 88
 |.extract x i=>match get 0 x with
  |.tu vs=>match vs[i]? with
   |some (ab,cs)=>k (.ag cs) V
   |some (af,[c])=>k (.one c) V
   |_=>.fail 93
  |_=>.fail 94
 |.call c=>match c.callee with
  |.builtin b=>match b,mK P d V c.args.toList c.argTypes.toList with
   |.len,[pv]=>match(c.argTypes[0]?).bind P.underlying with
    |some .string=>match pv with
     |.one (.v z)=>vk (.xl z) V k
     |.one (.w _ z)=>vk (.xl z) V k
     |_=>.fail 96
    |some (.slice _)=>match pv with
     |.one (.v z)=>vk (.len z) V k
     |.one (.w _ z)=>vk (.len z) V k
     |.one (.nl _ _)=>k (.one (.v (.i 0))) V
     |.one (.sr j)=>match V.l[j]? with
      |some (.row _ _ _ _ es)=>vk (.len es) V k
      |_=>.fail 95
     |_=>.fail 96
    |some (.map _ _)=>match pv with
     |.one (.mp j)=>match V.l[j]? with
      |some (.mp kt es)=>if rL kt then .fail 95 else vk (.dec 9 es (.b ab)) V k
      |_=>.fail 95
     |_=>.fail 96
    |_=>.fail 96
   |.append,[.one base,.one x]=>match c.argTypes[0]?,c.argTypes[1]? with
    |some t0,aa t1=>match elemOf P t0,elemOf P t1 with
     |some et,aa _=>match bD P et,dW P et,(P.info? et).map (·.bytes)with
      |some s,aa z,aa bytes=>if ZW s 0|| !ZW z.cells.size s then .fail 97 else
       match zT P V et s base x with
       |some (fr,es,raw)=>if raw then .aQ (.rws es) (Hi bytes s base fr es V k)else Hi bytes s base fr es V k
       |none=>.fail 98
      |_,_,_=>.fail 101
     |some et,ah=>Uj P et t1 base x V k
     |_,_=>.fail 102
    |_,_=>.fail 102
   |.len,_=>.fail 105
   |.append,_=>.fail 105
   |_,_=>lx P d o V k
  |_=>.fail 106
 |_=>lx P d o V k
inductive zC where
 |normal
 |exit (id:Nat)
 |ret
 |dh (t:VK) (pv:PV SE)
abbrev Kx:=VK->PV SE->SS->au
inductive Want where
 |run|skip|test (t:Nat) (e:SE) (want:Bool)|fail
def yw(ao:Array YX)(d:Nat)(V:SS)(o:YX):Want:=
 match o.guard with
 |none=>.run
 |some (j,want)=>match(ao[j]?).bind (·.dst)with
  |some t=>if !UO t V.nt then .fail else match dk d t V.g with
   |some (.one (.v (.b x)))=>if x==want then .run else .skip
   |some (.one (.v e))=>.test t e want
   |some (.one (.w _ e))=>.test t e want
   |_=>.fail
  |none=>.fail
def Hj(l:aj (Nat×Nat×Nat))(d t j:Nat):Bool:=l.any λ(a,b,c)=>ZW a d&&ZW b t&&ZW c j
def rh(l:aj (Nat×Nat))(a b:Nat):Bool:=l.any λ(c,d)=>ZW a c&&ZW b d
def aqw(ch:Bool)(mode:Nat)(c:Cl SE)(n:Nat)(init:aj SE):Cl SE×Nat×aj SE:=
 match mode,c with
 |1,.v z=>(.v (.var n),n+1,z::init)
 |1,.nl _ s=>(.v (.var n),n+1,.tr s .an::init)
 |2,.v z=>(.w ab (.var n),n+1,z::init)
 |2,.w _ z=>(.w ab (.var n),n+1,z::init)
 |2,.nl _ s=>(.w ab (.var n),n+1,.tr s .an::init)
 |_,c=>
  if ch then match c with
   |.v z=>(.v (.var n),n+1,z::init)
   |.w fr z=>(.w fr (.var n),n+1,z::init)
   |c=>(c,n,init)
  else(c,n,init)
def U5(ch:Nat->Bool):Nat->aj (Cl SE)->Nat->aj SE->aj (Cl SE)×Nat×aj SE
 |_,[],n,init=>([],n,init)
 |j,c::cs,n,init=>
  let(c,n,init):=aqw (ch j) 0 c n init
  let(cs,n,init):=U5 ch (j+1) cs n init
  (c::cs,n,init)
def afG(h:Hint)(d t:Nat):Nat:=if Hj h.zQ d t 2 then 2 else if Hj h.zQ d t 1 then 1 else 0
def alg(ch:Nat->Bool):Nat->aj (Bool×aj (Cl SE))->Nat->aj SE->aj (Bool×aj (Cl SE))×Nat×aj SE
 |_,[],n,init=>([],n,init)
 |j,(a,cs)::vs,n,init=>
  let(cs,n,init):=U5 ch j cs n init
  let(vs,n,init):=alg ch (j+cs.length) vs n init
  ((a,cs)::vs,n,init)
def Rx(h:Hint):aj (Nat×Nat×PV SE)->Nat->aj SE->aj (Nat×Nat×PV SE)×Nat×aj SE
 |[],n,init=>([],n,init)
 |(d,t,pv)::g,n,init=>
  if rh h.drop d t then Rx h g n init else
  match pv with
  |.one c=>
   let(c,n,init):=aqw (Hj h.Ps d t 0) (afG h d t) c n init
   let(g,n,init):=Rx h g n init
   ((d,t,.one c)::g,n,init)
  |.ag cs=>
   let(cs,n,init):=U5 (Hj h.Ps d t) 0 cs n init
   let(g,n,init):=Rx h g n init
   ((d,t,.ag cs)::g,n,init)
  |.tu vs=>
   let(vs,n,init):=alg (Hj h.Ps d t) 0 vs n init
   let(g,n,init):=Rx h g n init
   ((d,t,.tu vs)::g,n,init)
def Dz(d t:Nat)(V:SS):SS:=
 match dk d t V.g with
 |some (.one (.sr k))=>match V.l[k]? with
  |some (.row _ _ _ fr es)=>(qt k V).da d (aa t) (.one (.w fr es))
  |_=>V
 |_=>V
def settle:aj (Nat×Nat×Nat)->SS->SS
 |[],V=>V
 |(d,t,m)::ws,V=>settle ws (if ZW m 2 then Dz d t V else V)
def Bo(L:aj (LO SE)):aj (Nat×Nat×PV SE)->SS->SS
 |[],W=>W
 |(d,t,.one (.sr k))::g,W=>Bo L g (match L[k]? with
  |some (.row _ ab _ _ _)=>(match dk d t W.g with
   |some (.one (.sr k'))=>qt k' W
   |_=>W)
  |_=>W)
 |_::g,W=>Bo L g W
def Mg(ws:aj (Nat×Nat×Nat))(H W:SS):SS:=Bo H.l H.g (settle ws W)
def aiF(h:Hint):Nat->aj (LO SE)->Nat->aj SE->aj (LO SE)×Nat×aj SE
 |_,[],n,init=>([],n,init)
 |k,o::l,n,init=>
  let(o,n,init):=(match o with
   |.var cs=>
    let(cs,n,init):=U5 (rh h.D4 k) 0 cs n init
    (LO.var cs,n,init)
   |.row s st cut fr es=>if rh h.D4 k 0 then(.row s (st||rh h.D4 k 1) (cut||rh h.D4 k 2) (fr||rh h.D4 k 3) (.var n),n+1,es::init)else(.row s (st||rh h.D4 k 1) (cut||rh h.D4 k 2) (fr||rh h.D4 k 3) es,n,init)
   |.mp kt es=>if rh h.D4 k 0 then(.mp kt (.var n),n+1,es::init)else(.mp kt es,n,init)
   |.lp c st snap=>(.lp c st snap,n,init)
   |.dead=>(.dead,n,init):LO SE×Nat×aj SE)
  let(l,n,init):=aiF h (k+1) l n init
  (o::l,n,init)
def Hl(d t j:Nat)(V:SS):SS:=
 match dk d t V.g with
 |some (.one (.nl _ s))=>if ZW j 0 then{V with l:=V.l++[.row s af af af (.tr s .an)],g:=Rh d t (.one (.sr V.l.length)) V.g}else V
 |some (.ag cs)=>match cs[j]? with
  |some (.nl _ s)=>{V with l:=V.l++[.row s af af af (.tr s .an)],g:=Rh d t (.ag (cs.set j (.sr V.l.length))) V.g}
  |_=>V
 |_=>V
def Hm(k j:Nat)(V:SS):SS:=
 match V.l[k]? with
 |some (.var cs)=>match cs[j]? with
  |some (.nl _ s)=>{V with l:=V.l.set k (.var (cs.set j (.sr V.l.length)))++[.row s af af af (.tr s .an)]}
  |_=>V
 |some (.row _ _ _ _ _)=>if ZW j 1 then qt k V else V
 |_=>V
def zU(h:Hint):aj (Nat×Nat×Nat)->SS->SS
 |[],V=>V
 |(d,t,j)::l,V=>zU h l (if ZW (afG h d t) 0 then Hl d t j V else V)
def zV:aj (Nat×Nat)->SS->SS
 |[],V=>V
 |(k,j)::l,V=>zV l (Hm k j V)
def zW(h:Hint)(V:SS):SS:=zV h.D4.reverse (zU h h.Ps.reverse V)
def Az:Cl SE->aj Nat
 |.pt k _ _|.sr k|.sv k _|.pr k _ _ _|.mp k|.yl k=>[k]
 |.fn _ bs=>bs.map (·.1)
 |_=>[]
def KL:PV SE->aj Nat
 |.one c=>Az c
 |.ag cs=>cs.flatMap Az
 |.tu vs=>vs.flatMap λp=>p.2.flatMap Az
def reach(l:aj (LO SE)):Nat->aj Nat->aj Nat->aj Nat
 |0,_,seen=>seen
 |_,[],seen=>seen
 |n+1,k::ks,seen=>if seen.any (ZW k)then reach l n ks seen else
  match l[k]? with
  |some (.var cs)=>reach l n (cs.flatMap Az++ks) (k::seen)
  |some (.mp kt _)=>reach l n (if ZK 1000000 kt then(kt % 1000000)::ks else ks) (k::seen)
  |some (.lp _ _ snap)=>reach l n (snap.flatMap (λq=>KL q.2)++ks) (k::seen)
  |_=>reach l n ks (k::seen)
def marks(seen:aj Nat):Nat->aj (LO SE)->aj (LO SE)
 |_,[]=>[]
 |k,o::os=>(if seen.any (ZW k)then o else .dead)::marks seen (k+1) os
def U6:Nat->aj (LO SE)->aj Nat
 |_,[]=>[]
 |k,.lp _ st _::os=>if UO st 2 then k::U6 (k+1) os else U6 (k+1) os
 |k,_::os=>U6 (k+1) os
def gcS(V:SS):SS:={V with l:=marks (reach V.l 2000 (U6 0 V.l++V.g.flatMap λp=>KL p.2.2) []) 0 V.l}
def SE.Cj(n:Nat):SE->Bool
 |.var x=>UO x n
 |.i _|.k _ _|.b _|.s _|.raw _|.an=>ab
 |.ok e|.qG _ e|.bt e _|.len e|.xl e|.tr _ e|.tp e|.proj e _|.un _ e|.cv _ _ e|.rw e|.rws e=>e.Cj n
 |.idx _ e f|.mG _ e f _|.ac e f|.cat _ _ e f|.bin _ _ e f|.mx _ e f|.Pr e f|.has _ e f|.dec _ e f=>e.Cj n&&f.Cj n
 |.BP _ e f g|.sub _ e f g|.N2 e f g|.ins _ e f g=>e.Cj n&&f.Cj n&&g.Cj n
 |.get _ e f g=>e.Cj n&&f.Cj n&&g.Cj n
structure Mt where
 args:aj (Nat×SE)
 fJ:aj (Nat×Nat)
def xn{B:Type}(l:aj (Nat×B))(k:Nat):aF B:=
 match l with
 |[]=>ah
 |(a,b)::l=>if ZW a k then aa b else xn l k
def Fm(n nm:Nat)(h e:SE)(m:Mt):aF Mt:=
 match h with
 |.var i=>if UO i n then(if h.eq e then aa m else ah)else if ZK nm i then ah else(match xn m.args i with
  |some e'=>if e'.eq e then aa m else ah
  |none=>aa {m with args:=(i,e)::m.args})
 |h=>if h.Cj n&&h.eq e then aa m else ah
def Ry(h e:Nat)(m:Mt):aF Mt:=
 match xn m.fJ h with
 |some e'=>if ZW e e' then aa m else ah
 |none=>if m.fJ.any (λp=>ZW p.2 e)then ah else aa {m with fJ:=(h,e)::m.fJ}
def WU(n nm:Nat):aj SE->aj SE->Mt->aF Mt
 |[],[],m=>aa m
 |a::as,b::bs,m=>match Fm n nm a b m with
  |some m=>WU n nm as bs m
  |none=>ah
 |_,_,_=>ah
def aqx:aj (Nat×Nat)->aj (Nat×Nat)->Mt->aF Mt
 |[],[],m=>aa m
 |(a,x)::as,(b,y)::bs,m=>if ZW x y then(match Ry a b m with
  |some m=>aqx as bs m
  |none=>ah)else ah
 |_,_,_=>ah
def aqy(n nm:Nat)(h e:Cl SE)(m:Mt):aF Mt:=
 match h,e with
 |.un,_=>aa m
 |.v a,.v b=>Fm n nm a b m
 |.w f a,.w f' b=>if f|| !f' then Fm n nm a b m else ah
 |.w f a,.v b=>if f then Fm n nm a b m else ah
 |.v a,.nl _ s=>Fm n nm a (.tr s .an) m
 |.w _ a,.nl _ s=>Fm n nm a (.tr s .an) m
 |.nl a s,.nl b s'=>if a==b&&ZW s s' then aa m else ah
 |.pt k o x,.pt k' o' x'=>if ZW o o'&&ZW x x' then Ry k k' m else ah
 |.tp a,.tp b=>WU n nm a b m
 |.tw f a,.tw f' b=>if f|| !f' then WU n nm a b m else ah
 |.sr k,.sr k'=>Ry k k' m
 |.mp k,.mp k'=>Ry k k' m
 |.yl k,.yl k'=>Ry k k' m
 |.fn f a,.fn f' b=>if ZW f f' then aqx a b m else ah
 |_,_=>ah
def U7(n nm:Nat):aj (Cl SE)->aj (Cl SE)->Mt->aF Mt
 |[],[],m=>aa m
 |a::as,b::bs,m=>match aqy n nm a b m with
  |some m=>U7 n nm as bs m
  |none=>ah
 |_,_,_=>ah
def alh(n nm:Nat):aj (Bool×aj (Cl SE))->aj (Bool×aj (Cl SE))->Mt->aF Mt
 |[],[],m=>aa m
 |(x,a)::as,(y,b)::bs,m=>if x==y then(match U7 n nm a b m with
  |some m=>alh n nm as bs m
  |none=>ah)else ah
 |_,_,_=>ah
def ali(n nm:Nat)(h e:PV SE)(m:Mt):aF Mt:=
 match h,e with
 |.one a,.one b=>aqy n nm a b m
 |.ag as,.ag bs=>U7 n nm as bs m
 |.tu as,.tu bs=>alh n nm as bs m
 |_,_=>ah
def aqz(n nm:Nat)(g:aj (Nat×Nat×PV SE)):aj (Nat×Nat×PV SE)->Mt->aF Mt
 |[],m=>aa m
 |(d,t,pv)::h,m=>match dk d t g with
  |some JW=>match ali n nm pv JW m with
   |some m=>aqz n nm g h m
   |none=>ah
  |none=>ah
def alj(n nm:Nat):aj (Nat×PV SE)->aj (Nat×PV SE)->Mt->aF Mt
 |[],[],m=>aa m
 |p::ps,q::qs,m=>if ZW p.1 q.1 then(match ali n nm p.2 q.2 m with
  |some m=>alj n nm ps qs m
  |none=>ah)else ah
 |_,_,_=>ah
def aA5(n nm:Nat)(h e:LO SE)(m:Mt):aF Mt:=
 match h,e with
 |.var cs,.var ds=>U7 n nm cs ds m
 |.row s st cut fr es,.row s' eX BR eP bF=>if ZW s s'&&st==eX&&(cut|| !BR)&&(fr|| !eP)then Fm n nm es bF m else ah
 |.mp kt es,.mp uo bF=>if ZW kt uo then Fm n nm es bF m else ah
 |.lp c st sn,.lp c' eX zD=>if ZW c c'&&ZW st eX then alj n nm sn zD m else ah
 |.dead,_=>aa m
 |_,_=>ah
def S5(n nm:Nat)(l:aj (LO SE)):Nat->aj (LO SE)->Mt->aF Mt
 |_,[],m=>aa m
 |k,o::os,m=>
  match o with
  |.dead=>S5 n nm l (k+1) os m
  |o=>match Ry k ((xn m.fJ k).getD k) m with
  |some m=>match l[(xn m.fJ k).getD k]? with
   |some o'=>match aA5 n nm o o' m with
    |some m=>S5 n nm l (k+1) os m
    |none=>ah
   |none=>ah
  |none=>ah
def aeE(n:Nat)(m:Mt):Nat->aj SE->aF (aj SE)
 |0,ax=>aa ax
 |j+1,ax=>match xn m.args (n+j)with
  |some e=>aeE n m j (e::ax)
  |none=>ah
def isLive(l:aj (LO SE))(k:Nat):Bool:=
 match l[k]? with
 |some .dead|none=>af
 |_=>ab
def aqA(l:aj (LO SE))(k:Nat):Bool:=
 match l[k]? with
 |some (.mp _ _)=>ab
 |_=>af
def N6(H:SS):Bool:=
 (H.g.all λp=>(KL p.2.2).all (isLive H.l))&&H.l.all λ|.var cs=>(cs.flatMap Az).all (isLive H.l)|.mp kt _=>UO kt 1000000||aqA H.l (kt % 1000000)|.lp _ _ sn=>(sn.flatMap λq=>KL q.2).all (isLive H.l)|_=>ab
def AA(n:Nat)(av:aj SE)(h e:SE):Bool:=
 match h with
 |.var x=>if UO x n then h.eq e else(match av[x- n]? with
  |some a=>a.eq e
  |none=>af)
 |h=>h.Cj n&&h.eq e
def It(fJ:aj (Nat×Nat))(h e:Nat):Bool:=
 match xn fJ h with
 |some e'=>ZW e e'
 |none=>af
def uy(n:Nat)(av:aj SE)(fJ:aj (Nat×Nat))(h e:Cl SE):Bool:=
 match h,e with
 |.un,_=>ab
 |.v a,.v b=>AA n av a b
 |.w f a,.w f' b=>(f|| !f')&&AA n av a b
 |.w f a,.v b=>f&&AA n av a b
 |.v a,.nl _ s=>AA n av a (.tr s .an)
 |.w _ a,.nl _ s=>AA n av a (.tr s .an)
 |.nl a s,.nl b s'=>a==b&&ZW s s'
 |.pt k o x,.pt k' o' x'=>ZW o o'&&ZW x x'&&It fJ k k'
 |.tp a,.tp b=>mX (AA n av) a b
 |.sr k,.sr k'=>It fJ k k'
 |.mp k,.mp k'=>It fJ k k'
 |.yl k,.yl k'=>It fJ k k'
 |.fn f a,.fn f' b=>ZW f f'&&mX (λ(p q:Nat×Nat)=>ZW p.2 q.2&&It fJ p.1 q.1) a b
 |_,_=>af
def Mh(n:Nat)(av:aj SE)(fJ:aj (Nat×Nat))(h e:PV SE):Bool:=
 match h,e with
 |.one a,.one b=>uy n av fJ a b
 |.ag as,.ag bs=>mX (uy n av fJ) as bs
 |.tu as,.tu bs=>mX (λ(p q:Bool×aj (Cl SE))=>p.1==q.1&&mX (uy n av fJ) p.2 q.2) as bs
 |_,_=>af
def aqB(n:Nat)(av:aj SE)(fJ:aj (Nat×Nat))(g:aj (Nat×Nat×PV SE))(h:aj (Nat×Nat×PV SE)):Bool:=
 h.all λ(d,t,pv)=>match dk d t g with
  |some JW=>Mh n av fJ pv JW
  |none=>af
def BS(n:Nat)(av:aj SE)(fJ:aj (Nat×Nat))(h e:LO SE):Bool:=
 match h,e with
 |.var cs,.var ds=>mX (uy n av fJ) cs ds
 |.row s st cut fr es,.row s' eX BR eP bF=>ZW s s'&&st==eX&&(cut|| !BR)&&(fr|| !eP)&&AA n av es bF
 |.mp kt es,.mp uo bF=>ZW kt uo&&AA n av es bF&&(UO kt 1000000||It fJ (kt % 1000000) (kt % 1000000))
 |.lp c st sn,.lp c' eX zD=>ZW c c'&&ZW st eX&&mX (λ(p q:Nat×PV SE)=>ZW p.1 q.1&&p.2.uj&&Mh n av fJ p.2 q.2) sn zD
 |_,_=>af
def WW(n:Nat)(av:aj SE)(fJ:aj (Nat×Nat))(l:aj (LO SE)):Nat->aj (LO SE)->Bool
 |_,[]=>ab
 |k,o::os=>(match o with
  |.dead=>ab
  |o=>match xn fJ k with
   |some k'=>match l[k']? with
    |some o'=>BS n av fJ o o'
    |none=>af
   |none=>af)&&WW n av fJ l (k+1) os
def TP(fJ:aj (Nat×Nat)):Bool:=fJ.all λp=>fJ.all λq=> !ZW p.2 q.2||ZW p.1 q.1
def inst(n m:Nat)(H V:SS):aF (aj SE×aj (Nat×Nat)):=
 if !N6 H then ah else match aqz n (n+m) V.g H.g ⟨[],[]⟩with
 |some mt=>match S5 n (n+m) V.l 0 H.l mt with
  |some mt=>match aeE n mt m []with
   |some av=>if aqB n av mt.fJ V.g H.g&&WW n av mt.fJ V.l 0 H.l&&TP mt.fJ&&ZW av.length m then aa (av,mt.fJ)else ah
   |none=>ah
  |none=>ah
 |none=>ah
def DA:Code->Nat
 |.region id _ _=>id
 |.seq a _=>DA a
 |.block _ a=>DA a
 |.loop a=>DA a
 |.scope a=>DA a
 |_=>0
abbrev qu:=Bool->Nat->Nat->Code->SS->(zC->SS->au)->au
section step
variable(self:qu)(kx:Kx)
def setArgs(d:Nat):Nat->aj (PV SE)->aj (Nat×Nat×PV SE)
 |_,[]=>[]
 |j,pv::dM=>(d,j,pv)::setArgs d (j+1) dM
def fR(d:Nat):aj (Nat×Nat×PV SE)->aj (Nat×Nat×PV SE)
 |[]=>[]
 |(d',t,pv)::g=>if ZW d' d=ab then fR d g else(d',t,pv)::fR d g
def WX(t:VK)(pa:PV SE)(V:SS):aF (PV SE):=
 match bD P t,vL P t,pa with
 |some s,aa _,.one (.pt j ay ext)=>match V.l[j]? with
  |some (.var cs)=>if ZK s ext&&ZK (ay+s) cs.length then(if isAgg P t then aa (.ag ((cs.drop ay).take s))else match(cs.drop ay).take s with
   |[c]=>aa (.one c)
   |_=>ah)else ah
  |_=>ah
 |_,_,_=>ah
def xo(d:Nat)(V:SS):aj ResultVar->aF (aj (PV SE))
 |[]=>aa []
 |.tmp t::rs=>match xo d V rs with
  |some dM=>aa ((dk d t V.g).getD (.one .un)::dM)
  |none=>ah
 |.cell a t::rs=>match dk d a V.g with
  |some pa=>match WX P t pa V,xo d V rs with
   |some pv,aa dM=>aa (pv::dM)
   |_,_=>ah
  |none=>ah
def N7(dM:aj (PV SE)):PV SE:=
 match dM with
 |[]=>.one .un
 |[pv]=>pv
 |dM=>.tu (dM.map λpv=>match pv with
  |.one c=>(af,[c])
  |.ag cs=>(ab,cs)
  |.tu _=>(af,[.un]))
def rj(d f:Nat)(dst:aF Nat)(g:V4)(av:aj (PV SE))(V:SS)(k:PV SE->SS->au):au:=
 match P.funcs[g]? with
 |some fn=>match fn.body with
  |some body=>
   if cfg.stop.any (ZW g)then .fail 119 else if ZK av.length fn.ntmps&&fn.name != "runtime.NumGoroutine" then
    self af (d+1) (f*1000+dst.getD 999+1) body {V with g:=setArgs (d+1) 0 av++fR (d+1) V.g,nt:=fn.ntmps} λex W=>match ex with
     |.exit _=>.fail 111
     |.dh t pv=>kx t pv {W with g:=fR (d+1) W.g,nt:=V.nt}
     |_=>match xo P (d+1) W fn.results.toList with
      |some dM=>k (N7 dM) {W with g:=fR (d+1) W.g,nt:=V.nt}
      |none=>.fail 110
   else .fail 112
  |none=>.fail 113
 |none=>.fail 114
def uz:au->aF (SS×SS)
 |.test _ a b=>match uz a with
  |some x=>aa x
  |none=>uz b
 |.bind _ k|.aQ _ k|.call _ _ _ k|.loop _ k|.uniq k|.same _ _ k=>uz k
 |.pick _ _ a b=>match uz a with
  |some x=>aa x
  |none=>uz b
 |.qH a _ b=>match uz a with
  |some x=>aa x
  |none=>uz b
 |.bad 999999 n lv _ _ hg hl g l=>aa (⟨hg,hl,n,lv,0⟩,⟨g,l,n,lv,0⟩)
 |_=>ah
def guardOf(g:V4):aF VK:=(cfg.rows.find? λn=>ZK 1000000 n&&ZW (n % 1000000) g).map λn=>n/1000000- 1
def Mi(g:V4)(bs:aj (Nat×Nat))(av:aj (PV SE)):aF (VK×V4×aj (Nat×Nat)):=
 match bs,av with
 |[],[.one (.fn c Bp)]=>(guardOf cfg g).map λt=>(t,c,Bp)
 |_,_=>ah
def KM(d:Nat)(V:SS):aF Nat:=
 match dk d 2 V.g with
 |some (.one (.pt j 0 1))=>match V.l[j]? with
  |some (.var [.v (.i z)])=>if z==0 then aa j else ah
  |_=>ah
 |_=>ah
def WY(d f:Nat)(dst:aF Nat)(g:V4)(t:VK)(c:V4)(Bp:aj (Nat×Nat))(V:SS)(k:PV SE->SS->au):au:=
 .call (3*P.funcs.size+g) ab (fZ [.i t])<|
  rj P cfg self (λt' pv W=>match pv,KM (d+1) W with
   |.ag [.v e],aa j=>if ZW t' t then .aQ (.rw e) (k (.one (.v e)) {W with g:=fR (d+1) W.g,nt:=V.nt,l:=((W.l++[LO.dead]).set W.l.length LO.dead).set j (.var [.v e])})else .fail 171
   |_,_=>.fail 172) (d+1) (f*1000+dst.getD 999+1) ah c (Bp.map λ(k,ext)=>.one (.pt k 0 ext))
   {V with n:=V.n+1,l:=V.l++[.var [.v (.i 0)]],g:=(d+1,2,.one (.pt V.l.length 0 1))::fR (d+1) V.g,nt:=3} λ_ W=>match KM (d+1) W with
    |some j=>k (.one (.v (.i 0))) {W with g:=fR (d+1) W.g,nt:=V.nt,l:=W.l.set j (.var [.v (.i 0)])}
    |none=>.fail 173
def Mj(d f:Nat)(dst:aF Nat)(g:V4)(av:aj (PV SE))(V:SS)(k:PV SE->SS->au):au:=
 match Mi cfg g [] av with
 |some (t,c,Bp)=>match P.funcs[g]? with
  |some fn=>if fn.body.isSome&&fn.name != "runtime.NumGoroutine" then WY P cfg self d f dst g t c Bp V k else .fail 18
  |none=>.fail 18
 |none=>rj P cfg self kx d f dst g av V k
def Mk(d f:Nat)(dst:aF Nat)(g:V4)(av:aj (PV SE))(V:SS)(k:SS->au):au:=
 let V1:SS:={V with lv:=V.lv+1}
 match uz (Mj P cfg self (λ_ _ _=>.fail 0) d f dst g av V1 λpv W=>let W:=W.da d dst pv;.bad 999999 W.n W.lv 0 0 W.g W.l W.g W.l)with
 |none=>.fail 150
 |some (V2,_)=>
  let h:=(cfg.hints.find? λh=>ZW h.d d&&ZW h.f f&&ZW h.id (1000000+dst.getD 999)).getD ⟨d,f,1000000+dst.getD 999,[],[],[],[]⟩
  let Vg:=gcS (zW h (settle h.zQ V2))
  let(g',n,init):=Rx h Vg.g V.n []
  let(l',n,_):=aiF h 0 Vg.l n init
  let H:SS:=⟨g',l',V.n+(n- V.n),V.lv,V.nt⟩
  .qH (Mj P cfg self kx d f dst g av V1 λpv W=>
   let W:=zW h (settle h.zQ (W.da d dst pv))
   match inst V.n (n- V.n) H W with
   |some (av,_)=>.next V.lv (fZ av)
   |none=>.bad d f (1000000+dst.getD 999) V.n n H.g H.l W.g W.l) (n- V.n) (k H)
def D8(V:SS):aj (PV SE)->aF (aj SE×SS)
 |[]=>aa ([],V)
 |pv::dM=>match BQ V pv with
  |some (_,z,V)=>match D8 V dM with
   |some (zs,V)=>aa (z::zs,V)
   |none=>ah
  |none=>ah
def N8:aj (PV SE)->Bool
 |[]=>ab
 |.tu _::_=>af
 |_::l=>N8 l
def U8(fn:Func)(V:SS)(r:SE)(k:PV SE->SS->au):au:=
 match fn.resultTypes.toList with
 |[t]=>wz P t r (k (ofType P t r) V)
 |ts=>WO P r 0 ts (k (.tu (Rq P r 0 ts)) V)
def Ml(g:V4)(zs:aj SE)(j:Nat)(V:SS)(k:PV SE->SS->au):au:=
 match V.l[j]? with
 |some (.row s af af _ es)=>if UO g P.funcs.size then .aQ (.rws es) (.call (P.funcs.size+g) ab (fZ (es::zs)) (k (.one (.sr j)) ((({V with n:=V.n+1}:SS).xL j).setObj j (.row s af af af (.var V.n)))))else .fail 13
 |_=>.fail 14
def xM:aj (PV SE)->aj (Nat×Nat)×aj (PV SE)
 |.one (.pt k 0 ext)::r=>((k,ext)::(xM r).1,(xM r).2)
 |r=>([],r)
def D9(V:SS):aj (Nat×Nat)->aF (aj (aj SE))
 |[]=>aa []
 |(k,n)::l=>match V.l[k]? with
  |some (.var ds)=>if ZW ds.length n then(match Mf ds,D9 V l with
   |some es,aa r=>aa (es::r)
   |_,_=>ah)else ah
  |_=>ah
def distinct:aj Nat->Bool
 |[]=>ab
 |k::l=> !(l.any (ZW k))&&distinct l
def pM(y:SE):Nat->aj (Nat×Nat)->aj (LO SE)->aj (LO SE)
 |_,[],L=>L
 |i,(k,n)::l,L=>pM y (i+1) l (L.set k (.var ((YF n).map λq=>.v (.bt (.proj y (i+1)) q))))
def aiI(g:V4)(l:aj (Nat×Nat))(aE:aj (PV SE))(V:SS)(k:PV SE->SS->au):au:=
 match D8 V aE,D9 V l,P.funcs[g]? with
 |some (zs,_),aa KN,aa fn=>if !aE.all pL then .fail 161 else if !distinct (l.map (·.1))then .fail 162 else match fn.resultTypes.toList with
  |[t]=>.call (2*P.funcs.size+g) ab (.ac (fZ (KN.map fZ)) (fZ zs)) (wz P t (.proj (.var V.n) 0) (k (ofType P t (.proj (.var V.n) 0)) {V with n:=V.n+1,l:=pM (.var V.n) 0 l V.l}))
  |_=>.fail 163
 |_,_,_=>.fail 164
def WZ(g:V4)(av:aj (PV SE))(V:SS)(k:PV SE->SS->au):au:=
 if !(xM av).1.isEmpty then aiI P g (xM av).1 (xM av).2 V k else
 match av with
 |.one c::aE=>match D8 V aE with
  |some (zs,_)=>if !aE.all pL then .fail 16 else match c with
   |.sr j=>Ml P g zs j V k
   |.nl _ s=>newObj V (.row s af af af (.tr s .an)) λj V=>Ml P g zs j V k
   |_=>.fail 17
  |none=>.fail 15
 |_=>.fail 15
def zX(g:V4):Bool:=UO g 100000&&cfg.rows.any (ZW (g+500000))
def DB:fz:={cfg with rows:=cfg.rows.filter λn=>UO n 500000||ZK 600000 n}
def dK(g:V4):Nat:=
 match P.funcs[g]? with
 |some fn=>match fn.resultTypes.toList with
  |[t]=>match P.underlying t with
   |some (.slice el)=>(bD P el).getD 0
   |_=>0
  |_=>0
 |none=>0
def aqC(g:V4):Bool:=
 match P.funcs[g]? with
 |some fn=>match fn.resultTypes.toList with
  |[t]=>match P.underlying t with
   |some (.slice el)=>(u7 P 9 el).all (Hg P)
   |_=>ab
  |_=>ab
 |none=>ab
def W0(g:V4)(av:aj (PV SE))(V:SS)(k:PV SE->SS->au):au:=
 match D8 V av,P.funcs[g]? with
 |some (zs,V'),aa fn=>if N8 av&&(fn.body.isSome&&fn.name != "runtime.NumGoroutine")then
   if !aqC P g then(if av.all pL then .call (7*P.funcs.size+g) af (fZ zs) (k (.one (.sr V'.l.length)) {V' with n:=V'.n+1,l:=V'.l++[.row (dK P g) af af ab (.var V'.n)]})else .fail 183)else
   .call (4*P.funcs.size+g) ab (fZ zs) (k (.one (.sr V'.l.length)) {V' with n:=V'.n+1,l:=V'.l++[.row (dK P g) af af af (.var V'.n)]})else .fail 181
 |_,_=>.fail 181
def sL(d:Nat)(V:SS):aj (Nat×PV SE):=V.g.filterMap λp=>if ZW p.1 d then(match dk d p.2.1 V.g with
 |some pv=>if pv.uj then aa (p.2.1,pv)else ah
 |none=>ah)else ah
def Pv(d:Nat)(sn:aj (Nat×PV SE)):aj (Nat×Nat×PV SE):=sn.map λq=>(d,q.1,q.2)
def Mm(d:Nat):aj Tmp->aj (PV SE)->aj (Nat×Nat×PV SE)->aj (Nat×Nat×PV SE)
 |p::ps,a::as,g=>Mm d ps as (Rh d p a g)
 |_,_,g=>g
def aA6(j c:Nat)(sn:aj (Nat×PV SE))(ex:zC)(W:SS)(k:PV SE->SS->au):au:=
 match ex with
 |.normal=>k (.one (.v (.b ab))) {W with l:=W.l.set j (.lp c 0 sn)}
 |.ret=>k (.one (.v (.b af))) {W with l:=W.l.set j (.lp c 2 [])}
 |.exit i=>k (.one (.v (.b af))) {W with l:=W.l.set j (.lp c (i+4) [])}
 |.dh _ _=>.fail 192
def W1(pv:PV SE)(j:Nat):Bool:=
 match pv with
 |.one (.yl j')=>ZW j j'
 |_=>af
def W4(Cx:Cs)(d f:Nat)(dst:aF Nat)(fo:Xs)(j:Nat)(av:aj (PV SE))(V:SS)(k:PV SE->SS->au):au:=
 match V.l[j]? with
 |some (.lp c 0 sn)=>match Cx[c]? with
  |some rc=>if ZW av.length rc.ps.length&&rc.ps.all (λp=>UO p rc.n)then
    self ab (d+1) (f*1000+dst.getD 999+1) rc.jz {V with g:=Mm (d+1) rc.ps av (Pv (d+1) sn++fR (d+1) V.g),nt:=rc.n} λex W=>match ex,W.l[j]? with
     |.normal,aa (.lp c1 0 sn1)=>if ZW c c1&&W1 (cJ P d W 0 fo) j then
       self ab (d+1) (f*1000+dst.getD 999+1) rc.bd {W with l:=W.l.set j (.lp c 1 sn1)} λex W=>match W.l[j]? with
        |some (.lp c2 1 sn2)=>if ZW c c2&&W1 (cJ P d W 0 fo) j then aA6 j c sn2 ex {W with g:=fR (d+1) W.g,nt:=V.nt} k else .fail 193
        |_=>.fail 193
      else .fail 194
     |_,_=>.fail 194
   else .fail 195
  |none=>.fail 195
 |_=>.fail 196
def aqD:Bool:=cfg.hints.any λh=>ZW h.d 999998
def Mn(g:V4)(av:aj (PV SE))(V:SS)(k:PV SE->SS->au):au:=
 match av with
 |.one (.nl ab s)::aE=>match D8 V aE with
  |some (zs,_)=>if aE.all pL&&UO g P.funcs.size&&UO 0 s then .call g af (fZ (.raw (.slice ah 0 0)::zs)) (.aQ (.dec 11 (.var V.n) (.b ab)) (k (.one (.nl ab s)) {V with n:=V.n+1}))else .fail 16
  |none=>.fail 16
 |_=>WZ P g av V k
variable(Cx:Cs)
def Yu(d f0:Nat)(vD:Bool)(o:YX)(c:Call)(V:SS)(k:PV SE->SS->au):au:=
 match c.callee with
 |.builtin _=>jB P d o V k
 |.value f=>match cJ P d V 0 f with
  |.one (.fn g bs)=>
   let av:=mK P d V c.args.toList c.argTypes.toList
   match Mi cfg g bs av with
   |some (t,cf,Bp)=>match P.funcs[g]? with
    |some fn=>if !vD&&fn.body.isSome&&fn.name != "runtime.NumGoroutine" then WY P cfg self d f0 o.dst g t cf Bp V k else .fail 18
    |none=>.fail 18
   |none=>
   if bs.isEmpty&&zX cfg g then W0 P g av V k
   else if bs.isEmpty&&cfg.rows.any (ZW g)then
    match P.funcs[g]? with
    |some fn=>if !vD&&fn.body.isSome&&fn.name != "runtime.NumGoroutine" then(if aqD cfg then Mn P g av V k else WZ P g av V k)else .fail 18
    |none=>.fail 18
   else if bs.isEmpty&&cfg.pure.any (ZW g)then
    match D8 V av,P.funcs[g]? with
    |some (zs,V'),aa fn=>if N8 av&&fn.body.isSome&&fn.name != "runtime.NumGoroutine" then .call g (!av.all pL) (fZ zs) (U8 P fn {V' with n:=V'.n+1} (.var V'.n) k)else .fail 115
    |_,_=>.fail 115
   else if vD then .fail 116 else rj P cfg self kx d f0 o.dst g (av++bs.map λ(k,ext)=>.one (.pt k 0 ext)) V k
  |.one (.yl j)=>if vD then .fail 116 else W4 P self Cx d f0 o.dst f j (mK P d V c.args.toList c.argTypes.toList) V k
  |_=>.fail 117
 |.invoke .. =>.fail 118
def Pw(d f0:Nat)(vD:Bool)(o:YX)(V:SS)(k:PV SE->SS->au):au:=
 match o.op with
 |.call c=>Yu P cfg self kx Cx d f0 vD o c V k
 |_=>jB P d o V k
def U9:SE->aF IV
 |.i n=>aa (.int n)
 |.b t=>aa (.bool t)
 |_=>ah
def alk:IV->aF SE
 |.raw (.int .i64 n)=>aa (.i n)
 |.raw (.bool b)=>aa (.b b)
 |_=>ah
def W5(d:Nat)(V:SS)(o:YX):aF (PV SE):=
 match o.op with
 |.binOp op t x y _=>match cJ P d V t x,cJ P d V t y with
  |.one (.v a),.one (.v b)=>match U9 a,U9 b with
   |some u,aa v=>((vM P op t x y u v).bind alk).map λe=>.one (.v e)
   |_,_=>ah
  |_,_=>ah
 |.index t x ix=>match P.underlying t,cJ P d V t x,cJ P d V 0 ix with
  |some (.array n el),.ag cs,.one (.v (.i z))=>match bD P el,vL P el with
   |some s,aa _=>if 0<=z/\z<n/\z.toNat*s+s<=cs.length then(if isAgg P el then aa (.ag ((cs.drop (z.toNat*s)).take s))else match(cs.drop (z.toNat*s)).take s with
    |[c]=>aa (.one c)
    |_=>ah)else ah
   |_,_=>ah
  |_,_,_=>ah
 |_=>ah
def alm:Bool:=cfg.hints.any λh=>ZW h.d 999999
def Y2(d:Nat)(V:SS)(o:YX):aF (SE×Nat×Cl SE):=
 match o.op with
 |.call c=>match c.callee with
  |.builtin .append=>match mK P d V c.args.toList c.argTypes.toList with
   |[.one base,.one x]=>match c.argTypes[0]?,c.argTypes[1]? with
    |some t0,aa t1=>match elemOf P t0,elemOf P t1 with
     |some et,aa _=>match bD P et,dW P et,(P.info? et).map (·.bytes)with
      |some s,aa z,aa bytes=>if ZW s 0|| !ZW z.cells.size s|| !ZK bytes 1000000 then ah else
       match zT P V et s base x,base with
       |some (_,es,_),.nl b w=>aa (es,s,.nl b w)
       |_,_=>ah
      |_,_,_=>ah
     |_,_=>ah
    |_,_=>ah
   |_=>ah
  |_=>ah
 |_=>ah
def Px(d:Nat)(V:SS)(o:YX):aF (Nat×Nat×VK×SE×SE):=
 match o.op with
 |.next it af=>match cJ P d V 0 it with
  |.one (.mp j)=>match V.l[j]? with
   |some (.mp kt x)=>if ZK 1000000 kt then(match V.l[kt % 1000000]? with
    |some (.mp rM es)=>if rL rM then ah else aa (j,kt,rM,es,x)
    |_=>ah)else ah
   |_=>ah
  |_=>ah
 |_=>ah
def adf(j kt:Nat)(rM:VK)(es x:SE)(V:SS)(k:PV SE->SS->au):au:=
 match P.underlying (kt/1000000- 1)with
 |some (.map _ _)=>.pick es x (k (.tu [(af,[.v (.b af)])]) V)
   (k (.tu [(af,[.v (.b ab)]),(af,[.un]),(af,[.un])]) {V with n:=V.n+2,l:=V.l.set j (.mp kt (.var (V.n+1)))})
 |_=>.fail 190
def Iu(d f0:Nat)(vD:Bool)(o:YX)(V:SS)(k:PV SE->SS->au):au:=
 match(if vD then ah else Px P d V o)with
 |some (j,kt,rM,es,x)=>adf P j kt rM es x V k
 |none=>match(if !vD&&aqD cfg then Y2 P d V o else ah)with
 |some (es,s,c)=>.aQ (.sub s es (.len es) (.i 0)) (k (.one c) V)
 |none=>match(if !vD&&alm cfg then W5 P d V o else ah)with
  |some pv=>k pv V
  |none=>Pw P cfg self kx Cx d f0 vD o V k
def D_(d:Nat)(vD:Bool)(o:YX)(V:SS):aF (V4×aj (PV SE)):=
 if vD then ah else match o.op with
 |.call c=>match c.callee with
  |.value f=>match cJ P d V 0 f with
   |.one (.fn g bs)=>if cfg.Ir.any (ZW g)&& !(bs.isEmpty&&cfg.pure.any (ZW g))then aa (g,mK P d V c.args.toList c.argTypes.toList++bs.map λ(k,ext)=>.one (.pt k 0 ext))else ah
   |_=>ah
  |_=>ah
 |_=>ah
def yx(sk:aj Nat):aF Nat->aj Nat
 |some t=>sk.filter λx=> !ZW x t
 |none=>sk
def Mo(sk:aj Nat):aF Nat->aj Nat
 |some t=>t::yx sk (aa t)
 |none=>sk
def rp(sk:aj Nat)(ao:Array YX)(o:YX):Bool:=
 match o.guard with
 |some (j,_)=>match(ao[j]?).bind (·.dst)with
  |some t=>gT sk t
  |none=>af
 |none=>af
def aG1(t:VK):Bool:=
 match P.underlying t with
 |some (.interface _)=>af
 |some _=>ab
 |none=>af
def adg(d:Nat)(V:SS)(o:YX)(aE:aj YX):aF (VK×PV SE):=
 match o.op,aE with
 |.makeInterface t x,[p]=>match p.op,o.dst,o.guard,p.guard with
  |.panic (.tmp a),aa b,ah,ah=>if ZW a b&&aG1 P t then aa (t,cJ P d V t x)else ah
  |_,_,_,_=>ah
 |_,_=>ah
def jF(d f0:Nat)(vD:Bool)(ao:Array YX):aj Nat->aj YX->SS->(SS->au)->au
 |_,[],V,k=>k V
 |sk,o::aE,V,k=>
  if !(match o.dst with|some t=>UO t V.nt|none=>ab)then .fail 121 else
  match(if vD then ah else adg P d V o aE)with
  |some (t,pv)=>kx t pv (V.np d o.dst)
  |none=>
  let run (V:SS):au:=match D_ P cfg d vD o V with
   |some (g,av)=>Mk P cfg self kx d f0 o.dst g av V λV=>jF d f0 vD ao (yx sk o.dst) aE V k
   |none=>Iu P cfg self kx Cx d f0 vD o V λpv V=>jF d f0 vD ao (yx sk o.dst) aE (V.da d o.dst pv) k
  let skip (V:SS):au:=jF d f0 vD ao (Mo sk o.dst) aE (V.np d o.dst) k
  match(if rp sk ao o then .skip else yw ao d V o)with
  |.run=>run V
  |.skip=>skip V
  |.test t e want=>.test e ((if want then run else skip) (V.da d (aa t) (.one (.v (.b ab))))) ((if want then skip else run) (V.da d (aa t) (.one (.v (.b af)))))
  |.fail=>.fail 120
def yy(d:Nat)(V:SS):gS:=⟨V.nt,(V.g.filterMap λ(d',t,_)=>if ZW d d' then aa t else ah).filter (λt=>match dk d t V.g with
 |some (.one (.pt _ _ _))=>ab
 |some (.one (.tp _))=>ab
 |_=>af),[],V.g.filterMap λ(d',t,_)=>if ZW d d' then(match dk d t V.g with
  |some (.one (.pt k _ _))=>aa (t,k)
  |_=>ah)else ah,[],(V.g.filterMap λ(d',t,_)=>if ZW d d' then aa t else ah).filter (λt=>match dk d t V.g with
 |some (.one (.v _))=>ab
 |some (.one (.w _ _))=>ab
 |_=>af),[],[],[],V.g.filterMap λ(d',t,_)=>if ZW d d' then(match dk d t V.g with
  |some (.one (.mp k))=>(match V.l[k]? with
   |some (.mp kt _)=>if rL kt then ah else aa (t,k)
   |_=>ah)
  |_=>ah)else ah,(V.g.filterMap λ(d',t,_)=>if ZW d d' then aa t else ah).filter (λt=>match dk d t V.g with
 |some (.one (.pt k _ _))=>(match V.l[k]? with
  |some (.var cs)=>cs.all λc=>match c with
   |.v _=>ab
   |_=>af
  |_=>af)
 |_=>af)⟩
def avW(d:Nat)(a:Code)(V:SS):aF Nat:=
 match a with
 |.seq (.region _ ao af) _=>match ao.toList with
  |[o]=>match o.op with
   |.binOp .lss _ (.tmp i) (.const (.int .i64 n)) _=>match dk d i V.g with
    |some (.one (.v (.i z)))=>if z==0&&decide (0<=n)&&decide (n<=4)then aa (n.toNat+1)else ah
    |_=>ah
   |_=>ah
  |_=>ah
 |_=>ah
def aav:Code->Bool
 |.seq a _=>aav a
 |.region _ ao _=>ao.toList.any λo=>match o.op with
  |.next _ af=>ab
  |_=>af
 |_=>af
def Rz(lR:Bool)(d f:Nat)(a:Code)(k:zC->SS->au):Nat->SS->au
 |0,_=>.fail 180
 |n+1,V=>self lR d f a V λex W=>match ex with
  |.normal=>Rz lR d f a k n W
  |ex=>k ex W
def Fo(c j:Nat):Nat->aj (LO SE)->Bool
 |_,[]=>ab
 |k,.lp c' st _::os=>(ZW k j||ZK 2 st||UO c' c)&&Fo c j (k+1) os
 |k,_::os=>Fo c j (k+1) os
def aqE(j c st:Nat)(W:SS)(k:zC->SS->au):au:=
 match st with
 |0=>k .normal {W with l:=W.l.set j (.lp c 3 [])}
 |1=>.fail 136
 |2=>k .ret {W with l:=W.l.set j (.lp c 2 [])}
 |3=>.fail 136
 |i+4=>k (.exit i) {W with l:=W.l.set j (.lp c (i+4) [])}
def avX:Bool:=cfg.hints.any λh=>ZW h.d 999997
def aF5(ao:Array YX)(f:Xs):Xs:=
 match f with
 |.tmp t=>match ao.toList.find? λo=>match o.dst with|some t'=>ZW t t'|none=>af with
  |some o=>match o.op with
   |.move x=>x
   |_=>f
  |none=>f
 |f=>f
def anP(d:Nat)(V:SS)(ao:Array YX)(o:YX):Bool:=
 match o.op with
 |.call c=>match c.callee with
  |.value f=>match cJ P d V 0 (aF5 ao f)with
   |.one (.yl _)=>ab
   |.one (.fn g bs)=>avX cfg&& !(bs.isEmpty&&(zX cfg g||cfg.pure.any (ZW g)))
   |_=>af
  |_=>af
 |_=>af
def cutAt(d:Nat)(V:SS)(ao:Array YX):aF Nat:=ao.toList.findIdx? (anP P cfg d V ao)
variable(ly:Cs->qu)
def zY:qu:=λlR d f c V k=>
 match c with
 |.skip|.label _=>k .normal V
 |.region _ ao draw=>
  if draw then match cutAt P cfg d V ao with
   |some j=>if U3 ao j&&(cU (ao.extract 0 j)).ok&&(Ff (ao.extract 0 j) (cU (ao.extract 0 j))||lu P (cU (ao.extract 0 j)) (ao.extract 0 j).toList.zipIdx (yy d V))then
     jF P (if lu P (cU (ao.extract 0 j)) (ao.extract 0 j).toList.zipIdx (yy d V)then cfg else DB cfg) (ly Cx) (λt pv V=>k (.dh t pv) V) Cx d f ab (ao.extract 0 j) [] (ao.extract 0 j).toList V λV=>jF P cfg (ly Cx) (λt pv V=>k (.dh t pv) V) Cx d f af ao [] (ao.toList.drop j) V λV=>k .normal V
    else .fail 130
   |none=>(if(cU ao).ok&&(Ff ao (cU ao)||lu P (cU ao) ao.toList.zipIdx (yy d V))then jF P (if lu P (cU ao) ao.toList.zipIdx (yy d V)then cfg else DB cfg) (ly Cx) (λt pv V=>k (.dh t pv) V) Cx d f ab ao [] ao.toList V λV=>k .normal V else .fail 130)
  else jF P cfg (ly Cx) (λt pv V=>k (.dh t pv) V) Cx d f af ao [] ao.toList V λV=>k .normal V
 |.seq a b=>ly Cx lR d f a V λex V=>match ex with
  |.normal=>ly Cx lR d f b V k
  |ex=>k ex V
 |.cond c a b=>match cJ P d V 0 c with
  |.one (.v (.b ab))=>ly Cx lR d f a V k
  |.one (.v (.b af))=>ly Cx lR d f b V k
  |.one (.v e)=>match c with
   |.tmp t=>if !UO t V.nt then .fail 131 else .test e (ly Cx lR d f a (V.da d (aa t) (.one (.v (.b ab)))) k) (ly Cx lR d f b (V.da d (aa t) (.one (.v (.b af)))) k)
   |_=>.fail 131
  |.one (.w _ e)=>match c with
   |.tmp t=>if !UO t V.nt then .fail 131 else .test e (ly Cx lR d f a (V.da d (aa t) (.one (.v (.b ab)))) k) (ly Cx lR d f b (V.da d (aa t) (.one (.v (.b af)))) k)
   |_=>.fail 131
  |_=>.fail 132
 |.block id a=>ly Cx lR d f a V λex V=>match ex with
  |.exit bY=>if ZW id bY then k .normal V else k (.exit bY) V
  |ex=>k ex V
 |.loop a=>match(if alm cfg then avW d a V else ah)with
  |some n=>Rz (ly Cx) lR d f a k n V
  |none=>
  let id:=DA a
  let h:=(cfg.hints.find? λh=>ZW h.d d&&ZW h.f f&&ZW h.id id).getD ⟨d,f,id,[],[],[],[]⟩
  let V0:=zW h (settle h.zQ V)
  let Vg:=gcS {V0 with g:=V0.g.filter λp=> !rh h.drop p.1 p.2.1}
  let(g,n,init):=Rx h Vg.g Vg.n []
  let(l,n,_):=aiF h 0 Vg.l n init
  let H:SS:=⟨g,l,V0.n+(n- V0.n),V.lv+1,V.nt⟩
  match inst V0.n (n- V0.n) H V0 with
  |some (av,_)=>(if aav a then au.uniq else λk=>k)<|.loop (fZ av) (ly Cx lR d f a H λex W=>match ex with
   |.normal=>match inst V0.n (n- V0.n) H (Mg h.zQ H W)with
    |some (av,_)=>.next V.lv (fZ av)
    |none=>.bad d f id V0.n n H.g H.l W.g W.l
   |ex=>k ex W)
  |none=>.bad d f id V0.n n H.g H.l V0.g V0.l
 |.scope a=>ly Cx lR d f a V k
 |.exit id=>k (.exit id) V
 |.ret=>k .ret V
 |.rangeFunc g params assign body=>if lR then .fail 134 else match cJ P d V 0 g with
  |.one (.fn F bs)=>
   rj P cfg (ly (Cx++[⟨params.toList,assign,body,V.nt⟩])) (λ_ _ _=>.fail 135) (d+1) (f*1000+800+DA body % 190) ah F (.one (.yl V.l.length)::bs.map λ(k,ext)=>.one (.pt k 0 ext))
    {V with g:=(d+1,0,.one (.yl V.l.length))::fR (d+1) V.g,l:=V.l++[.lp Cx.length 0 (sL d V)],nt:=1} λ_ W=>match dk (d+1) 0 W.g,W.l[V.l.length]? with
     |some (.one (.yl j)),aa (.lp c' st _)=>if ZW j V.l.length&&ZW c' Cx.length&&Fo Cx.length V.l.length 0 W.l then aqE V.l.length Cx.length st {W with g:=fR (d+1) W.g,nt:=V.nt} k else .fail 137
     |_,_=>.fail 137
  |_=>.fail 138
 |_=>.fail 133
end step
def exec(n:Nat):Cs->qu:=WN (λ_ _ _ _ _ _ _=>.fail 140) (λ_ s Cx=>zY P cfg Cx s) n
def mw:Nat->aj VK->aj (PV SE)
 |_,[]=>[]
 |j,t::ts=>ofType P t (.var j)::mw (j+1) ts
def yz:Nat->aj VK->au->au
 |_,[],k=>k
 |j,t::ts,k=>wz P t (.var j) (yz (j+1) ts k)
def jc(n:Nat)(aH:Bool)(f:V4):au:=
 match P.funcs[f]? with
 |some fn=>match fn.body with
  |some c=>
   if ZK fn.params.size fn.ntmps then
    yz P 0 fn.params.toList<|exec P cfg n [] af 0 f c ⟨setArgs 0 0 (mw P 0 fn.params.toList),[],fn.params.size,0,fn.ntmps⟩ λex V=>match ex with
     |.exit _=>.fail 141
     |.dh _ _=>.fail 146
     |_=>match xo P 0 V fn.results.toList with
      |some dM=>match BQ V (N7 dM)with
       |some (fr,z,_)=>.ret (if aH&&fr then .rw z else z)
       |none=>.fail 142
      |none=>.fail 110
   else .fail 143
  |none=>.fail 144
 |none=>.fail 145
end run
variable(P:V5)
def yA(z:IV):aF IV:=if aw z then aa z else ah
def aZ:IV->Bool
 |.raw _=>ab
 |_=>af
def lz:IV->aF Int
 |.raw (.int _ n)=>aa n
 |_=>ah
def dN(op:BinOp)(t:VK)(a b:IV):aF IV:=
 match pd a,pd b with
 |some .nilIface,_=>ah
 |some _,aa _=>vM P op t (.func 0) (.func 0) a b
 |_,_=>ah
def U_(op:UnOp):IV->aF IV
 |.raw v=>(a_ P (Op.unary op v)).map lift
 |_=>ah
def Py(src dst:VK):IV->aF IV
 |.raw (.string s)=>match P.underlying src,P.underlying dst with
  |some _,aa .string=>aa (.raw (.string s))
  |_,_=>ah
 |.raw v=>(a_ P (convert src dst v)).map lift
 |_=>ah
def cu(s:Nat):IV->IV->aF IV
 |.tree s' es,i=>match lz i with
  |some n=>if s'=s/\0<=n then match es[n.toNat]? with
   |some x=>if(aD x).length=s then aa x else ah
   |none=>ah
   else ah
  |none=>ah
 |_,_=>ah
def jo(s:Nat)(es:aj IV):Bool:=es.all λe=>(aD e).length==s&&(aD e).all aw
def dG(s bytes:Nat):IV->IV->aF IV
 |.tree s1 es,.tree s2 fs=>if s1=s/\s2=s/\0<s/\jo s fs=ab/\(4*(es.length+fs.length)+4096)*bytes<=2 ^47/\es.length+fs.length<=2 ^40 then aa (.tree s (es++fs))else ah
 |_,_=>ah
def Bq(s:Nat):IV->IV->IV->aF IV
 |.tree s1 es,i,x=>match lz i with
  |some n=>if s1=s/\0<=n/\n.toNat<es.length/\(aD x).length=s then aa (.tree s (es.set n.toNat x))else ah
  |none=>ah
 |_,_,_=>ah
def wi(s:Nat):IV->IV->IV->aF IV
 |.tree s1 es,lo,hi=>match lz lo,lz hi with
  |some l,aa h=>if s1=s/\0<=l/\l.toNat<=h.toNat/\0<=h/\h.toNat<=es.length then aa (.tree s ((es.take h.toNat).drop l.toNat))else ah
  |_,_=>ah
 |_,_,_=>ah
def KO:IV->aF IV
 |.tree _ es=>aa (.int es.length)
 |_=>ah
def DC:IV->aF IV
 |.raw (.string b)=>aa (.int b.size)
 |_=>ah
def xp:aj IV->aF (aj ZQ)
 |[]=>aa []
 |c::cs=>match c with
  |.raw (.int q n)=>(xp cs).map (Value.int q n::·)
  |.raw (.string q)=>(xp cs).map (Value.string q::·)
  |.raw (.bool q)=>(xp cs).map (Value.bool q::·)
  |_=>ah
def keyOf:IV->aF ZQ
 |.raw (.int q n)=>aa (.int q n)
 |.raw (.string q)=>aa (.string q)
 |.agg cs=>(xp cs).map λvs=>.agg vs.toArray
 |_=>ah
def oX:aj IV->aF (aj ZQ)
 |[]=>aa []
 |d::ds=>match d with
  |.aU [k,_]=>match keyOf k,oX ds with
   |some v,aa vs=>aa (v::vs)
   |_,_=>ah
  |_=>ah
def nowAt(kd:TypeDesc)(k:ZQ):aj ZQ->Nat->aF (aF Nat)
 |[],_=>aa ah
 |e::es,n=>match Uz kd k e with
  |some ab=>aa (aa n)
  |some af=>nowAt kd k es (n+1)
  |none=>ah
def zZ(kt:VK):aF TypeDesc:=
 match P.underlying kt with
 |some (.int q)=>aa (.int q)
 |some .string=>aa .string
 |_=>ah
def Hn(kt:VK)(ks:aj ZQ)(k:ZQ):aF (aF Nat):=
 match gX P ab kt k (ks.map λe=>(e,.undef,0)),gX P af kt k (ks.map λe=>(e,.undef,0))with
 |some q,aa q'=>if q=q' then(match q with
  |none=>aa ah
  |some j=>match ks[j]? with
   |some e=>if Xi 10000 e k then aa (aa j)else ah
   |none=>ah)else ah
 |_,_=>ah
def gY(kt:VK)(ds:aj IV)(key:IV):aF (aF Nat):=
 match zZ P kt,oX ds,keyOf key with
 |some kd,aa ks,aa k=>nowAt kd k ks 0
 |none,aa ks,aa k=>Hn P kt ks k
 |_,_,_=>ah
def kS(w:Nat):IV->IV->aF IV
 |.raw (.string s),.raw (.int .i64 p)=>if 0<=p then(match w with
  |0=>aa (.raw (.bool (decide (p.toNat<s.size))))
  |1=>aa (.raw (.int .i32 (Nf s p.toNat).1))
  |2=>aa (.raw (.int .i64 ((p.toNat+(Nf s p.toNat).2:Nat))))
  |_=>ah)else ah
 |.raw (.int q c),p=>if w=7/\0<=c/\c<=1000000 then aa (.raw (.int q c))
  else if w=8/\1<=c/\c<=1000000/\(q==QY)=ab/\(aD p).length=1 then aa (.tree 1 (Xp c.toNat p))
  else if w=10/\0<=c/\c<=1000000/\(aD p).length=1 then aa (.tree 1 (Xp c.toNat p))else ah
 |.aU ds,_=>if w=9 then aa (.int ds.length)else ah
 |.raw (.slice ah 0 0),_=>if w=11 then aa (.raw (.bool ab))else ah
 |_,_=>ah
def SE.den(O:aj IV):SE->aF IV
 |.var x=>O[x]?
 |.i n=>aa (.raw (.int .i64 n))
 |.k q n=>aa (.raw (.int q n))
 |.b t=>aa (.raw (.bool t))
 |.s l=>aa (.raw (.string ⟨l.toArray⟩))
 |.raw v=>aa (.raw v)
 |.ok e=>(e.den O).bind yA
 |.qG n e=>(e.den O).bind λ|.agg cs=>if cs.length=n/\cs.all aw then aa (.agg cs)else ah|_=>ah
 |.bt e j=>(e.den O).bind λ|.agg cs=>(cs[j]?).bind yA|_=>ah
 |.idx q e x=>(e.den O).bind λa1=>(x.den O).bind λb1=>cu q a1 b1
 |.mG q e x j=>(e.den O).bind λa1=>(x.den O).bind λb1=>(cu q a1 b1).bind λy=>((aD y)[j]?).bind yA
 |.len e=>(e.den O).bind KO
 |.xl e=>(e.den O).bind DC
 |.an=>aa (.agg [])
 |.ac a r=>(a.den O).bind λx=>(r.den O).bind λ|.agg cs=>aa (.agg (x::cs))|_=>ah
 |.tr q r=>(r.den O).bind λ|.agg cs=>if 0<q/\cs.all (λe=>(aD e).length==q)then aa (.tree q cs)else ah|_=>ah
 |.tp r=>(r.den O).bind λ|.agg cs=>aa (.aU cs)|_=>ah
 |.cat q bytes e f=>(e.den O).bind λa1=>(f.den O).bind λb1=>dG q bytes a1 b1
 |.BP q e x y=>(e.den O).bind λa1=>(x.den O).bind λb1=>(y.den O).bind λc1=>Bq q a1 b1 c1
 |.sub q e lo hi=>(e.den O).bind λa1=>(lo.den O).bind λb1=>(hi.den O).bind λc1=>wi q a1 b1 c1
 |.proj e j=>(e.den O).bind λ|.aU cs=>cs[j]? |_=>ah
 |.bin op t a2 b2=>(a2.den O).bind λx1=>(b2.den O).bind λy1=>dN P op t x1 y1
 |.un op a=>(a.den O).bind (U_ P op)
 |.cv q d a=>(a.den O).bind (Py P q d)
 |.mx big a2 b2=>(a2.den O).bind λx1=>(b2.den O).bind λy1=>if big then QW P [x1,y1]else ah
 |.Pr e x=>(e.den O).bind λa1=>(x.den O).bind λb1=>match a1,b1 with
  |.raw (.string q),.raw (.int _ n)=>if 0<=n then(q.data.toList[n.toNat]?).map λc=>.raw (.int .u8 c.toNat)else ah
  |_,_=>ah
 |.N2 e lo hi=>(e.den O).bind λa1=>(lo.den O).bind λb1=>(hi.den O).bind λc1=>match a1,lz b1,lz c1 with
  |.raw (.string q),aa l,aa h=>if 0<=l/\l.toNat<=h.toNat/\0<=h/\h.toNat<=q.size then aa (.raw (.string ⟨((q.data.toList.drop l.toNat).take (h.toNat- l.toNat)).toArray⟩))else ah
  |_,_,_=>ah
 |.dec w a p=>(a.den O).bind λa1=>(p.den O).bind λb1=>kS w a1 b1
 |.rw e=>(e.den O).bind λz=>if aZ z then aa z else ah
 |.rws e=>(e.den O).bind λ|.tree q es=>if es.all (λe=>(aD e).all aZ)then aa (.tree q es)else ah|_=>ah
 |.has kt m key=>(m.den O).bind λa1=>(key.den O).bind λk1=>match a1 with
  |.aU ds=>(gY P kt ds k1).map λr=>.bool r.isSome
  |_=>ah
 |.get kt m key z=>(m.den O).bind λa1=>(key.den O).bind λk1=>(z.den O).bind λd1=>match a1 with
  |.aU ds=>match gY P kt ds k1 with
   |some (aa j)=>match ds[j]? with
    |some (.aU [_,y1])=>aa y1
    |_=>ah
   |some ah=>aa d1
   |none=>ah
  |_=>ah
 |.ins kt m key x=>(m.den O).bind λa1=>(key.den O).bind λk1=>(x.den O).bind λy1=>match a1 with
  |.aU ds=>match gY P kt ds k1 with
   |some (aa j)=>aa (.aU (ds.set j (.aU [k1,y1])))
   |some ah=>aa (.aU (ds++[.aU [k1,y1]]))
   |none=>ah
  |_=>ah
def SE.eI{O I:aj IV}:∀(e:SE) {z:IV},e.den P O=aa z->e.den P (O++I)=aa z:=by
 have hb:∀{o o':aF IV} {f:IV->aF IV} {z:IV},(∀y,o=aa y->o'=aa y)->o.bind f=aa z->o'.bind f=aa z:=by
  intro o o' f z h hz;cases o with
  |none=>grind
  |some y=>grind
 intro e;induction e with
 |var x=>grind [SE.den]
 |i n=>intro z h;exact h
 |k q n=>intro z h;exact h
 |b t=>intro z h;exact h
 |s l=>intro z h;exact h
 |raw v=>intro z h;exact h
 |an=>intro z h;exact h
 |ok e ih=>intro z h;exact hb (λy=>ih) h
 |qG n e ih=>intro z h;exact hb (λy=>ih) h
 |bt e j ih=>intro z h;exact hb (λy=>ih) h
 |xl e ih=>intro z h;exact hb (λy=>ih) h
 |len e ih=>intro z h;exact hb (λy=>ih) h
 |tr q r ih=>intro z h;exact hb (λy=>ih) h
 |tp r ih=>intro z h;exact hb (λy=>ih) h
 |proj e j ih=>intro z h;exact hb (λy=>ih) h
 |un op a ih=>intro z h;exact hb (λy=>ih) h
 |cv q d a ih=>intro z h;exact hb (λy=>ih) h
 |rw e ih=>intro z h;exact hb (λy=>ih) h
 |rws e ih=>intro z h;exact hb (λy=>ih) h
 |idx q e x kF jy|mG q e x j kF jy|ac a r kF jy|cat q by' e f kF jy|bin op t a b kF jy|mx big a b kF jy|Pr e x kF jy|has kt m key kF jy|dec w a p kF jy=>
  intro z h;simp only[SE.den,ZS]at h⊢
  grind
 |BP q e x y kF jy Pz|sub q e lo hi kF jy Pz|N2 e lo hi kF jy Pz|ins kt m key x kF jy Pz|get kt m key z' kF jy Pz=>
  intro z h;simp only[SE.den,ZS]at h⊢
  grind
abbrev Cr:=V4->Bool->aj IV->IV->Prop
def lA(O:aj IV)(e:SE):aF (aj IV):=
 match e.den P O with
 |some (.agg cs)=>aa cs
 |_=>ah
def au.sat(C:Cr)(Q:IV->Prop):au->aj (aj IV->Prop)->aj IV->Prop
 |.fail _,_,_=>False
 |.ret e,_,O=>∃z,e.den P O=aa z/\Q z
 |.test e a b,K,O=>(e.den P O=aa (.bool ab)/\a.sat C Q K O)\/(e.den P O=aa (.bool af)/\b.sat C Q K O)
 |.bind e k,K,O=>∃z,e.den P O=aa z/\k.sat C Q K (O++[z])
 |.aQ e k,K,O=>(∃z,e.den P O=aa z)/\k.sat C Q K O
 |.call f aH av k,K,O=>∃xs z,lA P O av=aa xs/\C f aH xs z/\k.sat C Q K (O++[z])
 |.pick es x a b,K,O=>∃ds rem,es.den P O=aa (.aU ds)/\(∃r,x.den P O=aa (.aU (.aU ds::.aU rem::r)))/\(rem=[]->a.sat C Q K O)/\∀i y,rem[i]?=aa y->b.sat C Q K (O++[y,.aU [.aU ds,.aU (rem.eraseIdx i),y]])
 |.same es x k,K,O=>∃ds r,es.den P O=aa (.aU ds)/\x.den P O=aa (.aU (.aU ds::r))/\k.sat C Q K O
 |.uniq k,K,O=>k.sat C Q K O
 |.loop init body,K,O=>∃vs,lA P O init=aa vs/\∃m:Nat,(WN (motive:=λ_=>aj IV->Prop) (λ_=>False) (λ_ ih vs=>body.sat C Q (K++[ih]) (O++vs)) m) vs
 |.qH body m cont,K,O=>body.sat C Q (K++[λvs=>vs.length=m/\cont.sat C Q K (O++vs)]) O
 |.next lv av,K,O=>∃vs p,lA P O av=aa vs/\K[lv]?=aa p/\p vs
 |.bad ..,_,_=>False
abbrev KQ(K K':aj (aj IV->Prop)):Prop:=All2 (λp q=>∀vs,p vs->q vs) K K'
variable{K K':aj (aj IV->Prop)}
def KQ.snoc(h:KQ K K'){p q:aj IV->Prop}(hp:∀vs,p vs->q vs):KQ (K++[p]) (K'++[q]):=h.app ⟨hp,trivial⟩
theorem KQ.refl:∀(K:aj (aj IV->Prop)),KQ K K
 |[]=>trivial
 |_::K=>⟨λ_ h=>h,KQ.refl K⟩
theorem au.kG{C:Cr}:∀(f:au) {Q Q':IV->Prop} {K K':aj (aj IV->Prop)} {O:aj IV},(∀z,Q z->Q' z)->KQ K K'->f.sat P C Q K O->f.sat P C Q' K' O
 |.fail _,_,_,_,_,_,_,_,h=>h
 |.bad ..,_,_,_,_,_,_,_,h=>h
 |.ret _,_,_,_,_,_,hq,_,⟨z,h1,h2⟩=>⟨z,h1,hq z h2⟩
 |.test _ a b,_,_,_,_,_,hq,hk,h=>h.imp (λh=>⟨h.1,kG a hq hk h.2⟩) λh=>⟨h.1,kG b hq hk h.2⟩
 |.bind _ k,_,_,_,_,_,hq,hk,⟨z,h1,h2⟩=>⟨z,h1,kG k hq hk h2⟩
 |.aQ _ k,_,_,_,_,_,hq,hk,⟨h1,h2⟩=>⟨h1,kG k hq hk h2⟩
 |.call _ _ _ k,_,_,_,_,_,hq,hk,⟨xs,z,h1,h2,h3⟩=>⟨xs,z,h1,h2,kG k hq hk h3⟩
 |.pick _ _ a b,_,_,_,_,_,hq,hk,⟨ds,rem,h1,h2,h3,h4⟩=>⟨ds,rem,h1,h2,λhe=>kG a hq hk (h3 he),λi y hy=>kG b hq hk (h4 i y hy)⟩
 |.same _ _ k,_,_,_,_,_,hq,hk,⟨ds,r,h1,h2,h3⟩=>⟨ds,r,h1,h2,kG k hq hk h3⟩
 |.uniq k,_,_,_,_,_,hq,hk,h=>kG k hq hk h
 |.next lv _,_,_,_,_,_,_,hk,⟨vs,p,h1,h2,h3⟩=>by
  have ux:=UN (by rw[<-hk.len];exact(Z5.1 h2).1);exact⟨vs,_,h1,ux,hk.get h2 ux vs h3⟩
 |.qH a m b,_,_,_,_,_,hq,hk,h=>kG a hq (hk.snoc λ_ hv=>⟨hv.1,kG b hq hk hv.2⟩) h
 |.loop _ b,Q,Q',K,K',O,hq,hk,⟨vs,h1,m,hm⟩=>by
  have key:∀(m:Nat) (vs:aj IV),(WN (motive:=λ_=>aj IV->Prop) (λ_=>False) (λ_ ih vs=>b.sat P C Q (K++[ih]) (O++vs)) m) vs->(WN (motive:=λ_=>aj IV->Prop) (λ_=>False) (λ_ ih vs=>b.sat P C Q' (K'++[ih]) (O++vs)) m) vs:=by
   intro m;induction m with
   |zero=>intro vs h;exact h
   |succ m ih=>intro vs h;exact kG b hq (hk.snoc ih) h
  exact⟨vs,h1,m,key m vs hm⟩
end
variable{C:Cr}{K:aj (aj IV->Prop)}{O dR xs:aj IV}
section
abbrev aM(P:V5)(O:aj IV):SE->aF IV:=λe=>e.den P O
abbrev JQQ(Cx:Cs)(P:V5)(O:aj IV)(R:Rs)(X:Ph)(V:SS)(E:Nat->aK)(G:St):Prop:=J Cx (aM P O) R X V.g V.l E G
def bytes_eta(b:ByteArray):(⟨b.data.toList.toArray⟩:ByteArray)=b:=by rfl
variable{G:St}{L:aj (LO SE)}{P:V5}{R:Rs}{X:Ph}
def aHe(t:VK)(v:ZQ):dT (aM P O) R X L G (.raw v) (D5 P t v):=by
 have raw:∀u:ZQ,(∀c,u≠.agg c)->(∀c,u≠.tuple c)->dT (aM P O) R X L G (.raw u) (.v (.raw u)):=λu h1 h2=>by
  exists .raw u,rfl,.raw u;cases u<;>first|rfl|exact bH rfl (h1 _)|exact bH rfl (h2 _)
 unfold D5;split
 .exact⟨_,rfl,.raw _,rfl⟩
 .exact⟨_,rfl,.raw _,rfl⟩
 .exact⟨_,rfl,.raw _,rfl⟩
 .rename_i b;refine⟨.raw (.string b),?_,.raw _,rfl⟩;show aa (IV.raw (.string ⟨b.data.toList.toArray⟩))=_;rw[bytes_eta]
 .split<;>try exact raw _ az az
  rename_i s hs;split<;>try exact raw _ az az
  rename_i h;have:s≠0:=by simpa using h
  exact⟨ak,rfl⟩
 .trivial
 .trivial
 .exact raw _ (λc hc=>jw) λc hc=>jw
theorem Iv:∀(ts:aj VK) (vs:aj ZQ),ts.length=vs.length->All2 (dT (aM P O) R X L G) (vs.map .raw) (P1 (D5 P) ts vs)
 |[],[],_=>trivial
 |t::ts,v::vs,h=>⟨aHe t v,Iv ts vs aI⟩
 |[],_::_,h=>by grind
 |_::_,[],h=>by grind
def adh(t:VK)(v:ZQ):VR (aM P O) R X L G (lift v) (Rp P t v):=by
 have key:dT (aM P O) R X L G (.raw v) (D5 P t v):=aHe t v;cases v with
 |agg cs=>
  simp only[Rp];split
  .rename_i h;exact⟨_,rfl,Iv _ _ (ZR h)⟩
  .trivial
 |_=>exact key
variable{t:VK}{z:SE}
def uA{z:ZQ}(h:dW P t=aa z):All2 (dT (aM P O) R X L G) (z.cells.toList.map .raw) (zeroCells P t):=by
 unfold zeroCells;rw[h];simp only;split
 .rename_i hh;exact Iv _ _ (ZR hh)
 .refine .mk az λi a b h1 h2=>?_;rw[Z7]at h2;obtain⟨_,_,rfl⟩:=Lq.1 h2;trivial
variable{Cx:Cs}{E:Nat->aK}{V:SS}
def b_(h:JQQ Cx P O R X V E G)(d:Nat)(t:VK)(x:Xs):VR (aM P O) R X V.l G (aT (E d) x) (cJ P d V t x):=by
 cases x with
 |tmp y=>
  show VR _ _ _ _ _ ((E d).at y) ((dk d y V.g).getD (.one .un));cases hg:dk d y V.g with
  |none=>trivial
  |some pv=>exact h.slot d y pv hg
 |const v=>exact adh t v
 |func f=>exact .inl ⟨rfl,rfl⟩
 |global g=>trivial
variable{fr:Bool}{x y:IV}
theorem bZ.aw(h:bZ fr R G x y)(hy:Ev.aw y=ab):Ev.aw x=ab:=by
 cases h<;>first|exact hy|rfl|(simp at hy;done)
def bZ.anQ(h:bZ fr R G x y)(hx:Ev.aw x=ab):Ev.aw y=ab:=by
 cases h<;>first|exact hx|rfl|(simp at hx;done)
variable{c:Cl SE}
theorem dT.aw(h:dT (aM P O) R X L G x c)(hn:c≠.un):Ev.aw x=ab:=by
 cases c with
 |un=>grind
 |v z=>have⟨y,_,h1,h2⟩:=h;exact h1.aw h2
 |w fr z=>have⟨y,_,h1,h2⟩:=h;exact h1.aw h2
 |pt k ay ext=>obtain⟨id,cs,_,_,rfl⟩:=h;rfl
 |tp cs=>obtain⟨ds,rfl,_⟩:=h;rfl
 |tw fr cs=>obtain⟨_,⟨_,ds,rfl,_⟩|⟨id,ay,ep,m,dR,aV,mn,_,_,_,_,rfl,_⟩⟩:=h<;>rfl
 |sr k=>obtain⟨s,st,cut,fr,z,es,_,_,⟨_,_,rfl|rfl⟩|⟨id,cs,aV,mn,cap,_,_,rfl,_⟩⟩:=h<;>rfl
 |sv k lo=>obtain⟨s,st,cut,fr,z,es,y,n,_,_,_,_,_,(⟨_,_,rfl|rfl⟩|⟨id,cs,aV,mn,cap,_,_,rfl,_⟩)|⟨_,rfl⟩⟩:=h<;>rfl
 |pr k i ay ext=>obtain⟨s,st,cut,fr,z,es,y,n,id,cs,aV,mn,_,_,_,_,_,_,_,_,rfl⟩:=h;rfl
 |mp k=>obtain⟨id,kt,es,_,_,rfl⟩:=h;split<;>rfl
 |yl k=>obtain⟨id,c,st,sn,_,_,rfl⟩:=h;rfl
 |nl b s=>obtain⟨_,rfl⟩:=h;cases b<;>rfl
 |fn f bs=>obtain⟨_,rfl⟩|⟨ys,rfl,_⟩:=h<;>rfl
theorem N9:∀{cs:aj (Cl SE)},zR cs=ab->∀c∈cs,c≠.un
 |[],_,c,hc=>by grind
 |d::cs,h,c,hc=>by
  have hd:d≠.un/\zR cs=ab:=by
   grind [zR]
  rcases ZP.1 hc with rfl|hc
  .grind
  .exact N9 hd.2 c hc
variable{cs:aj (Cl SE)}
def yB(h:All2 (dT (aM P O) R X L G) xs cs)(hn:zR cs=ab):xs.all Ev.aw=ab:=by
 rw[US];intro x hx;have⟨i,hi⟩:=YN hx;have hl:i<cs.length:=by grind [h.len]
 have hc:=UN hl;exact(h.get hi hc).aw (N9 hn _ (ZU hc))
variable{pv:PV SE}
def Fp(h:VR (aM P O) R X L G x pv)(hn:zR (gU pv)=ab):All2 (dT (aM P O) R X L G) (aD x) (gU pv):=by
 cases pv with
 |one c=>
  have bM:=dT.aw (c:=c) h (N9 hn c (by simp[gU]))
  have:aD x=[x]:=by
   cases x<;>first|rfl|contradiction
  rw[this];exact⟨h,trivial⟩
 |ag cs=>obtain⟨xs,rfl,h2⟩:=h;exact h2
 |tu vs=>contradiction
variable{s k:Nat}{R':Rs}{cut:Bool}
def N_:∀{es:aj IV} (_:∀e∈es,(aD e).length=s) {i j:Nat} {e d:IV},es[i]?=aa e->(aD e)[j]?=aa d->(flat es)[i*s+j]?=aa d:=by
 intro es;induction es with
 |nil=>simp
 |cons a es ih=>
  intro cD i j e d he hd;have ha:=cD a az;unfold flat;rw[XG];cases i with
  |zero=>
   grind
  |succ i=>
   simp at he;rw[W6,Ub ak,ha];have:=ih (λe he=>cD e aI) he hd;rw[show i*s+1*s+j- s=i*s+j by omega];exact this
def xq:∀{es:aj IV} (_:∀e∈es,(aD e).length=s),(flat es).length=es.length*s:=by
 intro es;induction es with
 |nil=>simp_all[flat]
 |cons a es ih=>
  intro cD;have:=ih λe he=>cD e aI;unfold flat at this⊢
  grind
theorem adi(V:SS)(k:Nat)(o:LO SE):(V.setObj k o).l=V.l.set k o:=rfl
def aiJ(h:JQQ Cx P O R X V E G)(hk:V.l[k]?=aa (.row s af cut fr z)):
 ∃R',ni (aM P O) (aM P O) R X V.l G R' X (V.l.set k (.row s ab cut fr z)) G (λ_=>False)/\J Cx (aM P O) R' X V.g (V.l.set k (.row s ab cut fr z)) E G:=by
 have⟨dc,es,he,cD,W7⟩:=h.obj k _ hk;have gR:=gr hk;have cH:(V.l.set k (.row s ab cut fr z))[k]?=aa (.row s ab cut fr z):=aI;have cg:∀j,j≠k->(V.l.set k (.row s ab cut fr z))[j]?=V.l[j]? :=λj hj=>YQ λhc=>hj hc.symm
 have aln:∀R',lq R G R' G->ni (aM P O) (aM P O) R X V.l G R' X (V.l.set k (.row s ab cut fr z)) G (λ_=>False):=λR' hg=>by
  refine .mk' (λ_ _ h=>h) hg (λj cs hj=>?_) (λj kt es hj=>?_) (λj s' st BR eP z' hj _=>?_) λj c st snap hj=>?_
  all_goals grind
 rcases W7 with⟨h1,h2⟩|⟨id,cs,aV,mn,h1,h2,h3,h4,h5,h6,h7⟩
 .have hs:=aln R (lq.refl h.fits);refine⟨R,hs,{h with slot:=λd t pv hg=>(h.slot d t pv hg).step hs pv.bP,obj:=λj o hj=>?_,lt:=λj id hj=>by simpa using h.lt j id hj}⟩;by_cases dg:j=k
  .subst dg;rw[cH]at hj;cases hj;exact⟨dc,es,he,cD,.inl ⟨h1,h2⟩⟩
  .rw[cg j dg]at hj;exact(h.obj j o hj).step hs rfl (λ_ _=>⟨rfl,rfl⟩) o.bP
 .let R':Rs:=λi=>if i=id then aa (es.length*s)else R i
  have KR:R id=ah:=aI
  have hg:lq R G R' G:=by
   refine⟨λi m hm=>⟨m,?_,XS _⟩,λi m cL oi wg hm bx=>⟨cL,oi,bx,XS _,λ_ _=>rfl⟩,λi m cL oi wg hm bx=>?_⟩
   .grind
   .simp only[R']at hm;split at hm
    .grind
    .exact h.fits i m cL oi wg hm bx
  have hs:=aln R' hg;refine⟨R',hs,{h with slot:=λd t pv VQ=>(h.slot d t pv VQ).step hs pv.bP,obj:=λj o hj=>?_,lt:=λj id hj=>by simpa using h.lt j id hj,tC:=λi m hm=>?_,fits:=hg.fits}⟩
  .by_cases dg:j=k
   .subst dg;rw[cH]at hj;cases hj;exact⟨dc,es,he,cD,.inr ⟨id,cs,aV,mn,h1,h2,h3,h4,aI,h6,λj x d hx hd=>(h7 j x d hx hd).mono hg⟩⟩
   .rw[cg j dg]at hj;refine(h.obj j o hj).step hs rfl (λi hi=>⟨rfl,?_⟩) o.bP;have:i≠id:=λhc=>dg (h.inj j k id aI h1)
    grind
  .simp only[R']at hm;split at hm
   .rename_i hc;subst hc;exact(h.lt _ _ h1).2
   .exact h.tC i m hm
variable{Γ:Gm SE}{R1 R2:Rs}{aG:St}{V1:SS}{a:IV}{u:ZQ}
def aGt(h:J Cx (aM P O) R X Γ L E G)(hk:L[k]?=aa (.row s ab cut fr z))(hx:dT (aM P O) R X L G x (.sr k)):
 ∃y,z.den P O=aa y/\bZ fr R G x y/\aw y=ab:=by
 have⟨dc,es,he,cD,W7⟩:=h.obj k _ hk;have⟨s',eX,BR,eP,z',bF,h1,h2,Kk⟩:=hx;rw[hk]at h1;cases h1;rw[he]at h2;cases h2;refine⟨_,he,?_,rfl⟩;rcases Kk with⟨h3,h4,h5⟩|⟨id,cs,aV,mn,cap,h3,h4,rfl,h5,h6,h7⟩
 .have:=Kp h4;subst this;rcases h5 with rfl|rfl
  .exact .nil s dc
  .exact .emp s dc
 .rcases W7 with⟨h8,_⟩|⟨bY,cL,oi,wg,h8,h9,Wv,Ww,Tz,h13,h14⟩
  .grind
  .rw[h3]at h8;cases h8;rw[h4]at h9;cases h9;refine .sl id (0*s) (es.length- 0) cap aV s (es.length*s) cs aV mn es aI h4 Wv (XS _) dc rfl az Ww cD λi e j c d he hd hc=>?_;refine h14 (i*s+j) c d aI (N_ cD he hd)
def lY(P:V5)(O:aj IV)(R:Rs)(X:Ph)(V:SS)(G:St)(R':Rs)(V':SS):Prop:=
 V'.g=V.g/\V'.n=V.n/\V'.ln=V.ln/\ni (aM P O) (aM P O) R X V.l G R' X V'.l G λ_=>False
def ni.trans{B:Type}{ev:B->aF IV}{R3:Rs}{fa Fq φ3:Ph}{L1 L2 L3:aj (LO B)}{dJ oI:St}(h:ni ev ev R1 fa L1 aG R2 Fq L2 dJ λ_=>False)(k:ni ev ev R2 Fq L2 dJ R3 φ3 L3 oI λ_=>False):
 ni ev ev R1 fa L1 aG R3 φ3 L3 oI (λ_=>False):=by
 refine⟨λ_ _ h=>h,⟨λid m hm=>?_,λid m cs aV mn hm bx=>?_,k.grow.fits⟩,λj cs hj=>?_,λj kt es hj=>?_,λj s st cut fr z hj hb=>?_,λj c st snap hj=>?_⟩
 .have⟨m1,h1,h2⟩:=h.grow.le id m hm;have⟨m2,h3,h4⟩:=k.grow.le id m1 h1
  grind
 .have⟨Br,Iw,h1,h2,h3⟩:=h.grow.keep id m cs aV mn hm bx;have⟨m1,h4,h5⟩:=h.grow.le id m hm;have⟨cs2,z7,h6,h7,h8⟩:=k.grow.keep id m1 Br Iw mn h4 h1
  grind
 .have⟨⟨cL,h1⟩,h2⟩:=h.var j cs hj;have⟨h3,h4⟩:=k.var j cL h1
  grind
 .have⟨⟨bF,h1⟩,h2⟩:=h.map j kt es hj;have⟨h3,h4⟩:=k.map j kt bF h1
  grind
 .have⟨⟨sM,Ea,z1,h1,ew⟩,h2,h3⟩:=h.row j _ _ _ _ _ hj hb;have⟨⟨st2,fr2,z2,h4,h4'⟩,h5,h6⟩:=k.row j _ _ _ _ _ h1 hb
  grind
 .have⟨⟨c1,sM,aEW,h1⟩,h2⟩:=h.lp j c st snap hj;have⟨h3,h4⟩:=k.lp j _ _ _ h1
  grind
theorem lY.refl(h:JQQ Cx P O R X V E G):lY P O R X V G R V:=
 ⟨rfl,rfl,rfl,.mk' (λ_ _ h=>h) (lq.refl h.fits) (λk cs hk=>⟨⟨cs,hk⟩,rfl⟩) (λk kt es hk=>⟨⟨es,hk⟩,rfl⟩) (λk s st cut fr z hk _=>⟨⟨st,hk⟩,rfl,λ_ _=>rfl⟩) λk c st snap hk=>⟨⟨c,st,snap,hk⟩,rfl⟩⟩
theorem lY.trans{V2:SS}(h:lY P O R X V G R1 V1)(k:lY P O R1 X V1 G R2 V2):lY P O R X V G R2 V2:=
 ⟨k.1.trans h.1,k.2.1.trans h.2.1,k.2.2.1.trans h.2.2.1,h.2.2.2.trans k.2.2.2⟩
def lY.W9(h:lY P O R X V G R1 V1)(hx:dT (aM P O) R X V.l G x c):dT (aM P O) R1 X V1.l G x c:=hx.step h.2.2.2 c.bP
def lY.vr(h:lY P O R X V G R1 V1){c:PV SE}(hx:VR (aM P O) R X V.l G x c):VR (aM P O) R1 X V1.l G x c:=hx.step h.2.2.2 c.bP
def AB(h:JQQ Cx P O R X V E G)(k:Nat):∃R',lY P O R X V G R' (qt k V)/\J Cx (aM P O) R' X (qt k V).g (qt k V).l E G/\
 (∀s st cut fr z,V.l[k]?=aa (.row s st cut fr z)->(qt k V).l[k]?=aa (.row s ab cut fr z)):=by
 unfold qt;split
 .rename_i s cut fr es hk;have⟨R',h1,h2⟩:=aiJ h hk;refine⟨R',⟨rfl,rfl,rfl,h1⟩,h2,λs' eX BR eP z' er=>?_⟩;rw[hk]at er;grind [adi]
 .refine⟨R,.refl h,h,λs st cut fr z hk=>?_⟩;cases st with
  |true=>omega
  |false=>grind
def KT{V':SS}(h:JQQ Cx P O R X V E G)(hr:Ng V c=aa (fr,z,V')):
 ∃R',lY P O R X V G R' V'/\JQQ Cx P O R' X V' E G/\∀x,dT (aM P O) R X V.l G x c->∃y,z.den P O=aa y/\bZ fr R' G x y/\aw y=ab:=by
 cases c with
 |v z'=>
  obtain⟨rfl,rfl,rfl⟩:=hr;refine⟨R,.refl h,h,λx ⟨y,h1,h2,h3⟩=>⟨y,h1,?_,h3⟩⟩;have hg:lq (λ_=>ah) ⟨0,.lf⟩ R G:=⟨λ_ _ h=>(by cases h),λ_ _ _ _ _ h=>(by cases h),h.fits⟩;exact h2.mono hg
 |w f z'=>
  obtain⟨rfl,rfl,rfl⟩:=hr;exact⟨R,.refl h,h,λx hx=>hx⟩
 |nl b s=>
  obtain⟨rfl,rfl,rfl⟩:=hr;refine⟨R,.refl h,h,λx ⟨h1,h2⟩=>⟨.tree s [],?_,?_,rfl⟩⟩
  .simp[SE.den,h1]
  .subst h2;cases b
   .exact .emp s h1
   .exact .nil s h1
 |sr k=>
  simp only[Ng]at hr;split at hr
  .rename_i s st cut eP es hk;obtain⟨rfl,rfl,rfl⟩:=hr;have⟨R',h1,h2,h3⟩:=AB h k;exact⟨R',h1,h2,λx hx=>aGt h2 (h3 _ _ _ _ _ hk) (h1.W9 hx)⟩
  grind
 |un|pt|tp|tw|sv|pr|mp|fn|yl=>contradiction
theorem DD:∀{cs:aj (Cl SE)} {V V':SS} {R:Rs} {fr:Bool} {zs:aj SE},JQQ Cx P O R X V E G->D6 V cs=aa (fr,zs,V')->
 ∃R',lY P O R X V G R' V'/\JQQ Cx P O R' X V' E G/\zs.length=cs.length/\∀xs,All2 (dT (aM P O) R X V.l G) xs cs->∃ys,All2 (λ(z:SE) y=>z.den P O=aa y) zs ys/\All2 (bZ fr R' G) xs ys/\ys.all Ev.aw=ab
 |[],V,V',R,fr,zs,h,hr=>by
  obtain⟨rfl,rfl,rfl⟩:=hr;refine⟨R,.refl h,h,rfl,λxs hx=>⟨[],trivial,?_,rfl⟩⟩;cases xs with
  |nil=>trivial
  |cons=>assumption
 |c::cs,V,V',R,fr,zs,h,hr=>by
  simp only[D6]at hr;split at hr
  .rename_i f1 z V1 h1;split at hr
   .rename_i f2 zs' V2 h2;obtain⟨rfl,rfl,rfl⟩:=hr;have⟨R1,a1,a2,a3⟩:=KT h h1;have⟨R2,b1,b2,bl,b3⟩:=DD a2 h2;refine⟨R2,a1.trans b1,b2,aI,λxs hx=>?_⟩;cases xs with
    |nil=>cases hx
    |cons x xs=>
     have⟨y,c1,c2,c3⟩:=a3 x hx.1;have⟨ys,d1,d2,d3⟩:=b3 xs (hx.2.mono λ_ _ di=>a1.W9 di);exact⟨y::ys,⟨c1,d1⟩,⟨(c2.mono b1.2.2.2.grow).wide λh=>aI,d2.mono λ_ _ di=>di.wide λh=>aI⟩,aI⟩
   grind
  grind
theorem ig:∀{zs:aj SE} {ys:aj IV},All2 (λ(z:SE) y=>z.den P O=aa y) zs ys->(fZ zs).den P O=aa (.agg ys)
 |[],[],_=>rfl
 |z::zs,y::ys,h=>by simp[fZ,SE.den,h.1,ig h.2]
 |[],_::_,h=>h.elim
 |_::_,[],h=>h.elim
def dH{v:ZQ}(h:bZ fr R G x (.raw v)):x=.raw v:=by cases h<;>rfl
theorem aId:∀{cs ds:aj IV} {us:aj ZQ},nJ ds=aa us->cs.length=ds.length->(∀(i:Nat) c e,cs[i]?=aa c->ds[i]?=aa e->bZ fr R G c e)->cs=ds
 |[],[],_,_,_,_=>rfl
 |c::cs,e::ds,us,hr,hl,h=>by
  simp only[nJ]at hr;split at hr
  .rename_i v;split at hr
   .rename_i vs fk;have h0:=dH (h 0 c (.raw v) rfl rfl);have h1:cs=ds:=aId fk aI λi c e h1 h2=>h (i+1) c e aI aI
    grind
   grind
  grind
 |[],_::_,_,_,hl,_=>by grind
 |_::_,[],_,_,hl,_=>by grind
def akl(h:bZ fr R G x a)(ha:xV a=aa u):x=a:=by
 cases h with
 |raw v=>rfl
 |agg cs ds hl hh=>
  simp only[xV]at ha;split at ha
  .rename_i vs fk;rw[aId fk hl hh]
  grind
 |pure x hf hp=>rfl
 |nil|emp|eT|aU|sl=>contradiction
def Ix(h:bZ fr R G x a)(ha:pd a=aa u):x=a:=by
 cases h with
 |eT t x y hh=>
  simp only[pd]at ha;split at ha
  .rename_i hu;rw[akl hh hu]
  grind
 |raw v=>rfl
 |agg cs ds hl hh=>exact akl (.agg cs ds hl hh) ha
 |pure x hf hp=>rfl
 |nil|emp|aU|sl=>contradiction
def Oa{n:Int}(h:lz y=aa n):∃q,y=.raw (.int q n):=by
 unfold lz at h
 grind
def J.Fs(h:J Cx (aM P O) R X Γ L E G):lq (λ_=>ah) ⟨0,.lf⟩ R G:=⟨λ_ _ h=>(by cases h),λ_ _ _ _ _ h=>(by cases h),h.fits⟩
def eJ(Cx:Cs)(P:V5)(C:Cr)(Q:IV->Prop)(K:aj (aj IV->Prop))(O:aj IV)(E:Nat->aK)(lv:Nat×Nat)(k:PV SE->SS->au)(res:IV->St->Prop):Prop:=
 ∃x aG R1 fa pv V1 I,res x aG/\JQQ Cx P (O++I) R1 fa V1 E aG/\VR (aM P (O++I)) R1 fa V1.l aG x pv/\(O++I).length=V1.n/\V1.ln=lv/\(k pv V1).sat P C Q K (O++I)
variable{Q:IV->Prop}{k:PV SE->SS->au}{lv:Nat×Nat}{res:IV->St->Prop}{d:Nat}
def eJ.here(h1:res x aG)(h2:JQQ Cx P O R X V1 E aG)(h3:VR (aM P O) R X V1.l aG x pv)(h4:O.length=V1.n)(h5:V1.ln=lv)
 (h6:(k pv V1).sat P C Q K O):eJ Cx P C Q K O E lv k res:=
 ⟨x,aG,R,X,pv,V1,[],h1,by rw[Z_];exact h2,by rw[Z_];exact h3,by rw[Z_];exact h4,h5,by rw[Z_];exact h6⟩
theorem eJ.at(h6:(k (.one c) V1).sat P C Q K O)(h2:JQQ Cx P O R X V1 E aG)(h4:O.length=V1.n)(h5:V1.ln=lv)(h3:dT (aM P O) R X V1.l aG x c)(h1:res x aG):
 eJ Cx P C Q K O E lv k res:=.here (pv:=.one c) h1 h2 h3 h4 h5 h6
abbrev cV(P:V5)(E:Nat->aK)(d:Nat)(o:YX)(G:St):IV->St->Prop:=λx aG=>aN P 0 (aT (E d)) o G=aa (.val x aG)
variable(hJ:J Cx (aM P O) R X V.g V.l E G)(hn:O.length=V.n)
include hJ hn
variable{o:YX}{x:Xs}
theorem afH(ho:o.op=.move x\/o.op=.assign x)(hs:(jB P d o V k).sat P C Q K O):eJ Cx P C Q K O E V.ln k (cV P E d o G):=by
 have cB:(k (cJ P d V o.type x) V).sat P C Q K O:=by
  rcases ho with ho|ho<;>(simp_all[jB])
 refine .here (x:=aT (E d) x) (aG:=G) ?_ hJ (b_ hJ d o.type x) hn rfl cB;rcases ho with ho|ho<;>simp[cV,aN,ho,ret]
theorem Xa{x:IV}{t:Bool}(hx:VR (aM P O) R X V.l G x (.one (.v (.b t)))):x=.raw (.bool t):=by
 have⟨y,h1,h2,_⟩:=hx;simp only[SE.den,ZY]at h1;subst h1;exact dH h2
theorem aiK{c a b:Xs}(ho:o.op=.pick c a b)(hs:(jB P d o V k).sat P C Q K O):eJ Cx P C Q K O E V.ln k (cV P E d o G):=by
 simp only[jB,ho]at hs;have hc:=b_ hJ d 0 c;split at hs
 .rename_i hh;rw[hh]at hc;have:=Xa hJ hn hc;refine .here (x:=aT (E d) a) (aG:=G) ?_ hJ (b_ hJ d o.type a) hn rfl hs;simp[cV,aN,ho,this,ret]
 .rename_i hh;rw[hh]at hc;have:=Xa hJ hn hc;refine .here (x:=aT (E d) b) (aG:=G) ?_ hJ (b_ hJ d o.type b) hn rfl hs;simp[cV,aN,ho,this,ret]
 .cases hs
theorem aeu(hc:All2 (dT (aM P O) R X V.l G) dR cs):
 J Cx (aM P O) R (cY X V.l.length G.n) V.g (V.l++[.var cs]) E (G.add (.cells dR 0 0))/\VR (aM P O) R (cY X V.l.length G.n) (V.l++[.var cs]) (G.add (.cells dR 0 0)) (.ptr G.n 0 0 dR.length) (.one (.pt V.l.length 0 cs.length)):=by
 have hs:=He hJ (.cells dR 0 0) (.var cs);refine⟨hJ.oW (.cells dR 0 0) (.var cs) ⟨G.n,dR,by simp[cY],hJ.ur,az,hc.mono λ_ _ di=>di.step hs (Cl.bP _)⟩,⟨G.n,cs,by simp[cY],az,by rw[hc.len]⟩⟩
theorem afI(ho:o.op=.alloc t)(hs:(jB P d o V k).sat P C Q K O):eJ Cx P C Q K O E V.ln k (cV P E d o G):=by
 simp only[jB,ho]at hs;split at hs<;>try cases hs
 cases zE:dW P t with
 |none=>grind
 |some z=>
  have hc:=uA (O:=O) (R:=R) (X:=X) (L:=V.l) (G:=G) zE;have⟨h1,h2⟩:=aeu hJ hn hc;refine .here (V1:={V with l:=V.l++[.var (zeroCells P t)]}) ?_ h1 h2 hn rfl hs;simp[cV,aN,ho,zE,ret]
theorem anR(ho:o.op=.box t x)(hs:(jB P d o V k).sat P C Q K O):eJ Cx P C Q K O E V.ln k (cV P E d o G):=by
 simp only[jB,ho]at hs;split at hs<;>try cases hs
 have S2:zR (gU (cJ P d V t x))=ab:=aI;have hc:=Fp (b_ hJ d t x) S2;have⟨h1,h2⟩:=aeu hJ hn hc;refine .here (V1:={V with l:=V.l++[.var (gU (cJ P d V t x))]}) ?_ h1 h2 hn rfl hs;have:=yB hc S2;simp only[cV,aN,ho,ret,this,if_true]
theorem aGN(ho:o.op=.nilCheck x)(hs:(jB P d o V k).sat P C Q K O):eJ Cx P C Q K O E V.ln k (cV P E d o G):=by
 simp only[jB,ho]at hs;have hc:=b_ hJ d 0 x;split at hs
 .rename_i hh;rw[hh]at hc;refine .here (x:=aT (E d) x) (aG:=G) ?_ hJ hc hn rfl hs;have⟨id,cs,_,_,h3⟩:=hc;simp[cV,aN,ho,h3,ret]
 .contradiction
 .rename_i hh;rw[hh]at hc;refine .here (x:=aT (E d) x) (aG:=G) ?_ hJ hc hn rfl hs;have⟨ds,h3,_⟩:=hc;simp[cV,aN,ho,h3,ret]
 .cases hs
end
variable{Cx:Cs}{E:Nat->aK}{G:St}{L:aj (LO SE)}{P:V5}{Q:IV->Prop}{R R':Rs}{V:SS}{X:Ph}{a:Xs}{ay d s:Nat}{b:Bool}{cs aH:aj IV}{k:PV SE->SS->au}{o:YX}{pv:PV SE}{t:VK}{x:IV}
section
def adj(h:isAgg P t=ab):vL P t=aa ab:=by simp_all[isAgg]
def aGg(h:isAgg P t=af)(hb:vL P t=aa b):vL P t=aa af:=by
 simp_all[isAgg]
def Ho(hs:bD P t=aa s)(hg:vL P t=aa ab)(hle:ay+s<=cs.length):partOf P t cs ay=aa (.agg ((cs.drop ay).take s)):=by
 simp[partOf,hs,hg,hle]
def anS(hs:bD P t=aa 1)(hg:vL P t=aa af):partOf P t cs ay=cs[ay]? :=by
 simp[partOf,hs,hg]
variable{cs:aj (Cl SE)}
def xN(hs:bD P t=aa s)(hb:vL P t=aa b)(hc:All2 (dT (aM P O) R X L G) dR cs)(hle:ay+s<=cs.length)
 (vE:if isAgg P t=ab then pv=.ag ((cs.drop ay).take s)else∃c,(cs.drop ay).take s=[c]/\pv=.one c):∃x,partOf P t dR ay=aa x/\VR (aM P O) R X L G x pv:=by
 have hl:=hc.len;split at vE
 .rename_i ha;subst vE;exact⟨_,Ho hs (adj ha) ak,_,rfl,(hc.drop ay).take s⟩
 .obtain⟨c,h1,rfl⟩:=vE
  have bf:s=1:=by
   have:=congrArg List.length h1
   grind
  subst bf
  have h2:cs[ay]?=aa c:=by
   have:((cs.drop ay).take 1)[0]?=aa c:=aI
   grind
  have⟨x,hx,hr⟩:=hc.Gz h2;exact⟨x,by rw[anS hs (aGg aI hb),hx],hr⟩
def PA(hs:((if isAgg P t=ab then(if ZW cs.length s=ab then k (.ag cs) V else .fail 2)else match cs with|[c]=>k (.one c) V|_=>.fail 3):au).sat P C Q K O):
 ∃pv,(k pv V).sat P C Q K O/\if isAgg P t=ab then pv=.ag cs else∃c,cs=[c]/\pv=.one c:=by
 repeat' split at hs
 all_goals first|grind|cases hs
variable(hJ:J Cx (aM P O) R X V.g V.l E G)(hn:O.length=V.n)
include hJ hn
theorem aiL{pa:PV SE}(hx:VR (aM P O) R X V.l G x pa)(hs:(ac6 P t pa V k).sat P C Q K O):
 eJ Cx P C Q K O E V.ln k (λv aG=>aG=G/\(∀d a,aT (E d) a=x->∀o:YX,o.op=.load t a->aN P 0 (aT (E d)) o G=aa (.val v G))):=by
 unfold ac6 at hs;split at hs
 .cases hs
 .cases hs
 .rename_i s b cd Eb;simp only at hs;split at hs
  .rename_i j ay ext;obtain⟨id,v7,h1,h2,rfl⟩:=hx;split at hs
   .rename_i cs hj;rw[hj]at h2;cases h2;split at hs
    .rename_i hle;simp only[VM,Yr]at hle;have⟨pv,hk,vE⟩:=PA hs;have⟨bY,dR,h3,h4,h5,h6⟩:=hJ.obj j _ hj;rw[h1]at h3;cases h3;have⟨v,hv,hr⟩:=xN cd Eb h6 hle.2 vE;refine .here (x:=v) (aG:=G) ⟨rfl,λd a ha o ho=>?_⟩ hJ hr hn rfl hk
     simp_all[aN,ho,ha,cd,h5,hv,ret]
    .cases hs
   grind
  .rename_i cs;obtain⟨ds,rfl,h1⟩:=hx;split at hs
   .rename_i hle;rw[Yr]at hle;have⟨pv,hk,vE⟩:=PA hs;have hc:All2 (dT (aM P O) R X V.l G) ds (cs.map .v):=h1.map (f:=Cl.v) λ_ _ di=>di;have⟨v,hv,hr⟩:=xN (ay:=0) cd Eb hc aI vE;refine .here (x:=v) (aG:=G) ⟨rfl,λd a ha o ho=>?_⟩ hJ hr hn rfl hk;simp[aN,ho,ha,hv,ret]
   .cases hs
  .rename_i fr cs;split at hs<;>try cases hs
   rename_i hle;rw[Yr]at hle;have⟨pv,hk,vE⟩:=PA hs;obtain⟨bM,⟨hf,ds,rfl,h1⟩|⟨id,ay,ep,m,dR,aV,mn,h1,h2,h3,h4,rfl,h6,h7,h8⟩⟩:=hx
   .have hc:All2 (dT (aM P O) R X V.l G) ds (cs.map (.w fr)):=by
     refine(h1.Dx (r':=λd c=>dT (aM P O) R X V.l G d (.w fr c)) λd c hc ⟨y,Bi,JV⟩=>?_).map (f:=Cl.w fr) λ_ _ di=>di;have⟨y',Nh,hy4⟩:=bM c hc;rw[Bi]at Nh;cases Nh;exact⟨y,Bi,hf▸JV.mono hJ.Fs,hy4⟩
    have⟨v,hv,hr⟩:=xN (ay:=0) cd Eb hc aI vE;refine .here (x:=v) (aG:=G) ⟨rfl,λd a ha o ho=>?_⟩ hJ hr hn rfl hk;simp[aN,ho,ha,hv,ret]
   .have hc:All2 (dT (aM P O) R X V.l G) ((dR.drop ay).take cs.length) (cs.map (.w fr)):=by
     refine .mk aI λi a b ha hb=>?_;rw[Z7]at hb;obtain⟨c,hc,rfl⟩:=Lq.1 hb;have hi:=(Z5.1 hc).1;rw[T_,aW hi,Uv]at ha;have⟨y,Bi,JV⟩:=h8 i a c hc ha;have⟨y',Nh,hy4⟩:=bM c (ZU hc);have aiM:c.den P O=aa y:=Bi;have aqF:c.den P O=aa y':=Nh;rw[aiM]at aqF;cases aqF;exact⟨y,Bi,JV,hy4⟩
    have⟨v,hv,hr⟩:=xN (ay:=0) cd Eb hc aI vE
    have O6:partOf P t dR ay=aa v:=by
     have bf:s<=((dR.drop ay).take cs.length).length:=aI;cases b with
     |true=>
      rw[Ho cd Eb ak]at hv;rw[Ho cd Eb ak,<-hv]
      grind
     |false=>
      simp_all[partOf,Eb,cd,T_,Uv]
    refine .here (x:=v) (aG:=G) ⟨rfl,λd a ha o ho=>?_⟩ hJ hr hn rfl hk;simp[aN,ho,ha,cd,h2,hle,h3,h4,O6,ret]
  .rename_i j i ay ext;split at hs<;>try cases hs
   rename_i sz st cut fr es hj;split at hs<;>try cases hs
   rename_i hle;rw[Yr]at hle;have⟨pv,hk,vE⟩:=PA hs;obtain⟨s',eX,BR,eP,z',bF,y,n,id,cs,aV,mn,h1,h2,h3,h4,h5,h6,h7,h8,rfl⟩:=hx;rw[hj]at h1;cases h1;have⟨dc,oY,g1,g2,g3⟩:=hJ.obj j _ hj;have we:es.den P O=aa (.tree sz bF):=h2;have uB:es.den P O=aa (.tree sz oY):=g1;rw[we]at uB;cases uB;rcases g3 with⟨g3,_⟩|⟨bY,cL,oi,wg,g3,g4,g5,g6,g7,g8,g9⟩
   .grind
   .rw[h7]at g3;cases g3;rw[h8]at g4;cases g4;have he:=UN h5;have zB:=g2 _ (Z4 h5)
    have aA7:cu sz (.tree sz bF) y=aa bF[n]:=by
     have hy:lz y=aa (n:Int):=by
      unfold nat? at h4
      grind [lz]
     simp[cu,hy,he,zB]
    have JO:n*sz+sz<=bF.length*sz:=by
     have:=XX sz h5
     grind
    have hc:All2 (dT (aM P O) R X V.l G) ((cs.drop (n*sz)).take sz) ((YF sz).map λq=>.w fr (.mG sz es i q)):=by
     refine .mk aI λq a b ha hb=>?_;rw[Z7]at hb;obtain⟨q',hq,rfl⟩:=Lq.1 hb;have JI:q<sz:=aI;have:q'=q:=aI;subst this;rw[T_,aW JI,Uv]at ha;have hd:(aD bF[n])[q']?=aa (aD bF[n])[q']:=UN ak;have hr:=g9 (n*sz+q') a _ ha (N_ g2 he hd)
     have Od:Ev.aw a=ab:=by
      grind
     have bM:=hr.anQ Od;refine⟨_,?_,hr,bM⟩;have PC:=h3;simp[aM,SE.den,we,PC,aA7,hd,yA,bM]
    have⟨v,hv,hr⟩:=xN (ay:=ay) cd Eb hc aI vE
    have O6:partOf P t cs (n*sz+ay)=aa v:=by
     cases b with
     |true=>
      rw[Ho cd Eb aI]at hv;rw[Ho cd Eb ak,<-hv]
      congr 2
      rw[List.drop_take,List.drop_drop,List.take_take]
      congr 1;omega
     |false=>
      simp_all[partOf,Eb,cd,T_,Uv]
    refine .here (x:=v) (aG:=G) ⟨rfl,λd a ha o ho=>?_⟩ hJ hr hn rfl hk;simp[aN,ho,ha,cd,h8,hle,g5,O6,ret]
  .cases hs
theorem aiN(ho:o.op=.load t a)(hs:(jB P d o V k).sat P C Q K O):eJ Cx P C Q K O E V.ln k (cV P E d o G):=by
 simp only[jB,ho]at hs;have⟨x,aG,R1,fa,pv,V1,I,h0,h2⟩:=aiL hJ hn (b_ hJ d 0 a) hs;have⟨e0,h1⟩:=h0;subst e0;exact⟨x,aG,R1,fa,pv,V1,I,h1 d a rfl o ho,h2⟩
end
variable{bF:aj (ZQ×IV×Nat)}{cL es:aj IV}{cut eP fr:Bool}{ext id j:Nat}{z:IV}{z' e:SE}{Γ:Gm SE}
section
def aHM{r:IV->Cl SE->Prop}{cs aH:aj (Cl SE)}(ay:Nat)(h:All2 r dR cs)(k:All2 r xs aH):All2 r (gd dR ay xs) (Hh cs ay aH):=by
 unfold gd Hh;rw[k.len];exact((h.take ay).app k).app (h.drop _)
def J.aqG(h:J Cx (aM P O) R X Γ L E G){k aV mn:Nat}{z:SE}{bF:aj IV}(hid:X k=aa id)(hk:L[k]?=aa (.row s af cut fr z))(bx:G.at id=aa (.cells cs aV mn))
 (hl:cL.length=cs.length)(hz:z.den P O=aa (.tree s es))(vF:z'.den P O=aa (.tree s bF))(hle:bF.length=es.length)(cD:∀e∈bF,(aD e).length=s)(bM:cL.all Ev.aw=ab)
 (hc:∀(j:Nat) x d,cL[j]?=aa x->(flat bF)[j]?=aa d->bZ eP R G x d):
 J Cx (aM P O) R X Γ (L.set k (.row s af cut eP z')) E (G.put id (.cells cL aV aV)):=by
 have gR:=gr hk;have cg:∀j,j≠k->(L.set k (.row s af cut eP z'))[j]?=L[j]? :=λj hj=>YQ λhc=>hj hc.symm;have cH:(L.set k (.row s af cut eP z'))[k]?=aa (.row s af cut eP z'):=by simp[gR]
 have No:∀j bY,j≠k->X j=aa bY->bY≠id:=λj bY hj tj hc=>hj (h.inj j k id (by rw[<-hc];exact tj) hid);have⟨dc,oY,g1,g2,g3⟩:=h.obj k _ hk
 have KR:R id=ah/\es.length*s<=cs.length/\mn<=aV:=by
  rcases g3 with⟨g3,_⟩|⟨bY,cs2,z7,Ni,g3,g4,g5,g6,g7,_⟩
  .rw[hid]at g3;cases g3
  .rw[hid]at g3;cases g3;rw[bx]at g4;cases g4;have uB:z.den P O=aa (.tree s oY):=g1;rw[hz]at uB;cases uB;exact⟨by simpa using g7,g6,g5⟩
 have u6:lq R G R (G.put id (.cells cL aV aV)):=by
  refine⟨λ_ m hm=>⟨m,hm,XS _⟩,λbY m Br Iw Xc hm xi=>?_,λbY m Br Iw Xc hm xi=>?_⟩
  .have:id≠bY:=λhc=>by rw[<-hc,KR.1]at hm;cases hm
   exact⟨Br,Iw,by rw[St.eF,aY this];exact xi,XS _,λ_ _=>rfl⟩
  .have:id≠bY:=λhc=>by rw[<-hc,KR.1]at hm;cases hm
   rw[St.eF,aY this]at xi;exact h.fits bY m Br Iw Xc hm xi
 have hs:ni (aM P O) (aM P O) R X L G R X (L.set k (.row s af cut eP z')) (G.put id (.cells cL aV aV)) (λ_=>False):=by
  refine⟨λ_ _ h=>h,u6,λj Br hj=>?_,λj kt me hj=>?_,λj s1 sM Ec Ea z1 hj _=>?_,λj c sM snap hj=>?_⟩
  .by_cases dg:j=k
   .subst dg;rw[hk]at hj;cases hj
   .exact⟨⟨Br,by rw[cg j dg];exact hj⟩,rfl⟩
  .by_cases dg:j=k
   .subst dg;rw[hk]at hj;cases hj
   .exact⟨⟨me,by rw[cg j dg];exact hj⟩,rfl⟩
  .by_cases dg:j=k
   .subst dg;rw[hk]at hj;cases hj;refine⟨⟨af,eP,z',cH,λme pQ=>⟨bF,vF,?_⟩⟩,rfl,λid1 Br Iw Xc Zh xi=>?_⟩
    .have aqH:z.den P O=aa (.tree s me):=pQ;rw[hz]at aqH;cases aqH;exact hle
    .rw[hid]at Zh;cases Zh;rw[bx]at xi;cases xi;exact⟨cL,aV,by rw[St.eF,aW rfl],hl,λ_=>rfl⟩
   .refine⟨⟨sM,Ea,z1,by rw[cg j dg];exact hj,λme pQ=>⟨me,pQ,rfl⟩⟩,rfl,λid1 Br Iw Xc Zh xi=>⟨Br,Xc,?_,rfl,λh=>h⟩⟩;rw[St.eF,aY λhc=>No j id1 dg Zh hc.symm];exact xi
  .have dg:j≠k:=λhc=>by subst hc;rw[hk]at hj;cases hj
   exact⟨⟨c,sM,snap,by rw[cg j dg];exact hj⟩,rfl⟩
 refine⟨λd t pv hg=>(h.slot d t pv hg).step hs pv.bP,λj o hj=>?_,h.inj,λj bY hj=>by simpa using h.lt j bY hj,h.tC,u6.fits,h.wf.set _ _,λbY mv=>?_⟩
 .by_cases dg:j=k
  .subst dg;rw[cH]at hj;cases hj;refine⟨dc,bF,vF,cD,.inr ⟨id,cL,aV,aV,hid,by rw[St.eF,aW rfl],XS _,by rw[hl,hle];exact KR.2.1,by simpa using KR.1,bM,λj x d hx hd=>(hc j x d hx hd).mono u6⟩⟩
  .rw[cg j dg]at hj;exact(h.obj j o hj).step hs rfl (λbY mv=>⟨by rw[St.eF,aY λhc=>No j bY dg mv hc.symm],rfl⟩) o.bP
 .have:=(h.lt _ _ hid).2;have U1:G.n<=bY:=mv;rw[St.eF,aY ak];exact h.top bY U1
def aiO:∀{es:aj IV} (_:∀e∈es,(aD e).length=s) {n:Nat},n<es.length->(aD x).length=s->flat (es.set n x)=gd (flat es) (n*s) (aD x):=by
 intro es;induction es with
 |nil=>simp
 |cons a es ih=>
  intro cD n hn hx;have ha:=cD a az;unfold gd;cases n with
  |zero=>
   simp_all[flat]
  |succ n=>
   have:=ih (λe he=>cD e aI) (n:=n) aI hx;simp only[List.set_cons_succ];unfold flat at this⊢;rw[XG,this];unfold gd
   rw[XG,hx,W6,aLb,List.take_append,List.drop_append,ha,
    List.take_of_length_le (by omega:(aD a).length<=n*s+s),List.drop_of_length_le (by omega:(aD a).length<=n*s+s+s),
    show n*s+s- s=n*s by omega,show n*s+s+s- s=n*s+s by omega]
   simp
theorem u9{B:Type}(h:ay+aH.length<=cs.length):(gd cs ay aH)[j]?=if ay<=j/\j<ay+aH.length then aH[j- ay]? else cs[j]? :=by
 unfold gd;have h1:(cs.take ay).length=ay:=aI
 grind
def CG(h:ay+aH.length<=cs.length):(gd cs ay aH).length=cs.length:=by
 grind [gd]
def Iy{f:IV->Bool}(h1:cs.all f=ab)(h2:aH.all f=ab):(gd cs ay aH).all f=ab:=by
 grind [gd]
variable(hJ:J Cx (aM P O) R X V.g V.l E G)(hn:O.length=V.n)
include hJ hn
theorem adl{x:Xs}{cs:aj (Cl SE)}(ho:o.op=.store t a x)(ha:cJ P d V 0 a=.one (.pt j ay ext))(hj:V.l[j]?=aa (.var cs))
 (h1:zR (gU (cJ P d V t x))=ab)(h2:(gU (cJ P d V t x)).length<=ext)(h3:ay+(gU (cJ P d V t x)).length<=cs.length)(h4:bD P t=aa (gU (cJ P d V t x)).length)
 (hs:(k (.one .un) (V.setObj j (.var (Hh cs ay (gU (cJ P d V t x)))))).sat P C Q K O):eJ Cx P C Q K O E V.ln k (cV P E d o G):=by
 have nq:=b_ hJ d 0 a;rw[ha]at nq;have⟨id,v7,g1,g2,g3⟩:=nq;have⟨bY,dR,g4,g5,g6,g7⟩:=hJ.obj j _ hj;rw[g1]at g4;cases g4;have hc:=Fp (b_ hJ d t x) h1;have kW:=hc.len;have Fc:=g7.len
 obtain⟨iP,cC⟩:=hJ.wh (R':=R) (bad:=λ_=>False) (mW:=.var (Hh cs ay (gU (cJ P d V t x)))) (gO:=.cells (gd dR ay (aD (aT (E d) x))) 0 0) g1 hj (λ_ _=>rfl)
  (λm hm=>by rw[g5]at hm;cases hm) (λm _ _ _ hm=>by rw[g5]at hm;cases hm) (λm _ _ _ hm=>by rw[g5]at hm;cases hm)
  (λ_ _=>⟨_,rfl⟩) (λ_ _ h=>by cases h) (λ_ _ _ _ _ h=>by cases h) (λ_ _ pv _=>pv.bP) (λ_ o _ _=>o.bP)
  (λiP=>⟨id,_,g1,g5,by rw[St.eF,aW rfl],(aHM ay g7 hc).mono λ_ _ di=>di.step iP (Cl.bP _)⟩)
 refine .here (x:=.undef) (V1:=V.setObj j _) (pv:=.one .un) ?_ cC trivial hn rfl hs;have lX:=yB hc h1;simp only[cV,aN,ho,g3,h4,g6,kW,ret];rw[aW ⟨UT _,trivial,h2,trivial,ak,lX⟩]
end
variable{f:au}{i:SE}{n:Nat}{y:IV}{c:Cl SE}{ix m:Xs}{u:ZQ}
section
def anT(h:nat? y=aa n):∃q,y=.raw (.int q n):=by
 unfold nat? at h
 repeat' split at h
 all_goals first|(rename_i q m hq;cases h;exact⟨q,eE⟩)|cases h
variable{f:Nat}{es:SE}{x:Xs}
def aHz{s:VK}{sz:Nat}(h:fieldAt P s f=aa (ay,sz)):∃fields fd,P.underlying s=aa (.struct fields)/\fields[f]?=aa fd/\bD P fd.type=aa sz/\fd.offset=ay:=by
 grind [fieldAt]
theorem adz{B:Type}{f:B->B->Bool}(h:∀a b,f a b=ab->a=b):∀{as bs:aj B},mX f as bs=ab->as=bs
 |[],[],_=>rfl
 |a::as,b::bs,hh=>by
  simp only[mX,VM]at hh;rw[h a b hh.1,adz h hh.2]
 |[],_::_,hh=>by cases hh
 |_::_,[],hh=>by cases hh
def SE.eq_eq:∀{a b:SE},a.eq b=ab->a=b:=by
 intro a;induction a with
 |var x=>intro c h;cases c<;>simp_all[SE.eq]
 |i x=>intro c h;cases c<;>simp_all[SE.eq]
 |k q x=>intro c h;cases c<;>simp_all[SE.eq,aqu]
 |b x=>intro c h;cases c<;>simp_all[SE.eq]
 |s x=>intro c h;cases c<;>first|(simp[SE.eq]at h;done)|(rw[adz (λa b h=>by simpa using h) h])
 |an=>intro c h;cases c<;>simp_all[SE.eq]
 |raw v=>intro c h;cases c<;>simp[SE.eq]at h
 |ok e ih=>intro c h;cases c<;>first|(simp[SE.eq]at h;done)|(rw[ih h])
 |len e ih=>intro c h;cases c<;>first|(simp[SE.eq]at h;done)|(rw[ih h])
 |xl e ih=>intro c h;cases c<;>first|(simp[SE.eq]at h;done)|(rw[ih h])
 |tp e ih=>intro c h;cases c<;>first|(simp[SE.eq]at h;done)|(rw[ih h])
 |rw e ih=>intro c h;cases c<;>first|(simp[SE.eq]at h;done)|(rw[ih h])
 |bt e j ih=>intro c h;cases c<;>first|(simp[SE.eq]at h;done)|(simp only[SE.eq,VM,ZT]at h;rw[h.1,ih h.2])
 |proj e j ih=>intro c h;cases c<;>first|(simp[SE.eq]at h;done)|(simp only[SE.eq,VM,ZT]at h;rw[h.1,ih h.2])
 |tr q e ih=>intro c h;cases c<;>first|(simp[SE.eq]at h;done)|(simp only[SE.eq,VM,ZT]at h;rw[h.1,ih h.2])
 |un op e ih=>intro c h;cases c<;>first|(simp[SE.eq]at h;done)|(simp only[SE.eq,VM,beq_iff_eq]at h;rw[h.1,ih h.2])
 |cv p q e ih=>intro c h;cases c<;>first|(simp[SE.eq]at h;done)|(simp only[SE.eq,VM,ZT]at h;rw[h.1.1,h.1.2,ih h.2])
 |idx q e x kF jy=>intro c h;cases c<;>first|(simp[SE.eq]at h;done)|(simp only[SE.eq,VM,ZT]at h;rw[h.1.1,kF h.1.2,jy h.2])
 |mG q e x j kF jy=>intro c h;cases c<;>first|(simp[SE.eq]at h;done)|(simp only[SE.eq,VM,ZT]at h;rw[h.1.1.1,h.1.1.2,kF h.1.2,jy h.2])
 |ac e x kF jy=>intro c h;cases c<;>first|(simp[SE.eq]at h;done)|(simp only[SE.eq,VM]at h;rw[kF h.1,jy h.2])
 |bin op t e x kF jy=>intro c h;cases c<;>first|(simp[SE.eq]at h;done)|(simp only[SE.eq,VM,ZT,beq_iff_eq]at h;rw[h.1.1.1,h.1.1.2,kF h.1.2,jy h.2])
 |mx q e x kF jy=>intro c h;cases c<;>first|(simp[SE.eq]at h;done)|(simp only[SE.eq,VM,beq_iff_eq]at h;rw[h.1.1,kF h.1.2,jy h.2])
 |Pr e x kF jy=>intro c h;cases c<;>first|(simp[SE.eq]at h;done)|(simp only[SE.eq,VM]at h;rw[kF h.1,jy h.2])
 |dec q e x kF jy=>intro c h;cases c<;>first|(simp[SE.eq]at h;done)|(simp only[SE.eq,VM,ZT]at h;rw[h.1.1,kF h.1.2,jy h.2])
 |qG|rws|cat|has|BP|sub|N2|ins|get=>intro c h;cases c<;>simp[SE.eq]at h
def aiP{o:aF (LO SE)}(h:ac7 o s cut fr es=ab):o=aa (.row s af cut fr es):=by
 unfold ac7 at h;split at h
 .simp only[VM,ZT,beq_iff_eq]at h;rw[h.1.1.1,h.1.1.2,h.1.2,SE.eq_eq h.2]
 grind
def uC(h:(SE.ok e).den P O=aa z):e.den P O=aa z/\Ev.aw z=ab:=by
 simp only[SE.den,ZS]at h;have⟨y,h1,h2⟩:=h;unfold yA at h2;split at h2
 .cases h2;exact⟨h1,by assumption⟩
 .cases h2
variable(hJ:J Cx (aM P O) R X V.g V.l E G)(hn:O.length=V.n)
include hJ hn
theorem adm{f:Bool}{zs:aj SE}{V2:SS}(ho:o.op=.store t a x)(ha:cJ P d V 0 a=.one (.pr j i ay ext))(hj:V.l[j]?=aa (.row s af cut fr es))
 (h0:ay=0)(h2:(gU (cJ P d V t x)).length=s)(h3:s=ext)(cd:bD P t=aa s)(hnu:zR (gU (cJ P d V t x))=ab)(iQ:D6 V (gU (cJ P d V t x))=aa (f,zs,V2))(DP:V2.l[j]?=aa (.row s af cut fr es))
 (Xd:isAgg P t=ab\/s=1)
 (hs:(newVar V2 (.BP s es i (if isAgg P t then fZ zs else zs.headD .an)) λz V=>k (.one .un) (V.setObj j (.row s af cut (fr||f) z))).sat P C Q K O):eJ Cx P C Q K O E V.ln k (cV P E d o G):=by
 subst h0 h3;have⟨R',bI,gD,hzl,Xe⟩:=DD hJ iQ;have nq:=b_ hJ d 0 a;rw[ha]at nq;have aA8:=bI.W9 (x:=aT (E d) a) (c:=.pr j i 0 s) nq;have⟨s',eX,BR,eP,z',bF,y,n,id,cs,aV,mn,a1,a2,a3,a4,a5,a6,a7,a8,a9⟩:=aA8;rw[DP]at a1;cases a1;have⟨dc,oY,g1,g2,g3⟩:=gD.obj j _ DP;have Ed:es.den P O=aa (.tree s bF):=a2;have uB:es.den P O=aa (.tree s oY):=g1;rw[Ed]at uB;cases uB;rcases g3 with⟨g3,_⟩|⟨bY,cL,oi,wg,g3,g4,g5,g6,g7,g8,g9⟩
 .grind
 rw[a7]at g3;cases g3;rw[a8]at g4;cases g4;have hc:=Fp (b_ hJ d t x) hnu;have⟨ys,b1,b2,b3⟩:=Xe _ hc;have hxl:(aD (aT (E d) x)).length=s:=by rw[hc.len,h2]
 have PD:ys.length=s:=by rw[<-b1.len,hzl,h2]
 obtain⟨ze,hze,hzc⟩:∃ze,(if isAgg P t=ab then fZ zs else zs.headD .an).den P O=aa ze/\aD ze=ys:=by
  split<;>try exact⟨_,ig b1,rfl⟩
  rename_i hna;have iP:=Xd.resolve_left hna;have aqI:ys.length=1:=ak;obtain⟨y0,rfl⟩:=Um.1 aqI;obtain⟨z0,rfl⟩:=Um.1 (b1.len.trans aqI);exists y0,b1.1;have:Ev.aw y0=ab:=aI;cases y0<;>first|rfl|contradiction
 have⟨aFB,Uo,hk⟩:=hs
 have GB:(SE.BP s es i (if isAgg P t=ab then fZ zs else zs.headD .an)).den P O=aa (.tree s (bF.set n ze)):=by
  simp only[SE.den,ZS]at Uo⊢;have a3':=a3;exists _,Ed,y,a3',ze,hze;obtain⟨q,rfl⟩:=anT a4;simp[Bq,lz,a5,hzc,PD]
 rw[GB]at Uo;cases Uo
 have aAP:n*s+s<=bF.length*s:=by
  have:=XX s a5
  grind
 have yC:=gD.up (lP:=aM P (O++[.tree s (bF.set n ze)])) λe z h=>SE.eI P e h
 have oZ:(SE.var V2.n).den P (O++[.tree s (bF.set n ze)])=aa (.tree s (bF.set n ze)):=by
  have:V2.n=O.length:=by rw[hn];exact bI.2.1
  simp[SE.den,this]
 have hJ4:=yC.aqG (eP:=fr||f) (z':=.var V2.n) (cL:=gd cs (n*s) (aD (aT (E d) x))) a7 DP a8 (CG ak) (SE.eI P es Ed) oZ az
  (λe he=>by
   grind)
  (Iy g8 (yB hc hnu))
  (λq u v hu hv=>by
   rw[aiO g2 a5 aI]at hv;rw[u9 (B:=IV) ak]at hu;rw[u9 (B:=IV) (by rw[xq g2,hzc,PD];omega)]at hv;rw[hxl]at hu;rw[hzc,PD]at hv;by_cases hq:n*s<=q/\q<n*s+s
   .rw[aW hq]at hu hv;exact(b2.get hu hv).wide λh=>aI
   .rw[aY hq]at hu hv;exact(g9 q u v hu hv).wide λh=>aI)
 refine⟨.undef,G.put id (.cells (gd cs (n*s) (aD (aT (E d) x))) aV aV),R',X,.one .un,({V2 with n:=V2.n+1}:SS).setObj j (.row s af cut (fr||f) (.var V2.n)),[.tree s (bF.set n ze)],?_,hJ4,trivial,?_,bI.2.2.1,hk⟩
 .have lX:=yB hc hnu;simp only[cV,aN,ret]
  grind
 .show(O++[_]).length=V2.n+1;simp[hn,bI.2.1]
theorem afJ(ho:o.op=.store t a x)(hs:(jB P d o V k).sat P C Q K O):eJ Cx P C Q K O E V.ln k (cV P E d o G):=by
 simp only[jB,ho]at hs;split at hs
 .rename_i j ay ext ha;split at hs<;>try cases hs
  rename_i cs hj;split at hs<;>try cases hs
  rename_i hc;simp only[VM,Yr,beq_iff_eq]at hc;exact adl hJ hn ho ha hj hc.1.1.1 hc.1.1.2 hc.1.2 hc.2 hs
 .rename_i j i ay ext ha;split at hs<;>try cases hs
  rename_i s cut fr es hj;split at hs<;>try cases hs
  rename_i hc;simp only[VM,ZT,beq_iff_eq,P6]at hc;split at hs<;>try cases hs
  rename_i f zs V2 iQ;split at hs
  .rename_i DP;have⟨⟨⟨⟨⟨c1,c2⟩,c3⟩,c4⟩,c5⟩,c6⟩:=hc;exact adm hJ hn ho ha hj c1 c2 c3 c4 c5 iQ (aiP DP) c6 hs
  .cases hs
 .cases hs
theorem aGe{s:VK}(ho:o.op=.fieldAddr s x f)(hs:(jB P d o V k).sat P C Q K O):eJ Cx P C Q K O E V.ln k (cV P E d o G):=by
 simp only[jB,ho]at hs;have hx:=b_ hJ d 0 x;split at hs<;>try cases hs
 rename_i fo sz hf;obtain⟨fields,fd,h1,h2,h3,rfl⟩:=aHz hf;split at hs<;>try cases hs
 have vF:sz≠0:=jw;split at hs
 .rename_i j ay ext hh;split at hs<;>try cases hs
  rename_i hle;rw[Yr]at hle;rw[hh]at hx;have⟨id,cs,g1,g2,g3⟩:=hx;exact .at hs hJ hn rfl ⟨id,cs,g1,g2,rfl⟩ (by simp[cV,aN,ho,g3,h1,h2,h3,vF,hle,ret])
 .rename_i cs hh;split at hs<;>try cases hs
  rename_i hle;rw[Yr]at hle;rw[hh]at hx;have⟨ds,g1,g2⟩:=hx;have hl:=g2.len;exact .at hs hJ hn rfl ⟨_,rfl,(g2.drop _).take _⟩ (by simp[cV,aN,ho,g1,h1,h2,h3,vF,hl,hle,ret])
 .rename_i fr cs hh;split at hs<;>try cases hs
  rename_i hle;rw[Yr]at hle;rw[hh]at hx;obtain⟨g0,⟨hf1,ds,g1,g2⟩|⟨id,ay,ep,m,dR,aV,mn,a1,a2,a3,a4,a5,a6,a7,a8⟩⟩:=hx
  .have hl:=g2.len;exact .at hs hJ hn rfl ⟨λc hc=>g0 c (YM (TC hc)),.inl ⟨hf1,_,rfl,(g2.drop _).take _⟩⟩ (by simp[cV,aN,ho,g1,h1,h2,h3,vF,hl,hle,ret])
  .have bf:((cs.drop fd.offset).take sz).length=sz:=aI;refine .at (x:=.ptr id (ay+fd.offset) ep sz) hs hJ hn rfl ⟨λc hc=>g0 c (YM (TC hc)),.inr ⟨id,ay+fd.offset,ep,m,dR,aV,mn,a1,a2,a3,a4,aI,ak,a7,λj c e he hc=>?_⟩⟩ (by simp[cV,aN,ho,a5,h1,h2,h3,vF,hle,ret])
   grind
 .rename_i j i ay ext hh;split at hs<;>try cases hs
  rename_i hle;rw[Yr]at hle;rw[hh]at hx;have⟨s',eX,BR,eP,z',bF,y,n,id,cs,aV,mn,a1,a2,a3,a4,a5,a6,a7,a8,a9⟩:=hx;exact .at hs hJ hn rfl ⟨s',eX,BR,eP,z',bF,y,n,id,cs,aV,mn,a1,a2,a3,a4,a5,ak,a7,a8,rfl⟩ (by simp[cV,aN,ho,a9,h1,h2,h3,vF,hle,ret,Nat.add_assoc])
 .cases hs
end
section
def Ee(P:V5)(t:VK)(s:Nat)(e:SE):aj (SE):=if isAgg P t then(YF s).map (λj=>.bt e j)else[.ok e]
def GC(h:Ev.aw z=ab):aD z=[z]:=by
 cases z<;>first|rfl|contradiction
def aGU(cd:bD P t=aa s)(hz:e.den P O=aa z)(hs:(wz P t e f).sat P C Q K O):
 f.sat P C Q K O/\All2 (λy (c:SE)=>c.den P O=aa y/\Ev.aw y=ab) (aD z) (Ee P t s e)/\(isAgg P t=ab->∃ys,z=.agg ys):=by
 unfold wz at hs;unfold Ee;split at hs
 .rename_i ha;rw[aW ha];have⟨⟨y,hy⟩,hk⟩:=hs;exists hk;simp only[SE.den,hz,cd,Z8,Tb]at hy;split at hy
  .rename_i cs;split at hy
   .rename_i hc;refine⟨.mk (by simp_all[aD]) λi a b h1 h2=>?_,λ_=>⟨cs,rfl⟩⟩;have hi:=(Z5.1 h1).1;have cX:i<cs.length:=hi;rw[Z7,ND ak]at h2;simp only[ZO,ZY]at h2;subst h2;have bM:=(US.1 hc.2) a (ZU h1);have ew:cs[i]?=aa a:=h1;exact⟨by simp[SE.den,hz,ew,yA,bM],bM⟩
   grind
  grind
 .rename_i ha;rw[aY ha];have⟨⟨y,hy⟩,hk⟩:=hs;have⟨h1,h2⟩:=uC hy;rw[hz]at h1;cases h1;rw[GC h2];exact⟨hk,⟨⟨hy,h2⟩,trivial⟩,λh=>bH h ha⟩
def RA{z:SE}{e:IV}(h:(SE.idx s z i).den P O=aa e):∃es y n,z.den P O=aa (.tree s es)/\i.den P O=aa y/\(∃q,y=.raw (.int q (n:Nat)))/\es[n]?=aa e/\(aD e).length=s:=by
 simp only[SE.den,ZS]at h;have⟨a,h1,b,h2,h3⟩:=h;unfold cu at h3;split at h3
 .split at h3
  .rename_i n hn;split at h3
   .rename_i hc;split at h3
    .split at h3
     .cases h3;obtain⟨rfl,h0⟩:=hc;obtain⟨q,rfl⟩:=Oa hn
      grind
     grind
    grind
   grind
  grind
 grind
def afK(h:lr x (.tree s es))(cg:es≠[]):x=.tree s es/\Pure x:=by
 cases h with
 |nil=>grind
 |emp=>grind
 |pure _ _ hp=>grind
 |sl _ _ _ _ _ _ _ _ _ _ _ hR=>grind
def aqJ{B:Type}{l:aj B}{i:Nat}{a:B}(h:l[i]?=aa a):l≠[]:=aI
def aIK{B β:Type}{r:B->β->Prop}{q:B->β->Prop}{as:aj B}{bs:aj β}(h:All2 r as bs)(hq:∀a b,a∈as->r a b->q a b):All2 q as bs:=
 .mk h.len λ_ a b h1 h2=>hq a b (ZU h1) (h.get h1 h2)
variable{c n:Int}
def aiQ{x y:Xs}{k:IntKind}(h:∀k n,u≠.int k n):a_ P (do eqGuard .lss t x y u (.int k c);binOp .lss t u (.int k c))=ah:=by
 cases u with
 |int k n=>grind
 |pointer p=>cases p<;>rfl
 |_=>rfl
def afL{k:IntKind}(h:pd x=aa (.int k n)):x=.raw (.int k n):=by
 unfold pd at h;split at h
 .grind
 .unfold xV at h
  grind
def aqK(h:dN P .lss t x (.int c)=aa z):∃n,x=.int n/\z=.bool (decide (n<c)):=by
 by_cases hx:∃k n,x=.raw (.int k n)
 .obtain⟨k,n,rfl⟩:=hx;cases k<;>first|exact⟨n,rfl,(Nr h).symm⟩|exact(by cases h)
 .unfold dN at h;split at h
  .cases h
  .unfold vM at h;split at h<;>try grind
   all_goals first|(simp at*;done)|skip
   split at h
   .rename_i u' v' h3 h4;cases h4;rw[aiQ λk n hu=>hx ⟨k,n,afL aI⟩]at h;cases h
   grind
  grind
def aaw(h:(SE.bin .lss 3 i (.i c)).den P O=aa z):∃n,i.den P O=aa (.int n)/\z=.bool (decide (n<c)):=by
 have⟨x,h1,h2⟩:=ZS.1 h;obtain⟨n,rfl,h3⟩:=aqK h2
 grind
variable{f:Nat->au}
theorem aIT(hi:i.den P O=aa (.int n)):∀(m c:Nat),(c:Int)<=n->(WT i f c m).sat P C Q K O->∃k:Nat,n=k/\k<c+m/\(f k).sat P C Q K O
 |0,_,_,h=>h.elim
 |m+1,c,hc,h=>by
  rcases h with⟨h1,h2⟩|⟨h1,h2⟩
  all_goals
   have⟨n',g1,g2⟩:=aaw h1;rw[hi]at g1;cases g1;injection g2 with g2;injection g2 with g2
  .grind
  .have:¬n<c+1:=aI;have⟨k,a,b,c⟩:=aIT hi m (c+1) ak h2
   grind
def aF8{m:Nat}(h:(aau i f m).sat P C Q K O):∃k:Nat,i.den P O=aa (.int k)/\k<m/\(f k).sat P C Q K O:=by
 rcases h with⟨_,h2⟩|⟨h1,h2⟩
 .cases h2
 .have⟨n,g1,g2⟩:=aaw h1;injection g2 with g2;injection g2 with g2
  have:¬n<0:=aI;obtain⟨k,rfl,b,c⟩:=aIT g1 m 0 ak h2
  grind
def aax(hJ:JQQ Cx P O R X V E G)(hx:VR (aM P O) R X V.l G x pv)(h:xm pv=aa e):∃y,e.den P O=aa y/\bZ ab R G x y/\True:=by
 unfold xm at h;split at h<;>try grind
 .cases h;have⟨y,h1,h2,_⟩:=hx;exact⟨y,h1,h2.mono hJ.Fs,trivial⟩
 .cases h;have⟨y,h1,h2,_⟩:=hx;exact⟨y,h1,h2.dI,trivial⟩
variable(hJ:J Cx (aM P O) R X V.g V.l E G)(hn:O.length=V.n)
include hJ hn
theorem yD{f:SE->SS->au}(hs:(newVar V e f).sat P C Q K O):∃z,e.den P O=aa z/\(f (.var V.n) {V with n:=V.n+1}).sat P C Q K (O++[z])/\(SE.var V.n).den P (O++[z])=aa z/\JQQ Cx P (O++[z]) R X V E G/\(O++[z]).length=V.n+1:=by
 have⟨z,h1,h2⟩:=hs;exact⟨z,h1,h2,by simp[SE.den,<-hn],hJ.up λe z h=>SE.eI P e h,aI⟩
theorem aGH{x:Xs}(ho:o.op=.indexAddr t x ix)(hs:(jB P d o V k).sat P C Q K O):eJ Cx P C Q K O E V.ln k (cV P E d o G):=by
 simp only[jB,ho]at hs;have hx:=b_ hJ d t x;have hi:=b_ hJ d 3 ix;split at hs
 .rename_i et i hu Nk;replace hi:=aax hJ hi Nk;split at hs<;>try cases hs
  rename_i s cd;split at hs
  .rename_i z hh;rw[hh]at hx;have⟨e,h1,h2,hv,Nl,mD⟩:=yD hJ hn hs;obtain⟨es,y,n,g1,g2,⟨q,rfl⟩,g4,g5⟩:=RA h1;have⟨y',a1,a2,a3⟩:=hx;have Ck:z.den P O=aa y':=a1;rw[g1]at Ck;cases Ck;have⟨JY,hp⟩:=afK a2 (aqJ g4);have⟨yi,b1,b2,b3⟩:=hi;have Cm:=b1;rw[g2]at Cm;cases Cm;have D3:=dH b2;have⟨hk,mb,_⟩:=aGU cd hv h2
   have Fe:∀c∈aD e,Pure c:=by
    rw[JY]at hp;cases hp with|tree _ _ hh=>grind
   refine⟨.pF (aD e),G,R,X,.one (.tp (Ee P et s (.var V.n))),{V with n:=V.n+1},[e],?_,Nl,⟨_,rfl,aIK mb λa b ha di=>⟨a,di.1,.pure a rfl (Fe a ha),di.2⟩⟩,mD,rfl,hk⟩;simp[cV,aN,ho,hu,JY,D3,cd,g4,g5,ret]
  .rename_i fr z hh;rw[hh]at hx;have⟨e,h1,h2,hv,Nl,mD⟩:=yD hJ hn hs;obtain⟨es,y,n,g1,g2,⟨q,rfl⟩,g4,g5⟩:=RA h1;have⟨y',a1,a2,a3⟩:=hx;have Ck:z.den P O=aa y':=a1;rw[g1]at Ck;cases Ck;have⟨yi,b1,b2,b3⟩:=hi;have Cm:=b1;rw[g2]at Cm;cases Cm;have D3:=dH b2;have⟨hk,mb,_⟩:=aGU cd hv h2
   have hg0:∀c∈Ee P et s (.var V.n),∃y,c.den P (O++[e])=aa y/\Ev.aw y=ab:=by
    intro c hc;have⟨j,hj⟩:=YN hc;have⟨a,_,di⟩:=mb.Gz hj
    grind
   generalize hex:aT (E d) x=xv at a2;generalize hzt:IV.tree s es=zt at a2;cases a2 with
   |nil s' cB=>grind
   |emp s' cB=>grind
   |pure _ hf hp=>
    subst hzt
    have Fe:∀c∈aD e,Pure c:=by
     cases hp with|tree _ _ hh=>grind
    refine⟨.pF (aD e),G,R,X,.one (.tw fr (Ee P et s (.var V.n))),{V with n:=V.n+1},[e],?_,Nl,⟨hg0,.inl ⟨hf,_,rfl,aIK mb λa b ha di=>⟨a,di.1,.pure a rfl (Fe a ha)⟩⟩⟩,mD,rfl,hk⟩;simp[cV,aN,ho,hu,hex,D3,cd,g4,g5,ret]
   |sl id ay len cap ep s' m cs aV mn bF hR bx ew we cB hl hb hm cD hh=>
    injection hzt with xO Hp
    subst xO Hp hl;have aq:=(Z5.1 g4).1;have bf:(Ee P et s (.var V.n)).length=s:=by rw[<-mb.len,g5]
    have fD:n*s+s<=es.length*s:=by
     have:=XX s aq
     grind
    refine⟨.ptr id (ay+n*s) ep s,G,R,X,.one (.tw fr (Ee P et s (.var V.n))),{V with n:=V.n+1},[e],?_,Nl,⟨hg0,.inr ⟨id,ay+n*s,ep,m,cs,aV,mn,hR,bx,ew,we,aI,ak,hm,λj c ce A8 hc=>?_⟩⟩,mD,rfl,hk⟩
    .simp[cV,aN,ho,hu,hex,D3,cd,aq,ret]
    .have⟨a,ha,di⟩:=mb.Gz A8
     grind
   |raw v=>grind
   |eT=>grind
   |agg=>grind
   |aU=>grind
  .rename_i j hh;rw[hh]at hx;split at hs<;>try cases hs
   rename_i s' st cut fr bF hj;split at hs
   .rename_i oG;have Iz:=ZR oG;subst Iz;have⟨⟨e,h1⟩,hk⟩:=hs;obtain⟨es,y,n,g1,g2,⟨q,rfl⟩,g4,g5⟩:=RA h1;have⟨yi,b1,b2,b3⟩:=hi;have Cm:=b1;rw[g2]at Cm;cases Cm;have D3:=dH b2;have aq:=(Z5.1 g4).1;have⟨s2,st2,aiR,fr2,z2,oY,a1,a2,a3⟩:=hx;rw[hj]at a1;cases a1;have Ed:bF.den P O=aa (.tree s oY):=a2;rw[g1]at Ed;cases Ed;rcases a3 with⟨_,c2,_⟩|⟨id,cs,aV,mn,cap,c1,c2,c3,c4,c5,c6⟩
    .omega
    .refine .at (x:=.ptr id (n*s+0) aV s) hk hJ hn rfl ⟨s,st,cut,fr,bF,es,_,n,id,cs,aV,mn,hj,g1,g2,cE,aq,ak,c1,c2,rfl⟩ ?_;simp[cV,aN,ho,hu,c3,D3,cd,aq,ret]
   .cases hs
  .cases hs
 .rename_i n et i hu Nk;rw[Nk]at hi
  have D3:aT (E d) ix=.raw (.int .i64 i):=by
   have⟨y,h1,h2,_⟩:=hi;simp only[aM,SE.den,ZY]at h1;subst h1;exact dH h2
  split at hs
  .rename_i s j ay ext cd hh;rw[hh]at hx;have⟨id,cs,g1,g2,g3⟩:=hx;split at hs<;>try cases hs
   rename_i hc;simp only[VM,VH,decide_eq_true_eq,Nat.blt_eq,Yr]at hc;have⟨⟨⟨c1,c2⟩,c3⟩,c4⟩:=hc;have sN:s≠0:=by intro h;simp_all
   refine .at (x:=.ptr id (ay+i.toNat*s) 0 s) hs hJ hn rfl ⟨id,cs,g1,g2,rfl⟩ ?_;have:i<n:=ak;simp[cV,aN,ho,hu,g3,D3,cd,sN,c2,this,c4,ret]
  all_goals contradiction
 .rename_i n et i hu Nk _;replace hi:=aax hJ hi Nk;split at hs<;>try cases hs
  rename_i s j ay ext cd hh;rw[hh]at hx;have⟨id,cs,g1,g2,g3⟩:=hx;split at hs
  .rename_i hc;simp only[VM,Yr]at hc;have⟨⟨c1,c4⟩,_⟩:=hc;have sN:s≠0:=by intro h;simp_all
   have⟨m,d1,d2,d3⟩:=aF8 hs;have⟨y,e1,e2,_⟩:=hi;have dt:=e1;rw[d1]at dt;cases dt;have D3:=dH e2
   have hb:m*s+s<=n*s:=by
    have:=XX s d2
    grind
   refine .at (x:=.ptr id (ay+m*s) 0 s) d3 hJ hn rfl ⟨id,cs,g1,g2,rfl⟩ ?_;have h5:=Nat.le_trans hb c4;simp[cV,aN,ho,hu,g3,D3,cd,sN,d2,h5,ret]
  .cases hs
 .cases hs
end
variable{a x0 x1:IV}{v:ZQ}{yt et el:VK}{base:Cl SE}{ds sH:aj IV}
section
variable{op:BinOp}{x x' y y':Xs}{b:IV}{f g:Bool}
def aGi(h:u≠.nilIface):eqGuard op t x y u v=eqGuard op t x' y' u v:=by
 unfold eqGuard
 grind
def aHc(ha:pd a=aa u)(hb:pd b=aa v)(h:u≠.nilIface):vM P op t x y a b=vM P op t x' y' a b:=by
 unfold vM;split<;>try rfl
 rw[ha,hb];simp only;rw[aGi (x:=x) (y:=y) (x':=x') (y':=y') h]
def afM(h:dN P op t a b=aa z){xa xb:IV}(ha:bZ f R G xa a)(hb:bZ g R G xb b)(ox oy:Xs):vM P op t ox oy xa xb=aa z:=by
 unfold dN at h;split at h
 .cases h
 .rename_i u v cg hu hv;rw[Ix ha hu,Ix hb hv,aHc (x':=.func 0) (y':=.func 0) hu hv λhc=>cg hc];exact h
 grind
variable(hJ:J Cx (aM P O) R X V.g V.l E G)(hn:O.length=V.n)
include hJ hn
theorem aGM(v:ZQ):lr (lift v) (lift v):=by
 unfold lift;split<;>try exact .raw _
 refine .agg _ _ rfl λi c e h1 h2=>?_;rw[h1]at h2;cases h2;rw[Z7]at h1;obtain⟨u,_,rfl⟩:=Lq.1 h1;exact .raw u
omit hJ hn in
theorem aHV(h:vM P op t x y a b=aa z):lr z z:=by
 unfold vM at h;split at h<;>first|(cases h;exact .raw _)|skip
 .split at h
  .cases h;exact .raw _
  .cases h
 .split at h
  .obtain⟨v,_,rfl⟩:=Lq.1 h;unfold lift;split
   .refine .agg _ _ rfl λi c e h1 h2=>?_;rw[h1]at h2;cases h2;rw[Z7]at h1;obtain⟨u,_,rfl⟩:=Lq.1 h1;exact .raw u
   .exact .raw _
  .split at h
   .split at h
    .cases h;exact .raw _
    .cases h;exact .raw _
    .cases h
   .split at h
    .cases h;exact .raw _
    .cases h;exact .raw _
    .cases h
theorem PF{a b:SE}(ho:o.op=.binOp op t x y yt)(ha:∀z,a.den P O=aa z->bZ f R G (aT (E d) x) z)(hb:∀z,b.den P O=aa z->bZ g R G (aT (E d) y) z)
 (hs:(vk (.ok (.bin op t a b)) V k).sat P C Q K O):eJ Cx P C Q K O E V.ln k (cV P E d o G):=by
 have⟨⟨z,hz⟩,hk⟩:=hs;have⟨h1,h2⟩:=uC hz;simp only[SE.den,ZS]at h1;have⟨u,h3,v,h4,h5⟩:=h1;have h6:=afM h5 (ha u h3) (hb v h4) x y;exact .at (x:=z) hk hJ hn rfl ⟨z,hz,aHV h6,h2⟩ (by simp[cV,aN,ho,h6,ret])
theorem aqL{op:UnOp}(ho:o.op=.unOp op t x)(hs:(jB P d o V k).sat P C Q K O):eJ Cx P C Q K O E V.ln k (cV P E d o G):=by
 simp only[jB,ho]at hs;have hx:=b_ hJ d 0 x
 have main:∀a:SE,(∀z,a.den P O=aa z->bZ ab R G (aT (E d) x) z)->(vk (.ok (.un op a)) V k).sat P C Q K O->eJ Cx P C Q K O E V.ln k (cV P E d o G):=by
  intro a ha hs;have⟨⟨z,hz⟩,hk⟩:=hs;have⟨h1,h2⟩:=uC hz;simp only[SE.den,ZS]at h1;have⟨u,h3,h4⟩:=h1;unfold U_ at h4;split at h4
  .have hv:=dH (ha _ h3);obtain⟨r,hr,rfl⟩:=Lq.1 h4;exact .at (x:=lift r) hk hJ hn rfl ⟨_,hz,aGM hJ hn r,h2⟩ (by simp[cV,aN,ho,hv,hr,ret])
  grind
 split at hs
 .rename_i t' hh;rw[hh]at hx;have hb:=Xa hJ hn hx;split at hs
  .refine .at (x:=.raw (.bool (!t'))) hs hJ hn rfl ⟨_,rfl,.raw _,rfl⟩ ?_;simp[cV,aN,ho,hb,ret,Op.unary,a_,lift,pure]
  .cases hs
 .rename_i a _ hh;rw[hh]at hx;have⟨y,h1,h2,_⟩:=hx;exact main a (λz hz=>by have ew:a.den P O=aa y:=h1;rw[hz]at ew;cases ew;exact h2.mono hJ.Fs) hs
 .rename_i f a hh;rw[hh]at hx;have⟨y,h1,h2,_⟩:=hx;exact main a (λz hz=>by have ew:a.den P O=aa y:=h1;rw[hz]at ew;cases ew;exact h2.dI) hs
 .cases hs
theorem aqM{src dst:VK}(ho:o.op=.convert src dst x)(hs:(jB P d o V k).sat P C Q K O):eJ Cx P C Q K O E V.ln k (cV P E d o G):=by
 simp only[jB,ho]at hs;have hx:=b_ hJ d src x
 have main:∀a:SE,(∀z,a.den P O=aa z->bZ ab R G (aT (E d) x) z)->(vk (.ok (.cv src dst a)) V k).sat P C Q K O->eJ Cx P C Q K O E V.ln k (cV P E d o G):=by
  intro a ha hs;have⟨⟨z,hz⟩,hk⟩:=hs;have⟨h1,h2⟩:=uC hz;simp only[SE.den,ZS]at h1;have⟨u,h3,h4⟩:=h1;unfold Py at h4;split at h4
  .rename_i b;have hv:=dH (ha _ h3);split at h4
   .rename_i q JI O9;cases h4;exact .at (x:=.raw (.string b)) hk hJ hn rfl ⟨_,hz,.raw _,h2⟩ (by simp[cV,aN,ho,hv,JI,O9,ret])
   grind
  .have hv:=dH (ha _ h3);obtain⟨r,hr,rfl⟩:=Lq.1 h4;refine .at (x:=lift r) hk hJ hn rfl ⟨_,hz,aGM hJ hn r,h2⟩ ?_
   simp_all[cV,aN,ret]
  grind
 split at hs
 .rename_i a hh;rw[hh]at hx;have⟨y,h1,h2,_⟩:=hx;exact main a (λz hz=>by have ew:a.den P O=aa y:=h1;rw[hz]at ew;cases ew;exact h2.mono hJ.Fs) hs
 .rename_i f a hh;rw[hh]at hx;have⟨y,h1,h2,_⟩:=hx;exact main a (λz hz=>by have ew:a.den P O=aa y:=h1;rw[hz]at ew;cases ew;exact h2.dI) hs
 .cases hs
theorem agn{i:Nat}(ho:o.op=.extract x i)(hs:(jB P d o V k).sat P C Q K O):eJ Cx P C Q K O E V.ln k (cV P E d o G):=by
 simp only[jB,ho]at hs;have hx:=b_ hJ d 0 x;split at hs<;>try cases hs
 rename_i vs hh;rw[hh]at hx;have⟨xs,h1,h2⟩:=hx;split at hs
 .rename_i cs hi;have⟨a,ha,hr⟩:=h2.Gz hi;refine .here (x:=a) (pv:=.ag cs) (aG:=G) (by simp[cV,aN,ho,h1,ha,ret]) hJ ?_ hn rfl hs
  assumption
 .rename_i c hi;have⟨a,ha,hr⟩:=h2.Gz hi;refine .at (x:=a) hs hJ hn rfl ?_ (by simp[cV,aN,ho,h1,ha,ret])
  simp_all[zA]
 .cases hs
theorem afN{f:Nat}(ho:o.op=.field t x f)(hs:(jB P d o V k).sat P C Q K O):eJ Cx P C Q K O E V.ln k (cV P E d o G):=by
 simp only[jB,ho]at hs;have hx:=b_ hJ d t x;split at hs<;>try cases hs
 rename_i cs fo sz hh hf;rw[hh]at hx;have⟨xs,h1,h2⟩:=hx;obtain⟨fields,fd,g1,g2,g3,rfl⟩:=aHz hf;simp only[g1]at hs;split at hs<;>try cases hs
 rename_i hc;simp only[VM,Yr,Option.isSome_iff_exists]at hc;have⟨hle,b,hb⟩:=hc;simp only[g2,ZO,Tb]at hs hb
 obtain⟨pv,hk,vE⟩:∃pv,(k pv V).sat P C Q K O/\(if isAgg P fd.type=ab then pv=.ag ((cs.drop fd.offset).take sz)else∃c,(cs.drop fd.offset).take sz=[c]/\pv=.one c):=by
  split at hs
  .rename_i ha;split at hs
   .exact⟨_,hs,by rw[aW ha]⟩
   .cases hs
  .rename_i ha;split at hs<;>try cases hs
   rename_i c sK;exact⟨_,hs,by rw[aY ha];exact⟨c,sK,rfl⟩⟩
 have⟨v,hv,hr⟩:=xN g3 hb h2 hle vE;exact .here (x:=v) (pv:=pv) (aG:=G) (by simp[cV,aN,ho,h1,g1,g2,hv,ret]) hJ hr hn rfl hk
end
section
def GD(h:jo s es=ab):(∀e∈es,(aD e).length=s)/\∀c∈flat es,Ev.aw c=ab:=by
 simp only[jo]at h;refine⟨λe he=>?_,λc hc=>?_⟩
 .grind
 .have⟨e,he,A8⟩:=XC.1 hc
  grind
def aH6(a b:aj IV):flat (a++b)=flat a++flat b:=by simp[flat]
def uD(fr:Bool)(R:Rs)(G:St)(cs ds:aj IV):Prop:=∀(j:Nat) x d,cs[j]?=aa x->ds[j]?=aa d->bZ fr R G x d
def RB(dc:0<s)(h:bZ fr R G x (.tree s es))(bM:jo s es=ab):
 tZ x=aa es.length/\∃aH,jx s es.length G x=aa aH/\aH.length=es.length*s/\uD fr R G aH (flat es)/\aH.all Ev.aw=ab:=by
 have⟨h1,h2⟩:=GD bM;generalize hz:IV.tree s es=z at h;cases h with
 |nil s' cB=>injection hz with a b;subst a b;exact⟨rfl,[],by simp[jx],az,λj x d h=>by simp at h,rfl⟩
 |emp s' cB=>injection hz with a b;subst a b;exact⟨rfl,[],by simp[jx],az,λj x d h=>by simp at h,rfl⟩
 |pure _ hf hp=>
  subst hz;refine⟨rfl,flat es,by simp[jx,flat],xq h1,λj x d hx hd=>?_,US.2 h2⟩;rw[hx]at hd;cases hd;refine .pure x hf ?_;have⟨e,he,A8⟩:=XC.1 (ZU hx);cases hp with|tree _ _ hh=>exact hh e he x A8
 |sl id ay len cap ep s' m cs aV mn bF hR bx a1 a2 cB hl hb hm cD hh=>
  injection hz with a b
  subst a b hl
  have alo:uD fr R G ((cs.drop ay).take (es.length*s)) (flat es):=by
   intro j x d hx hd;have hj:j<es.length*s:=by have:=(Z5.1 hd).1;rw[xq h1]at this;exact this
   rw[T_,aW hj,Uv]at hx
   have hi:j/s<es.length:=by
    rw[Nat.div_lt_iff_lt_mul dc];exact hj
   have he:=UN hi;have tq:j % s<(aD es[j/s]).length:=by rw[h1 _ (Z4 hi)];exact Nat.mod_lt _ dc
   have A8:=UN tq;have hjj:=Nat.div_add_mod' j s;have hf:=N_ h1 he A8;rw[hjj,hd]at hf;cases hf;exact hh _ _ _ x _ he A8 (by rw[show ay+j/s*s+j % s=ay+j by omega];exact hx)
  refine⟨rfl,(cs.drop ay).take (es.length*s),?_,eE,alo,?_⟩
  .simp only[jx];rw[aW ⟨trivial,XS _⟩,bx];simp only;rw[aW ⟨a1,a2,ak⟩]
  .rw[US];intro c hc;have⟨j,hj⟩:=YN hc;have aq:=(Z5.1 hj).1;have cR:j<(flat es).length:=by rw[xq h1];simp at aq;omega
   exact(alo j c _ hj (UN cR)).aw (h2 _ (Z4 cR))
 |raw v=>cases hz
 |eT=>cases hz
 |agg=>cases hz
 |aU=>cases hz
variable{st:Bool}{z:SE}{aB:St}{bA:Ph}{fs:aj IV}{bytes:Nat}
def Xk(h:J Cx (aM P O) R X Γ L E G){k:Nat}(hk:L[k]?=aa (.row s st cut fr z))(hz:z.den P O=aa (.tree s es))(hx:dT (aM P O) R X L G x (.sr k)):
 tZ x=aa es.length/\∃aH,jx s es.length G x=aa aH/\aH.length=es.length*s/\uD fr R G aH (flat es)/\aH.all Ev.aw=ab:=by
 have⟨dc,oY,g1,g2,g3⟩:=h.obj k _ hk;have uB:z.den P O=aa (.tree s oY):=g1;rw[hz]at uB;cases uB;have⟨s2,st2,aiR,fr2,z2,es3,a1,a2,a3⟩:=hx;rw[hk]at a1;cases a1;have Ed:z.den P O=aa (.tree s es3):=a2;rw[hz]at Ed;cases Ed;rcases a3 with⟨_,b2,b3⟩|⟨id,cs,aV,mn,cap,b1,b2,rfl,b4,b5,b6⟩
 .have:=Kp b2;subst this;rcases b3 with rfl|rfl
  .exact⟨rfl,[],cE,az,λj x d h=>aI,rfl⟩
  .exact⟨rfl,[],cE,az,λj x d h=>aI,rfl⟩
 .rcases g3 with⟨g3,_⟩|⟨bY,cL,oi,wg,g3,g4,g5,g6,g7,g8,g9⟩
  .grind
  .rw[b1]at g3;cases g3;rw[b2]at g4;cases g4;refine⟨cE,cs.take (es.length*s),?_,aI,λj x d hx hd=>?_,?_⟩
   .simp_all[jx]
   all_goals grind
def ado(h:uD fr R G cs ds)(hl:cs.length=ds.length)(h':uD eP R G cL sH):uD (fr||eP) R G (cs++cL) (ds++sH):=by
 intro j x d hx hd;by_cases hj:j<cs.length
 .rw[VJ hj]at hx;rw[VJ ak]at hd;exact(h j x d hx hd).wide λh=>aI
 .rw[Ub ak]at hx;rw[Ub ak,<-hl]at hd;exact(h' _ x d hx hd).wide λh=>aI
def J.reZ(h:J Cx (aM P O) R X Γ L E G){k:Nat}(hk:L[k]?=aa (.row s st cut fr z))(hz:z.den P O=aa (.tree s es))(vF:z'.den P O=aa (.tree s es))(hf:fr=ab->eP=ab):
 ni (aM P O) (aM P O) R X L G R X (L.set k (.row s st cut eP z')) G (λ_=>False)/\J Cx (aM P O) R X Γ (L.set k (.row s st cut eP z')) E G:=by
 have gR:=gr hk;have cg:∀j,j≠k->(L.set k (.row s st cut eP z'))[j]?=L[j]? :=λj hj=>YQ λhc=>hj hc.symm;have cH:(L.set k (.row s st cut eP z'))[k]?=aa (.row s st cut eP z'):=aI
 have hs:ni (aM P O) (aM P O) R X L G R X (L.set k (.row s st cut eP z')) G (λ_=>False):=by
  refine⟨λ_ _ h=>h,lq.refl h.fits,λj Br hj=>?_,λj kt me hj=>?_,λj s1 sM Ec Ea z1 hj _=>?_,λj c sM snap hj=>?_⟩
  all_goals grind
 refine⟨hs,{h with slot:=λd t pv hg=>(h.slot d t pv hg).step hs pv.bP,obj:=λj o hj=>?_,lt:=λj id hj=>by simpa using h.lt j id hj}⟩;by_cases dg:j=k
 .subst dg;rw[cH]at hj;cases hj;have⟨dc,oY,g1,g2,g3⟩:=h.obj j _ hk;have uB:z.den P O=aa (.tree s oY):=g1;rw[hz]at uB;cases uB;exists dc,es,vF,g2;rcases g3 with g3|⟨bY,cL,oi,wg,g3,g4,g5,g6,g7,g8,g9⟩
  .grind
  .exact .inr ⟨bY,cL,oi,wg,g3,g4,g5,g6,g7,g8,λj x d hx hd=>(g9 j x d hx hd).wide hf⟩
 .rw[cg j dg]at hj;exact(h.obj j o hj).step hs rfl (λ_ _=>⟨rfl,rfl⟩) o.bP
def aay(hw:G.t.WF)(id:Nat)(a b:Ob):(G.put id a).put id b=G.put id b:=by
 unfold St.put
 congr 1
 refine T.WF.ext ((hw.set _ _).set _ _) (hw.set _ _) λi=>?_
 simp_all[T.jS]
def Ef{len:Nat}{dI:aj IV}(h:jx s len G x=aa dI)(hl:dI.length=len*s):iY s len n aH x G=ret (.sl G.n 0 (len+n) ah 0 s) (G.add (.cells (dI++aH) 0 0)):=by
 simp[iY,h,hl]
def aIr(h:J Cx (aM P O) R X Γ L E G){k:Nat}(hk:L[k]?=aa (.row s st cut fr z))(hz:z.den P O=aa (.tree s es))(vF:z'.den P O=aa (.tree s (es++fs)))
 (hx:dT (aM P O) R X L G x (.sr k))(JO:aH.length=fs.length*s)(Tf:uD eP R G aH (flat fs))(hnc:aH.all Ev.aw=ab)(hfs:∀e∈fs,(aD e).length=s)(rN:(st&&cut)=af)
 (Tw:∀d t pv,dk d t Γ=aa pv->pv.ok (·=k))(hL:∀j o,L[j]?=aa o->j≠k->o.ok (·=k)):
 ∃x' aB R' bA,gH 0 s es.length fs.length aH x G=aa (.val x' aB)/\J Cx (aM P O) R' bA Γ (L.set k (.row s st cut (eP||fr) z')) E aB/\dT (aM P O) R' bA (L.set k (.row s st cut (eP||fr) z')) aB x' (.sr k):=by
 have⟨dc,oY,g1,g2,g3⟩:=h.obj k _ hk;have uB:z.den P O=aa (.tree s oY):=g1;rw[hz]at uB;cases uB;have gR:=gr hk;have cH:(L.set k (.row s st cut (eP||fr) z'))[k]?=aa (.row s st cut (eP||fr) z'):=by simp[gR]
 have aqN:=λe he=>(List.mem_append.1 he).elim (g2 e) (hfs e);have yE:=hx;have⟨s2,st2,aiR,fr2,z2,es3,a1,a2,a3⟩:=hx;rw[hk]at a1;cases a1;have Ed:z.den P O=aa (.tree s es3):=a2;rw[hz]at Ed;cases Ed;by_cases pO:fs.length=0
 .have aA9:=Kp pO;subst aA9;rw[Z_]at vF;obtain⟨hs,hJ⟩:=h.reZ (eP:=eP||fr) hk hz vF (λh=>by simp[h]);refine⟨x,G,R,X,?_,hJ,yE.step hs (Cl.bP _)⟩;rcases a3 with⟨_,_,rfl|rfl⟩|⟨id,cs,aV,mn,cap,_,_,rfl,_⟩<;>simp[gH,ret]
 have fresh:∀dI:aj IV,dI.length=es.length*s->(∀(j:Nat) x d,dI[j]?=aa x->(flat es)[j]?=aa d->bZ fr R G x d)->dI.all Ev.aw=ab->
  ∃R' bA,J Cx (aM P O) R' bA Γ (L.set k (.row s st cut (eP||fr) z')) E (G.add (.cells (dI++aH) 0 0))/\dT (aM P O) R' bA (L.set k (.row s st cut (eP||fr) z')) (G.add (.cells (dI++aH) 0 0)) (.sl G.n 0 (es.length+fs.length) ah 0 s) (.sr k):=by
  intro dI TI ho2 ho3
  let R':Rs:=λi=>if i=G.n then(if st then aa ((es++fs).length*s)else ah)else R i
  have bf:(dI++aH).length=(es++fs).length*s:=by simp[TI,JO,W6]
  obtain⟨hs,hJ⟩:=h.aqk (R':=R') (bad:=(·=k)) (mW:=.row s st cut (eP||fr) z') (gO:=.cells (dI++aH) 0 0) hk λj hj=>by simp[R',hj]
   (λm cs aV mn hm ho=>by
    injection ho with TI ho2 ho3
    subst TI;simp only[R',if_true]at hm;split at hm
    .cases hm;rw[bf];exact XS _
    .cases hm)
   ⟨_,_,_,_,_,rfl⟩ rfl Tw hL
   (λhs=>⟨dc,es++fs,vF,aqN,.inr ⟨G.n,dI++aH,0,0,by simp[cY],az,XS _,by rw[bf];exact XS _,by simp[R'],by rw[aJo,ho3,hnc];rfl,λj x d hx hd=>by
    rw[aH6]at hd;have hc:=ado ho2 (by rw[TI,xq g2]) Tf j x d hx hd;rw[Bool.or_comm]at hc;exact hc.mono hs.grow⟩⟩)
  refine⟨R',cY X k G.n,hJ,s,st,cut,eP||fr,z',es++fs,cH,vF,.inr ⟨G.n,dI++aH,0,0,ah,by simp[cY],az,az,UT _,λ_ _=>bf.symm,λc hc=>by cases hc⟩⟩
 rcases a3 with⟨b1,b2,b3⟩|⟨id,cs,aV,mn,cap,b1,b2,rfl,b4,b5,b6⟩
 .have TJ:=Kp b2;subst TJ;obtain⟨R',bA,hJ,hV⟩:=fresh [] az (λj x d h=>by simp at h) rfl;refine⟨_,_,R',bA,?_,hJ,hV⟩;rcases b3 with rfl|rfl
  .simp only[gH];rw[aW ⟨trivial,trivial⟩,aY pO,Ef (dI:=[]) (by simp[jx]) az];rfl
  .simp only[gH];rw[aY pO,Ef (dI:=[]) (by simp[jx]) az];rfl
 .rcases g3 with⟨g3,_⟩|⟨bY,cL,oi,wg,g3,g4,g5,g6,g7,g8,g9⟩
  .rw[b1]at g3;cases g3
  rw[b1]at g3;cases g3;rw[b2]at g4;cases g4
  have hold:jx s es.length G (.sl id (0*s) (es.length- 0) cap aV s)=aa (cs.take (es.length*s)):=by
   simp only[jx];rw[aW ⟨trivial,az⟩,b2];simp only;rw[aW ⟨g5,XS _,ak⟩];simp
  have Va:(cs.take (es.length*s)).length=es.length*s:=by simp;omega
  have avY:∀(j:Nat) x d,(cs.take (es.length*s))[j]?=aa x->(flat es)[j]?=aa d->bZ fr R G x d:=λj x d hx hd=>by
   rw[T_]at hx;split at hx
   .exact g9 j x d hx hd
   .cases hx
  have alp:(cs.take (es.length*s)).all Ev.aw=ab:=by
   rw[US]at g8⊢;exactλc hc=>g8 c (TC hc)
  have RC:∀(ob:aj IV) (z7 Ni:Nat),(R id=ah\/(Ni=mn/\aV<=z7))->Ni<=z7->(∀j,j<es.length*s->ob[j]?=cs[j]?)->(∀j,j<aH.length->ob[es.length*s+j]?=aH[j]?)->(es++fs).length*s<=ob.length->ob.all Ev.aw=ab->
   ∀Xl,(Xl=ah->cut=af->(es++fs).length*s=ob.length)->(∀c,Xl=aa c->Ni=z7/\c*s<=ob.length/\(es++fs).length<=c)->
   ∃R',J Cx (aM P O) R' X Γ (L.set k (.row s st cut (eP||fr) z')) E (G.put id (.cells ob z7 Ni))/\dT (aM P O) R' X (L.set k (.row s st cut (eP||fr) z')) (G.put id (.cells ob z7 Ni)) (.sl id 0 (es.length+fs.length) Xl z7 s) (.sr k):=by
   intro ob z7 Ni hRm hmc aqO aA_ aqP aBa Xl avZ adp
   let R':Rs:=λi=>if i=id then(if st then aa ((es++fs).length*s)else ah)else R i
   have KR:=g7
   obtain⟨hs,hJ⟩:=h.wh (R':=R') (bad:=(·=k)) (mW:=.row s st cut (eP||fr) z') (gO:=.cells ob z7 Ni) b1 hk λj hj=>by simp[R',hj]
    (λm hm=>by
     rw[KR]at hm;split at hm
     .rename_i bI;cases hm;exact⟨(es++fs).length*s,by simp[R',bI],XX s az⟩
     .cases hm)
    (λm Br Iw Xc hm bx=>by
     rw[b2]at bx;cases bx;rcases hRm with hRm|⟨rfl,hle⟩
     .rw[hRm]at hm;cases hm
     .rw[KR]at hm;split at hm
      .cases hm;exact⟨ob,z7,rfl,hle,aqO⟩
      .cases hm)
    (λm Br Iw Xc hm ho=>by
     injection ho with TI _ _
     subst TI;simp only[R',if_true]at hm;split at hm
     .cases hm;exact aqP
     .cases hm)
    (λcs h=>by cases h) (λkt es h=>by cases h) (λ_ _ _ _ _ _=>rfl) Tw hL
    (λhs=>⟨dc,es++fs,vF,aqN,.inr ⟨id,ob,z7,Ni,b1,by rw[St.eF,aW rfl],hmc,aqP,by simp[R'],aBa,λj x d hx hd=>by
     rw[aH6]at hd;have hfl:=xq g2;by_cases hj:j<es.length*s
     .rw[VJ ak]at hd;rw[aqO j hj]at hx;exact((g9 j x d hx hd).wide λh=>by simp[h]).mono hs.grow
     .rw[Ub ak,hfl]at hd
      have DP:j- es.length*s<aH.length:=by
       have:=(Z5.1 hd).1;rw[xq hfs]at this;omega
      rw[show j=es.length*s+(j- es.length*s) by omega,aA_ _ DP]at hx;exact((Tf _ x d hx hd).wide λh=>by simp[h]).mono hs.grow⟩⟩)
   exact⟨R',hJ,s,st,cut,eP||fr,z',es++fs,cH,vF,.inr ⟨id,ob,z7,Ni,Xl,b1,by rw[St.eF,aW rfl],az,UT _,avZ,λc hc=>⟨(adp c hc).1,by simpa using(adp c hc).2.1,by simpa using(adp c hc).2.2⟩⟩⟩
  have adq:(es++fs).length*s=es.length*s+fs.length*s:=by simp[W6]
  cases cap with
  |some c=>
   obtain⟨e1,e2,e3⟩:=b6 c rfl;by_cases ya:es.length+fs.length<=c
   .have aFC:es.length*s+fs.length*s<=cs.length:=by
     have:=XX s ya;rw[W6]at this;omega
    obtain⟨R',hJ,hV⟩:=RC (gd cs (es.length*s) aH) aV aV (.inr ⟨e1.symm,XS _⟩) (XS _)
     λj hj=>by rw[u9 (B:=IV) ak,aY ak]
     λj hj=>by rw[u9 (B:=IV) ak,aW ak];congr 1;omega
     (by rw[CG ak];omega) (Iy g8 hnc) (aa c) (λh=>by cases h) λc' sF=>by cases sF;exact⟨rfl,by rw[CG ak];omega,by simpa using ya⟩
    refine⟨_,_,R',X,?_,hJ,hV⟩;simp only[gH];rw[aY az,aY pO];simp only[b2,aK7,aJO,Nat.zero_add];rw[aW ya,aW ⟨UT _,trivial,by rw[W6];omega⟩];rfl
   .have⟨R',bA,hJ,hV⟩:=fresh _ Va avY alp;refine⟨_,_,R',bA,?_,hJ,hV⟩;simp only[gH];rw[aY az,aY pO];simp only[aK7];rw[aY ya,Ef (by simpa using hold) Va];rfl
  |none=>
   by_cases Xm:es.length*s=cs.length
   .obtain⟨R',hJ,hV⟩:=RC (cs++aH) (aV+1) mn (.inr ⟨rfl,ak⟩) ak
     λj hj=>by rw[VJ ak]
     λj hj=>by rw[Ub ak];congr 1;omega
     (by rw[adq,UR];omega) (by rw[aJo,g8,hnc];rfl) ah (λ_ _=>by rw[adq,UR];omega) λc h=>by cases h
    refine⟨_,_,R',X,?_,hJ,hV⟩;simp only[gH];rw[aY az,aY pO];simp only[b2,aJO];rw[aW ⟨UT _,trivial,trivial,Xm⟩];rfl
   .have Xn:cut=ab:=by
     cases hc:cut with
     |true=>rfl
     |false=>exact bH (b5 rfl hc) Xm
    have bI:st=af:=by rw[Xn]at rN;simpa using rN
    obtain⟨R',hJ,hV⟩:=RC (cs.take (es.length*s)++aH) (aV+1+1) (aV+1) (.inl (by rw[g7,bI];rfl)) ak
     λj hj=>by rw[VJ ak,T_,aW hj]
     λj hj=>by rw[Ub ak,Va];congr 1;omega
     (by rw[adq,UR,Va];omega) (by rw[aJo,alp,hnc];rfl) ah (λ_ h=>by rw[Xn]at h;cases h) λc h=>by cases h
    refine⟨.sl id 0 (es.length+fs.length) ah (aV+1+1) s,(G.put id (.cells (cs.take (es.length*s)) (aV+1) (aV+1))).put id (.cells (cs.take (es.length*s)++aH) (aV+1+1) (aV+1)),R',X,?_,?_,?_⟩
    .simp only[gH];rw[aY az,aY pO];simp only[b2,aJO];rw[aY λhc=>Xm hc.2.2.2,aW ⟨UT _,trivial,trivial,g6⟩];rfl
    .rw[aay h.wf];exact hJ
    .rw[aay h.wf];exact hV
theorem lB(h:JQQ Cx P O R X V E G)(d:Nat):∀(ao:aj Xs) (ts:aj VK),All2 (VR (aM P O) R X V.l G) (ao.map (aT (E d))) (mK P d V ao ts)
 |[],_=>trivial
 |x::xs,t::ts=>⟨b_ h d t x,lB h d xs ts⟩
 |x::xs,[]=>⟨b_ h d 0 x,lB h d xs []⟩
def xr{B β:Type}{r:B->β->Prop}{as:aj B}{b:β}(h:All2 r as [b]):∃a,as=[a]/\r a b:=by
 cases as with
 |nil=>cases h
 |cons a as=>
  cases as with
  |nil=>exact⟨a,rfl,h.1⟩
  |cons a' as=>cases h.2
def Oe{B β:Type}{r:B->β->Prop}{as:aj B}{b c:β}(h:All2 r as [b,c]):∃a a',as=[a,a']/\r a b/\r a' c:=by
 cases as with
 |nil=>cases h
 |cons a as=>
  obtain⟨a',rfl,h'⟩:=xr h.2;exact⟨a,a',rfl,h.1,h'⟩
def Cl.Eg(h:dT (aM P O) R X L G x c):c.ok (·=L.length):=by
 cases c with
 |sr k=>have⟨_,_,_,_,_,_,h1,_⟩:=h;exactλhc=>by grind
 |sv k lo=>have⟨_,_,_,_,_,_,_,_,h1,_⟩:=h;exactλhc=>by have:=gr h1;omega
 |pr k i ay ext=>have⟨_,_,_,_,_,_,_,_,_,_,_,_,h1,_⟩:=h;exactλhc=>by have:=gr h1;omega
 |_=>trivial
def IA{cs:aj (Cl SE)}(h:All2 (dT (aM P O) R X L G) xs cs):∀c∈cs,c.ok (·=L.length):=by
 intro c hc;have⟨i,hi⟩:=YN hc;have⟨a,_,ha⟩:=h.Gz hi;exact Cl.Eg ha
theorem PV.Eg(h:VR (aM P O) R X L G x pv):pv.ok (·=L.length):=by
 cases pv with
 |one c=>exact Cl.Eg (c:=c) h
 |ag cs=>have⟨xs,_,h2⟩:=h;exact IA h2
 |tu vs=>
  have⟨xs,_,h2⟩:=h;intro p hp c hc;have⟨i,hi⟩:=YN hp;have⟨a,_,ha⟩:=h2.Gz hi;unfold zA at ha;split at ha
  .have⟨ys,_,h3⟩:=ha;exact IA h3 c hc
  .have⟨c',h3,h4⟩:=ha;rw[h3]at hc;simp at hc;subst hc;exact Cl.Eg h4
def OR.Eg{ob:LO SE}(h:OR Cx (aM P O) R X L G j ob):ob.ok (·=L.length):=by
 cases ob with
 |var cs=>have⟨_,_,_,_,_,h4⟩:=h;exact IA h4
 |_=>trivial
def z8(h:J Cx (aM P O) R X Γ L E G)(hj:L.length<=j):X j=ah:=by
 cases hf:X j with
 |none=>rfl
 |some id=>have:=(h.lt _ _ hf).1;omega
def J.DE(h:J Cx (aM P O) R X Γ L E G)(hs:0<s)(hz:z.den P O=aa (.tree s [])):ni (aM P O) (aM P O) R X L G R X (L++[.row s af af fr z]) G (λ_=>False)/\J Cx (aM P O) R X Γ (L++[.row s af af fr z]) E G:=by
 have hL:∀j o,L[j]?=aa o->(L++[.row s af af fr z])[j]?=aa o:=λj o hj=>by rw[VJ (gr hj)];omega
 have hc:ni (aM P O) (aM P O) R X L G R X (L++[.row s af af fr z]) G (λ_=>False):=
  .mk' (λ_ _ h=>h) (lq.refl h.fits) (λj cs hj=>⟨⟨cs,hL j _ hj⟩,rfl⟩) (λj kt es hj=>⟨⟨es,hL j _ hj⟩,rfl⟩) (λj s st cut fr z hj _=>⟨⟨st,hL j _ hj⟩,rfl,λ_ _=>rfl⟩) λj c st snap hj=>⟨⟨c,st,snap,hL j _ hj⟩,rfl⟩
 refine⟨hc,{h with slot:=λd t pv hg=>(h.slot d t pv hg).step hc pv.bP,obj:=λj o hj=>?_,lt:=λj id hj=>by have:=h.lt j id hj;grind}⟩;by_cases fQ:j<L.length
 .rw[VJ fQ]at hj;exact(h.obj j o hj).step hc rfl (λ_ _=>⟨rfl,rfl⟩) o.bP
 .have:j=L.length:=aI;subst this;simp at hj;subst hj;exact⟨hs,[],hz,λe he=>aI,.inl ⟨z8 h (XS _),rfl⟩⟩
def aaz{f:SE}{z:IV}(h:(SE.cat s bytes e f).den P O=aa z):∃es fs,e.den P O=aa (.tree s es)/\f.den P O=aa (.tree s fs)/\0<s/\jo s fs=ab/\(4*(es.length+fs.length)+4096)*bytes<=2 ^47/\es.length+fs.length<=2 ^40/\z=.tree s (es++fs):=by
 simp only[SE.den,ZS]at h;have⟨a,h1,b,h2,h3⟩:=h;unfold dG at h3
 grind
def adr{fr:Bool}(h:uD ab R G aH ds)(hd:∀d∈ds,aZ d=ab):uD af R G aH ds:=by
 intro j x e hx he;have hr:=hd e (ZU he);have:=h j x e hx he;unfold aZ at hr;split at hr
 .rw[dH this];exact .raw _
 grind
variable{es:SE}{raw:Bool}
def KU(hJ:JQQ Cx P O R X V E G)(ha:zT P V et s base c=aa (fr,es,raw))(hx:dT (aM P O) R X V.l G x c)(q9:es.den P O=aa (.tree s fs))(dc:0<s)(bM:jo s fs=ab)
 (oq:raw=ab->(∃z,(SE.rws es).den P O=aa z)):
 tZ x=aa fs.length/\∃aH,jx s fs.length G x=aa aH/\aH.length=fs.length*s/\uD fr R G aH (flat fs)/\aH.all Ev.aw=ab:=by
 cases c with
 |sr j=>
  simp only[zT]at ha;split at ha
  .rename_i s' st cut eP bF hj;split at ha
   .rename_i hc;simp only[VM,ZT]at hc;obtain⟨rfl,rfl,rfl⟩:=ha;obtain⟨rfl,_⟩:=hc;exact Xk hJ hj q9 hx
   grind
  grind
 |nl b s'=>
  obtain⟨rfl,rfl,rfl⟩:=ha
  have:fs=[]:=by
   simp_all[SE.den]
  subst this;obtain⟨_,rfl⟩:=hx;refine⟨by cases b<;>rfl,[],?_,az,λj x d h=>aI,rfl⟩
  grind [jx]
 |w f z=>
  simp only[zT,ZY,TY]at ha;obtain⟨rfl,rfl,rfl⟩:=ha;have⟨y,h1,h2,_⟩:=hx;have ew:z.den P O=aa y:=h1;rw[q9]at ew;cases ew;exact RB dc h2 bM
 |v z=>
  have⟨y,h1,h2,_⟩:=hx;have ew:z.den P O=aa y:=h1;simp only[zT]at ha;split at ha
  .obtain⟨rfl,rfl,rfl⟩:=ha;rw[q9]at ew;cases ew;have⟨a1,aH,a2,a3,a4,a5⟩:=RB dc (h2.mono hJ.Fs) bM;refine⟨a1,aH,a2,a3,adr (fr:=ab) a4 λe he=>?_,a5⟩;obtain⟨q,hq⟩:=oq rfl;simp only[SE.den,q9,Z8]at hq;split at hq
   .rename_i cQ;rw[US]at cQ;have⟨el,zB,aFD⟩:=XC.1 he
    grind
   grind
  .obtain⟨rfl,rfl,rfl⟩:=ha;rw[q9]at ew;cases ew;exact RB dc (h2.mono hJ.Fs) bM
 |un|pt|tp|tw|sv|pr|mp|fn|yl=>contradiction
def aH0{t k:Nat}{g:Gm SE}(h:dk d t (Po k g)=aa pv):pv.ok (·=k):=by
 obtain⟨q,_,rfl⟩:=KB g h;exact q.ra k
variable(hJ:J Cx (aM P O) R X V.g V.l E G)(hn:O.length=V.n)
include hJ hn
theorem ads(hb:dT (aM P O) R X V.l G x0 base)(hc:dT (aM P O) R X V.l G x1 c)(ha:zT P V et s base c=aa (fr,es,raw))(oq:raw=ab->(∃z,(SE.rws es).den P O=aa z))
 (hs:(Hi bytes s base fr es V k).sat P C Q K O):
 eJ Cx P C Q K O E V.ln k (λv aG=>∃m n aH,tZ x0=aa m/\tZ x1=aa n/\jx s n G x1=aa aH/\aH.length=n*s/\aH.all Ev.aw=ab/\(4*(m+n)+4096)*bytes<=2 ^47/\m+n<=2 ^40/\gH 0 s m n aH x0 G=aa (.val v aG)):=by
 unfold Hi at hs;split at hs
 .rename_i b s';split at hs
  .rename_i oG;have Iz:=ZR oG;have⟨z,h1,h2,hv,cC,fY⟩:=yD hJ hn hs;obtain⟨e0,fs,c1,c2,c3,c4,c5,c6,rfl⟩:=aaz h1
   have TJ:e0=[]:=by
    simp_all[SE.den]
   subst TJ;have⟨a1,aH,a2,a3,a4,a5⟩:=KU hJ ha hc c2 c3 c4 oq;have⟨_,yE⟩:=hb;have v8:(SE.tr s SE.an).den P (O++[IV.tree s ([]++fs)])=aa (.tree s []):=by assumption
   have⟨M1,gD⟩:=cC.DE (fr:=af) c3 v8;have rU:(V.l++[LO.row s af af af (SE.tr s SE.an)])[V.l.length]?=aa (.row s af af af (SE.tr s SE.an)):=az
   obtain⟨x',aB,R',bA,b1,b2,b3⟩:=aIr gD (eP:=fr) (z':=.var V.n) (x:=x0) rU v8 hv ⟨s,af,af,af,_,[],rU,v8,.inl ⟨z8 hJ (XS _),rfl,aI⟩⟩
    a3 a4 a5 (GD c4).1 rfl (λd t pv hg=>PV.Eg (cC.slot d t pv hg)) (λj o hj cg=>by
     have fQ:j<V.l.length:=aI;rw[VJ fQ]at hj;exact OR.Eg (cC.obj j o hj))
   have GB:(V.l++[LO.row s af af af (SE.tr s SE.an)]).set V.l.length (.row s af af (fr||af) (.var V.n))=V.l++[LO.row s af af fr (.var V.n)]:=az;rw[GB]at b2 b3;refine⟨x',aB,R',bA,.one (.sr V.l.length),{V with n:=V.n+1,l:=V.l++[.row s af af fr (.var V.n)]},[.tree s ([]++fs)],⟨0,fs.length,aH,by subst yE;cases b<;>rfl,a1,a2,a3,a5,c5,c6,b1⟩,b2,b3,fY,rfl,h2⟩
  .cases hs
 .rename_i j;split at hs<;>try cases hs
  rename_i s' st cut eP bF hj;split at hs
  .rename_i dj;simp only[VM,ZT,VH]at dj;obtain⟨rfl,rN⟩:=dj;have⟨z,h1,h2,hv,cC,fY⟩:=yD hJ hn hs;obtain⟨e0,fs,c1,c2,c3,c4,c5,c6,rfl⟩:=aaz h1;have⟨a1,aH,a2,a3,a4,a5⟩:=KU hJ ha hc c2 c3 c4 oq
   have hm:tZ x0=aa e0.length:=by
    have:=Xk hJ hj c1 hb
    grind
   have dL:dT (aM P (O++[.tree s (e0++fs)])) R X V.l G x0 (.sr j):=by
    have hbv:VR (aM P O) R X V.l G x0 (.one (.sr j)):=hb;exact VR.up hJ hbv λe z h=>SE.eI P e h
   have gD:=cC.acP j;have hjd:(V.l.map (LO.drop j))[j]?=aa (.row s st cut eP bF):=by simp[hj,LO.drop]
   have fD:=dL.step (NX cC j) (Cl.bP _)
   obtain⟨x',aB,R',bA,b1,b2,b3⟩:=aIr gD (eP:=fr) (z':=.var V.n) (x:=x0) hjd (SE.eI P bF c1) hv fD a3 a4 a5 (GD c4).1 rN (λd t pv hg=>aH0 hg) (λi o hi cg=>by
    rw[Z7]at hi;obtain⟨o',_,rfl⟩:=Lq.1 hi;exact o'.ra j)
   refine⟨x',aB,R',bA,.one (.sr j),((({V with n:=V.n+1}:SS).xL j).setObj j (.row s st cut (fr||eP) (.var V.n))),[.tree s (e0++fs)],⟨e0.length,fs.length,aH,hm,a1,a2,a3,a5,c5,c6,b1⟩,b2,b3,fY,rfl,h2⟩
  .cases hs
 .cases hs
end
section
def sZ(h:elemOf P t=aa et):P.underlying t=aa (.slice et):=by
 grind [elemOf]
def Mp(h:(SE.len e).den P O=aa z):∃s es,e.den P O=aa (.tree s es)/\z=.int es.length:=by
 simp only[SE.den,ZS]at h;have⟨a,h1,h2⟩:=h;unfold KO at h2
 grind
def aiS(h:(SE.xl e).den P O=aa z):∃b,e.den P O=aa (.raw (.string b))/\z=.int b.size:=by
 simp only[SE.den,ZS]at h;have⟨a,h1,h2⟩:=h;unfold DC at h2
 grind
def anU{ts:Array VK}(hu:(ts[0]?).bind P.underlying=aa (.slice el))(h:bZ fr R G x (.tree s es)):s9 P ts x G=aa (.int es.length):=by
 generalize hz:IV.tree s es=z at h;cases h with
 |nil s' cB=>simp_all[s9]
 |emp s' cB=>simp_all[s9]
 |pure _ hf hp=>subst hz;simp[s9,hu]
 |sl id ay len cap ep s' m cs aV mn bF hR bx a1 a2 cB hl hb hm cD hh=>simp_all[s9]
 |raw v=>grind
 |eT=>grind
 |agg=>grind
 |aU=>grind
variable(hJ:J Cx (aM P O) R X V.g V.l E G)(hn:O.length=V.n)
include hJ hn
variable{c:Call}
theorem anV(ho:o.op=.call c)(hc:c.callee=.builtin .len)(hs:(jB P d o V k).sat P C Q K O):eJ Cx P C Q K O E V.ln k (cV P E d o G):=by
 simp only[jB,ho,hc]at hs;have cj:=lB hJ d c.args.toList c.argTypes.toList;split at hs<;>first|(cases hs)|(exact(‹aKH=aKH->False› rfl).elim)|skip
 all_goals first|(rename_i hb _;cases hb;done)|skip
 rename_i pv _ hh;rw[hh]at cj;have⟨x,hx,hr⟩:=xr cj
 have gC:∀v,s9 P c.argTypes x G=aa v->aN P 0 (aT (E d)) o G=aa (.val v G):=by
  intro v hv;simp[aN,ho,hc,gI,hx,hv]
 split at hs
 .rename_i hu
  have main:∀a:SE,(∀y,a.den P O=aa y->bZ ab R G x y)->(vk (.xl a) V k).sat P C Q K O->eJ Cx P C Q K O E V.ln k (cV P E d o G):=by
   intro a ha hs;have⟨⟨z,hz⟩,hk⟩:=hs;obtain⟨b,h1,rfl⟩:=aiS hz;have:=dH (ha _ h1);exact .at (x:=.int b.size) hk hJ hn rfl ⟨_,hz,.raw _,rfl⟩ (gC _ (by simp[s9,hu,this]))
  split at hs
  .rename_i z;have⟨y,h1,h2,_⟩:=hr;exact main z (λy' hy=>by have ew:z.den P O=aa y:=h1;rw[hy]at ew;cases ew;exact h2.mono hJ.Fs) hs
  .rename_i f z;have⟨y,h1,h2,_⟩:=hr;exact main z (λy' hy=>by have ew:z.den P O=aa y:=h1;rw[hy]at ew;cases ew;exact h2.dI) hs
  .cases hs
 .rename_i el hu
  have main:∀a:SE,(∀y,a.den P O=aa y->bZ ab R G x y)->(vk (.len a) V k).sat P C Q K O->eJ Cx P C Q K O E V.ln k (cV P E d o G):=by
   intro a ha hs;have⟨⟨z,hz⟩,hk⟩:=hs;obtain⟨s,es,h1,rfl⟩:=Mp hz;exact .at (x:=.int es.length) hk hJ hn rfl ⟨_,hz,.raw _,rfl⟩ (gC _ (anU hu (ha _ h1)))
  split at hs
  .rename_i z;have⟨y,h1,h2,_⟩:=hr;exact main z (λy' hy=>by have ew:z.den P O=aa y:=h1;rw[hy]at ew;cases ew;exact h2.mono hJ.Fs) hs
  .rename_i f z;have⟨y,h1,h2,_⟩:=hr;exact main z (λy' hy=>by have ew:z.den P O=aa y:=h1;rw[hy]at ew;cases ew;exact h2.dI) hs
  .rename_i b s;have⟨_,h2⟩:=hr;exact .at (x:=.int 0) hs hJ hn rfl ⟨_,rfl,.raw _,rfl⟩ (gC _ (by subst h2;cases b<;>simp[s9,hu]))
  .rename_i j;split at hs
   .rename_i s st cut fr es hj;have⟨⟨z,hz⟩,hk⟩:=hs;obtain⟨s',bF,h1,rfl⟩:=Mp hz
    have oG:s'=s:=by
     have⟨_,oY,g1,_⟩:=hJ.obj j _ hj;have uB:es.den P O=aa (.tree s oY):=g1;rw[h1]at uB;cases uB;rfl
    subst oG;have⟨hl,_⟩:=Xk hJ hj h1 hr;refine .at (x:=.int bF.length) hk hJ hn rfl ⟨_,hz,.raw _,rfl⟩ (gC _ ?_);have⟨s2,st2,aiR,fr2,z2,es3,a1,a2,a3⟩:=hr;rw[hj]at a1;cases a1;have Ed:es.den P O=aa (.tree s' es3):=a2;rw[h1]at Ed;cases Ed;rcases a3 with⟨_,b2,rfl|rfl⟩|⟨id,cs,aV,mn,cap,_,_,rfl,_⟩
    .simp[s9,hu,b2]
    .simp[s9,hu,b2]
    .simp[s9,hu]
   .cases hs
  .cases hs
 .rename_i kt0 et0 hu;split at hs<;>try cases hs
  rename_i j;split at hs<;>try cases hs
  rename_i kt rO hj;split at hs
  .cases hs
  rename_i hk;have iR:=hk;have⟨⟨z,hz⟩,ub⟩:=hs;have⟨id,rM,oY,g1,g2,g3⟩:=hr;rw[hj]at g2;cases g2;rw[aY iR]at g3;have gp:=hJ.obj j _ hj;rw[oj,aY iR]at gp;have⟨bY,es,clock,ds,c1,c2,c3,c4,c5,c6⟩:=gp;rw[g1]at c2;cases c2;have sN:=c1
  have Hp:z=.int ds.length:=by
   simp only[SE.den,sN,Z8,kS,if_true,ZY]at hz;exact hz.symm
  subst Hp;have bf:=All2.len c5;exact .at (x:=.int es.length) ub hJ hn rfl ⟨_,hz,by rw[bf];exact .raw _,rfl⟩ (gC _ (by subst g3;simp[s9,hu,c4]))
 .cases hs
omit hJ hn in
theorem afO(h:Is P t=aa e):∃v,dW P t=aa v/\e.den P O=aa (.raw v)/\v.cells= #[v]:=by
 unfold Is at h;split at h<;>first|(cases h;exact⟨_,‹_›,rfl,rfl⟩)|cases h
theorem aiT{t0 t1:VK}{ca:Cl SE}(ho:o.op=.call c)(hc:c.callee=.builtin .append)(hx:c.args.toList.map (aT (E d))=[x0,x1])(ht0:c.argTypes[0]?=aa t0)(TK:c.argTypes[1]?=aa t1)(het:elemOf P t0=aa et)
 (yp:VR (aM P O) R X V.l G x0 (.one base))(yF:VR (aM P O) R X V.l G x1 (.one ca))(hs:(Uj P et t1 base ca V k).sat P C Q K O):eJ Cx P C Q K O E V.ln k (cV P E d o G):=by
 unfold Uj at hs;split at hs<;>try cases hs
 rename_i qk s n JR;split at hs<;>try cases hs
 rename_i s' z ze bytes cd zE hze Nn;split at hs<;>try exact hs.elim
 rename_i dj;simp only[VM]at dj;have⟨⟨⟨⟨h1,h2⟩,h3⟩,h4⟩,h5⟩:=dj;have ew:=ZR h1;have we:=ZR h2;subst ew we;have PC:bytes<=1000000:=jw;have⟨v,e1,e2,e3⟩:=afO (O:=O) hze;rw[zE]at e1;cases e1;have⟨y,hy,hk⟩:=hs;simp only[SE.den,ZS]at hy;have⟨nv,n1,zv,n2,n3⟩:=hy;rw[e2]at n2;cases n2;have⟨y',y1,y2,_⟩:=yF;have TL:n.den P O=aa y':=y1;rw[n1]at TL;cases TL
 obtain⟨q,m,rfl,m1,m2,hq,rfl⟩:∃q m,nv=.raw (.int q m)/\1<=m/\m<=1000000/\(q==QY)=ab/\y=.tree 1 (Xp m.toNat (.raw z)):=by
  unfold kS at n3
  grind
 have ux:q=.i64:=aI;subst ux;have Fb:=dH y2;have⟨_,yE⟩:=yp
 have Xo:nZ (z.cells.toList.map .raw) (m.toNat*1)=Xp m.toNat (.raw z):=by
  simp[nZ,e3]
 have bM:Ev.aw (.raw z)=ab:=aI;have qv:(SE.var V.n).den P (O++[.tree 1 (Xp m.toNat (.raw z))])=aa (.tree 1 (Xp m.toNat (.raw z))):=by simp[SE.den,<-hn]
 have cC:=hJ.up (lP:=aM P (O++[.tree 1 (Xp m.toNat (.raw z))])) λe y h=>SE.eI P e h
 have gD:=cC.oW (.cells (Xp m.toNat (.raw z)) 0 0) (.row 1 af af af (.var V.n)) ⟨ak,_,qv,λe he=>(by rw[M6 he];rfl),.inr ⟨G.n,(Xp m.toNat (.raw z)),0,0,by simp[cY],az,XS _,az,hJ.ur,US.2 λx hx=>aI,λj x d hx hd=>by
  have oF:=M6 (ZU hx)
  have E8:d=.raw z:=by
   have hm:=ZU hd
   grind [flat,aD]
  rw[oF,E8];exact .raw _⟩⟩
 refine⟨.sl G.n 0 m.toNat ah 0 1,_,R,_,.one (.sr V.l.length),{V with n:=V.n+1,l:=V.l++[.row 1 af af af (.var V.n)]},[.tree 1 (Xp m.toNat (.raw z))],?_,gD,
  ⟨1,af,af,af,_,_,az,qv,.inr ⟨G.n,(Xp m.toNat (.raw z)),0,0,ah,by simp[cY],az,az,UT _,λ_ _=>az,λc hc=>aI⟩⟩,aI,rfl,hk⟩
 have JM:m.toNat≠0:=ak;simp only[cV,aN,ho,gI,hx,oP,ht0,TK,sZ het,JR,cd,zE,Nn,xE,Fb,yE];rw[aY aI,aW ⟨ak,ak⟩];simp only[tZ];rw[Xo];simp only[if_true]
 rw[aW ⟨az,US.2 λx hx=>aI,by
    have:(4*(0+m.toNat)+4096)*bytes<=4004096*1000000:=Nat.mul_le_mul ak PC;omega,ak⟩]
 simp_all[gH,iY,jx,ret]
theorem adt(ho:o.op=.call c)(hc:c.callee=.builtin .append)(hs:(jB P d o V k).sat P C Q K O):eJ Cx P C Q K O E V.ln k (cV P E d o G):=by
 simp only[jB,ho,hc]at hs;have cj:=lB hJ d c.args.toList c.argTypes.toList;split at hs<;>first|(cases hs)|grind|skip
 all_goals try grind
 rename_i base ca _ hh;rw[hh]at cj;have⟨x0,x1,hx,yp,yF⟩:=Oe cj;split at hs<;>try cases hs
 rename_i t0 t1 ht0 TK;split at hs<;>try cases hs
 rotate_left
 .rename_i et het _;exact aiT hJ hn ho hc hx ht0 TK het yp yF hs
 rename_i et et1 het aiU;split at hs<;>try cases hs
 rename_i s z bytes cd zE Nn;split at hs<;>try cases hs
 have aEJ:s≠0/\z.cells.size=s:=by
  simp_all
 split at hs<;>try cases hs
 rename_i fr es raw aiV
 have main:(raw=ab->∃z,(SE.rws es).den P O=aa z)->(Hi bytes s base fr es V k).sat P C Q K O->eJ Cx P C Q K O E V.ln k (cV P E d o G):=by
  intro oq hs;have⟨v,aG,R1,fa,pv,V1,I,⟨m,n,aH,h1,h2,h3,h4,h5,h6,h7,h8⟩,lh⟩:=ads hJ hn yp yF aiV oq hs;refine⟨v,aG,R1,fa,pv,V1,I,?_,lh⟩;simp only[cV,aN,ho,gI,oP,ht0,TK,sZ het,sZ aiU,xE]
  grind
 split at hs
 .have⟨hz,hk⟩:=hs
  grind
 grind
end
section
variable{place:Nat->aF (Nat×Nat)}{zero:aj IV}{z:SE}
theorem IB(hJ:JQQ Cx P O R X V E G){ty:Nat->VK}:∀{parts:aj (Nat×Xs)} {cells:aj IV} {cs out:aj (Cl SE)},All2 (dT (aM P O) R X V.l G) cells cs->
 rY (λj x=>gU (cJ P d V (ty j) x)) place parts cs=aa out->∃kH,uX place cells (parts.map λ(i,x)=>(i,aT (E d) x))=aa kH/\All2 (dT (aM P O) R X V.l G) kH out/\kH.length=cells.length/\(cells.all Ev.aw=ab->kH.all Ev.aw=ab)
 |[],cells,cs,out,h,hp=>by
  simp only[rY,ZY]at hp;subst hp;exact⟨cells,rfl,h,rfl,λh=>h⟩
 |(j,x)::ps,cells,cs,out,h,hp=>by
  simp only[rY]at hp;split at hp
  .rename_i ay sz iv;split at hp
   .rename_i hc;simp only[VM,ZT,Yr]at hc;have⟨⟨c1,c2⟩,c3⟩:=hc;have lX:=Fp (b_ hJ d (ty j) x) c1;have bM:=yB lX c1;have hl:=lX.len;have DM:=h.len;have⟨kH,h1,h2,h3,h4⟩:=IB hJ (aHM ay h lX) hp;refine⟨kH,?_,h2,by rw[h3,CG ak],λha=>h4 (Iy ha bM)⟩
    simp_all[uX]
   grind
  grind
def Of(hl:zero.length=s)(hs:0<s)(n:Nat):nZ zero (n*s)=(Xp n zero).flatten:=by
 unfold nZ;split
 .simp at hl;subst hl;simp
 simp_all
theorem aIx{zc:aj (Cl SE)}(h:All2 (dT (aM P O) R X L G) zero zc):∀n,All2 (dT (aM P O) R X L G) (Xp n zero).flatten (WR zc n)
 |0=>trivial
 |n+1=>by
  rw[List.replicate_succ,List.flatten_cons];exact h.app (aIx h n)
def avF(hl:zero.length=s):∀n,(Xp n zero).flatten.length=n*s
 |0=>by simp
 |n+1=>by simp_all
def afP(h:Pt z=ab)(hy:z.den P O=aa y):aZ y=ab:=by
 cases z<;>simp[Pt]at h<;>(simp only[SE.den,ZY]at hy;subst hy;rfl)
def aqQ{V':SS}{xW:aj SE}(h:JQQ Cx P O R X V E G)(hr:rdT P V c t=aa (fr,z,V',xW)):
 ∃R',lY P O R X V G R' V'/\JQQ Cx P O R' X V' E G/\∀x,dT (aM P O) R X V.l G x c->∃y,z.den P O=aa y/\bZ ab R' G x y/\Ev.aw y=ab/\((∀e∈xW,∃q,(SE.rw e).den P O=aa q)->bZ fr R' G x y):=by
 unfold rdT at hr;split at hr
 .rename_i z';have Ic:=KT (c:=.v z') h rfl;have⟨R',h1,h2,h3⟩:=Ic;split at hr
  .simp only[ZY,TY]at hr;obtain⟨rfl,rfl,rfl,rfl⟩:=hr;refine⟨R',h1,h2,λx hx=>?_⟩;have⟨y,a1,a2,a3⟩:=h3 x hx;refine⟨y,a1,a2,a3,λoq=>?_⟩
   have hy:aZ y=ab:=by
    by_cases hl:Pt z'=ab
    .exact afP hl a1
    simp_all[SE.den]
   unfold aZ at hy;split at hy
   .rw[dH a2];exact .raw _
   grind
  grind
 .split at hr
  .rename_i eP z' V1 iQ;obtain⟨rfl,rfl,rfl,rfl⟩:=hr;have⟨R',h1,h2,h3⟩:=KT h iQ;refine⟨R',h1,h2,λx hx=>?_⟩;have⟨y,a1,a2,a3⟩:=h3 x hx;exact⟨y,a1,a2.dI,a3,λ_=>a2⟩
  grind
theorem aaA:∀{cs:aj (Cl SE)} {ts:aj VK} {V V':SS} {R:Rs} {fr:Bool} {zs xW:aj SE},JQQ Cx P O R X V E G->XU P V cs ts=aa (fr,zs,V',xW)->
 ∃R',lY P O R X V G R' V'/\JQQ Cx P O R' X V' E G/\zs.length=cs.length/\∀xs,All2 (dT (aM P O) R X V.l G) xs cs->∃ys,All2 (λ(z:SE) y=>z.den P O=aa y) zs ys/\All2 (bZ ab R' G) xs ys/\ys.all Ev.aw=ab/\
  ((∀e∈xW,∃q,(SE.rw e).den P O=aa q)->All2 (bZ fr R' G) xs ys)
 |[],_,V,V',R,fr,zs,xW,h,hr=>by
  obtain⟨rfl,rfl,rfl,rfl⟩:=hr;refine⟨R,.refl h,h,rfl,λxs hx=>⟨[],trivial,?_,rfl,λ_=>?_⟩⟩<;>
  .cases xs with
   |nil=>trivial
   |cons=>assumption
 |c::cs,[],V,V',R,fr,zs,xW,h,hr=>by contradiction
 |c::cs,t::ts,V,V',R,fr,zs,xW,h,hr=>by
  simp only[XU]at hr;split at hr
  .rename_i f1 z V1 r1 h1;split at hr
   .rename_i f2 zs' V2 r2 h2;obtain⟨rfl,rfl,rfl,rfl⟩:=hr;have⟨R1,a1,a2,a3⟩:=aqQ h h1;have⟨R2,b1,b2,bl,b3⟩:=aaA a2 h2;refine⟨R2,a1.trans b1,b2,aI,λxs hx=>?_⟩;cases xs with
    |nil=>cases hx
    |cons x xs=>
     have⟨y,c1,c2,c3,c4⟩:=a3 x hx.1;have⟨ys,d1,d2,d3,d4⟩:=b3 xs (hx.2.mono λ_ _ di=>a1.W9 di);refine⟨y::ys,⟨c1,d1⟩,⟨c2.mono b1.2.2.2.grow,d2⟩,aI,λoq=>⟨((c4 λe he=>oq e aI).mono b1.2.2.2.grow).wide λh=>aI,(d4 λe he=>oq e aI).mono λ_ _ di=>di.wide λh=>aI⟩⟩
   grind
  grind
theorem aHY:∀{es:aj SE},(ac5 es f).sat P C Q K O->(∀e∈es,∃q,(SE.rw e).den P O=aa q)/\f.sat P C Q K O
 |[],h=>⟨λe he=>aI,h⟩
 |e::es,h=>by
  have⟨h1,h2⟩:=h;have⟨h3,h4⟩:=aHY h2
  grind
theorem adX{s:Nat}:∀(n:Nat) {zs:aj SE} {ys:aj IV},All2 (λ(z:SE) y=>z.den P O=aa y) zs ys->ys.length=n*s->∃es:aj IV,All2 (λ(z:SE) y=>z.den P O=aa y) (D7 s n zs) es/\es.length=n/\(∀e∈es,(aD e).length=s)/\flat es=ys
 |0,zs,ys,h,hl=>by
  have:ys=[]:=Kp ak;subst this;exact⟨[],trivial,rfl,λe he=>aI,rfl⟩
 |n+1,zs,ys,h,hl=>by
  rw[W6,aLb]at hl;have⟨es,h1,h2,h3,h4⟩:=adX (s:=s) n (h.drop s) aI;refine⟨.agg (ys.take s)::es,⟨ig (h.take s),h1⟩,aI,λe he=>?_,?_⟩
  .grind [aD]
  .show aD (.agg (ys.take s))++flat es=ys;rw[h4];exact List.take_append_drop s ys
theorem aiH:∀{ys:aj IV},ys.all Ev.aw=ab->(∀e∈ys,(aD e).length=1)/\flat ys=ys
 |[],_=>⟨λe he=>aI,rfl⟩
 |y::ys,h=>by
  simp only[List.all_cons,VM]at h;have⟨h1,h2⟩:=aiH h.2;refine⟨λe he=>?_,?_⟩
  .rcases ZP.1 he with rfl|he
   .rw[GC h.1];rfl
   grind
  .show aD y++flat ys=y::ys;rw[h2,GC h.1];rfl
variable(hJ:J Cx (aM P O) R X V.g V.l E G)(hn:O.length=V.n)
include hJ hn
theorem afQ{parts:Array (Nat×Xs)}(ho:o.op=.build t parts)(hs:(jB P d o V k).sat P C Q K O):eJ Cx P C Q K O E V.ln k (cV P E d o G):=by
 simp only[jB,ho]at hs;split at hs
 .rename_i fields hu;split at hs<;>try cases hs
  split at hs<;>try cases hs
  rename_i cs hp;cases hz:dW P t with
  |none=>grind
  |some z=>
   have⟨kH,h1,h2,_⟩:=IB (ty:=aqv fields) hJ (uA (P:=P) (O:=O) (R:=R) (X:=X) (L:=V.l) (G:=G) hz) hp;refine .here (x:=.agg kH) (pv:=.ag cs) (aG:=G) ?_ hJ ⟨_,rfl,h2⟩ hn rfl hs;have ew:uX (λi=>(fields[i]?).bind λf=>(bD P f.type).map λs=>(f.offset,s)) (z.cells.toList.map IV.raw) (parts.toList.map λ(i,x)=>(i,aT (E d) x))=aa kH:=h1
   simp_all[cV,aN,ret]
 .rename_i len et hu;split at hs<;>try cases hs
  rename_i s cd;split at hs<;>try cases hs
  split at hs<;>try cases hs
  rename_i cs hp;cases hz:dW P t with
  |none=>grind
  |some z=>
   have⟨kH,h1,h2,_⟩:=IB (ty:=λ_=>et) hJ (uA (P:=P) (O:=O) (R:=R) (X:=X) (L:=V.l) (G:=G) hz) hp;refine .here (x:=.agg kH) (pv:=.ag cs) (aG:=G) ?_ hJ ⟨_,rfl,h2⟩ hn rfl hs;have ew:uX (λi=>aa (i*s,s)) (z.cells.toList.map IV.raw) (parts.toList.map λ(i,x)=>(i,aT (E d) x))=aa kH:=h1;simp only[cV,aN,ho,hz,hu,cd,ew,ret]
 .cases hs
theorem aGm{len:Nat}{parts:Array (Nat×Xs)}(ho:o.op=.buildSlice t len parts)(hs:(jB P d o V k).sat P C Q K O):eJ Cx P C Q K O E V.ln k (cV P E d o G):=by
 simp only[jB,ho]at hs;split at hs<;>try cases hs
 rename_i et het;have hu:=sZ het;split at hs<;>try cases hs
 rename_i s z cd hz;split at hs<;>try cases hs
 rename_i hc;simp only[P6,VH,not_or,Bool.not_eq_false,Yr]at hc;have⟨⟨c1,c2⟩,c3⟩:=hc;have dc:s≠0:=by intro h;simp_all
 have M4:=ZR c2;have hzl:(z.cells.toList.map IV.raw).length=s:=aI;split at hs
 .rename_i px;have aBb:=ZR px;split at hs<;>try cases hs
  have aFE:parts.toList=[]:=aI;refine .at (x:=.emp) hs hJ hn rfl ⟨ak,rfl⟩ ?_
  have Xo:nZ (z.cells.toList.map IV.raw) 0=[]:=by
   have:=Of hzl ak 0
   grind
  simp_all[cV,aN,uX,ret]
 .have aBb:len≠0:=jw;split at hs<;>try cases hs
  rename_i cs hp;split at hs<;>try cases hs
  rename_i fr zs V2 rws iQ;split at hs<;>try cases hs
  have⟨oq,hk⟩:=aHY hs;have aBc:=aIx (uA (P:=P) (O:=O) (R:=R) (X:=X) (L:=V.l) (G:=G) hz) len;have⟨kH,h1,h2,h3,h4⟩:=IB (ty:=λ_=>et) hJ aBc hp;have⟨R',bI,gD,aFF,Xe⟩:=aaA hJ iQ;have⟨ys,b1,b2,b3,b4⟩:=Xe _ h2;have kW:kH.length=len*s:=jw;have PD:ys.length=len*s:=by rw[<-b2.len,kW]
  have Od:kH.all Ev.aw=ab:=by
   rw[US];intro c hc;have⟨i,hi⟩:=YN hc;have aq:i<ys.length:=aI;exact(b2.get hi (UN aq)).aw (US.1 b3 _ (Z4 aq))
  have⟨es,q9,aFG,aBd,aBe⟩:∃es:aj IV,(fZ (if isAgg P et=ab then D7 s len zs else zs)).den P O=aa (.agg es)/\es.length=len/\(∀e∈es,(aD e).length=s)/\flat es=ys:=by
   by_cases ha:isAgg P et=ab
   .rw[aW ha];have⟨es,e1,e2,e3,e4⟩:=adX (s:=s) len b1 PD;exact⟨es,ig e1,e2,e3,e4⟩
   .rw[aY ha]
    have iP:s=1:=by
     simp_all
    subst iP;have⟨e1,e2⟩:=aiH b3;exact⟨ys,ig b1,ak,e1,e2⟩
  have hcr:uD fr R' G kH (flat es):=by
   rw[aBe];intro j x y hx hy;cases fr with
   |true=>exact b2.get hx hy
   |false=>exact(b4 oq).get hx hy
  have qv:(SE.tr s (fZ (if isAgg P et=ab then D7 s len zs else zs))).den P O=aa (.tree s es):=by
   simp_all[SE.den]
  have DU:O.length=V2.n:=by rw[hn];exact bI.2.1.symm
  have yC:=gD.oW (.cells kH 0 0) (.row s af af fr (.tr s (fZ (if isAgg P et then D7 s len zs else zs))))
   ⟨ak,es,qv,aBd,.inr ⟨G.n,kH,0,0,by simp[cY],az,XS _,aI,gD.ur,Od,λj x y hx hy=>(hcr j x y hx hy).mono (aIW gD _)⟩⟩
  refine .at (x:=.sl G.n 0 len (aa len) 0 s) (V1:={V2 with l:=V2.l++[.row s af af fr (.tr s (fZ (if isAgg P et then D7 s len zs else zs)))]}) hk yC DU bI.2.2.1
   ⟨s,af,af,fr,_,es,az,qv,.inr ⟨G.n,kH,0,0,aa len,by simp[cY],az,aI,UT _,λh=>(by cases h),λc hc=>aI⟩⟩ ?_
  have ew:uX (λi=>aa (i*s,s)) (Xp len (z.cells.toList.map IV.raw)).flatten (parts.toList.map λ(i,x)=>(i,aT (E d) x))=aa kH:=h1;simp only[cV,aN,ho,hu,cd,hz,Of hzl ak,ret]
  grind
end
section
variable(hJ:J Cx (aM P O) R X V.g V.l E G)(hn:O.length=V.n)
include hJ
theorem aaB:∀{xs:aj Xs} {bs:aj (Nat×Nat)},WQ P d V xs=aa bs->All2 (λy (p:Nat×Nat)=>∃id cs,X p.1=aa id/\V.l[p.1]?=aa (.var cs)/\y=.ptr id 0 0 p.2) (xs.map (aT (E d))) bs
 |[],bs,h=>by
  simp only[WQ,ZY]at h;subst h;trivial
 |x::xs,bs,h=>by
  simp only[WQ]at h;split at h
  .rename_i j ext hx;split at h
   .rename_i l hl;simp only[ZY]at h;subst h;have hv:=b_ hJ d 0 x;rw[hx]at hv;exact⟨hv,aaB hl⟩
   grind
  grind
include hn
theorem aGn{f:V4}{first cap:Array Xs}(ho:o.op=.makeFunc (.func f) first cap)(hs:(lx P d o V k).sat P C Q K O):eJ Cx P C Q K O E V.ln k (cV P E d o G):=by
 simp only[lx,ho]at hs;split at hs<;>try cases hs
 rename_i hf;split at hs
 .rename_i bs hb;refine .at (x:=.fn (.func f) [] (cap.toList.map (aT (E d)))) hs hJ hn rfl (.inr ⟨_,rfl,aaB hJ hb⟩) ?_
  simp_all[cV,aN,ret]
 .cases hs
theorem aF9{r:aF Xs}(ho:o.op=.makeMap t r)(hs:(lx P d o V k).sat P C Q K O):eJ Cx P C Q K O E V.ln k (cV P E d o G):=by
 simp only[lx,ho]at hs;split at hs<;>try cases hs
 rename_i kt et hu;split at hs
 .cases hs
 rename_i iR;have iR:=iR;have h1:=hJ.oW (.map [] 0) (.mp kt (.tp .an)) (by rw[oj,aY iR];exact⟨G.n,[],0,[],by simp[SE.den],by simp[cY],hJ.ur,az,trivial,rfl,λi e h=>by simp at h⟩);refine .at (x:=.map G.n) (V1:={V with l:=V.l++[.mp kt (.tp .an)]}) hs h1 hn rfl ⟨G.n,kt,SE.tp .an,by simp[cY],az,(aY iR).symm⟩ ?_;simp[cV,aN,ho,ret]
end
def Eh:∀{cs:aj IV} {vs:aj ZQ},xp cs=aa vs->cs=vs.map .raw
 |[],vs,h=>by simp_all[xp]
 |c::cs,vs,h=>by
  unfold xp at h;split at h<;>try grind
  all_goals
   obtain⟨ws,h1,rfl⟩:=Lq.1 h;rw[Eh h1];rfl
def Ei:∀vs:aj ZQ,nJ (vs.map .raw)=aa vs
 |[]=>rfl
 |v::vs=>by simp only[ZM,nJ,Ei vs]
def KV(h:keyOf x=aa v):pd x=aa v/\lift v=x:=by
 unfold keyOf at h;split at h<;>first|(cases h;exact⟨rfl,rfl⟩)|(cases h;done)|skip
 obtain⟨vs,h1,rfl⟩:=Lq.1 h;have:=Eh h1;subst this;refine⟨?_,by simp[lift]⟩;simp only[pd,xV,Ei]
def Og(h:bZ fr R G x (.agg cs)):∃xs,x=.agg xs/\All2 (bZ fr R G) xs cs:=by
 cases h with
 |agg v7 _ hl hh=>exact⟨v7,rfl,.mk hl hh⟩
 |pure _ hf hp=>
  refine⟨cs,rfl,.mk rfl λi a b h1 h2=>?_⟩;rw[h1]at h2;cases h2;cases hp with
  |agg _ hh=>exact .pure a hf (hh a (ZU h1))
def KX{u:IV}(h:keyOf x=aa v)(hc:bZ fr R G u x):u=x:=by
 unfold keyOf at h;split at h<;>first|(exact dH hc)|grind|skip
 obtain⟨vs,h1,rfl⟩:=Lq.1 h;have:=Eh h1;subst this;obtain⟨xs,rfl,pA⟩:=Og hc
 congr 1
 apply List.ext_getElem?;intro i;cases hi:xs[i]? with
 |none=>
  have:(vs.map IV.raw)[i]?=ah:=by
   simp_all[pA.len]
  grind
 |some a=>
  have aq:=(Z5.1 hi).1;rw[pA.len]at aq;have hb:=UN aq;have:=pA.get hi hb;rw[hb];simp only[List.getElem_map]at this⊢;rw[dH this]
def aiW(h:keyOf (lift u)=aa v):u=v:=by
 have⟨h1,_⟩:=KV h;unfold lift at h1;split at h1
 all_goals simp_all[pd,xV,Ei]
variable{es:aj (ZQ×IV×Nat)}{key:Xs}{kt:VK}{q:IntKind}{rO:SE}{ok:Bool}{hi lo:aF Xs}
def aaC{ks:aj ZQ}(he:Mb R G es ds)(h:oX ds=aa ks):es.map (·.1)=ks:=by
 induction ds generalizing es ks with
 |nil=>
  cases es with
  |nil=>simp_all[oX]
  |cons=>cases he
 |cons d ds ih=>
  cases es with
  |nil=>cases he
  |cons e es=>
   obtain⟨⟨z,rfl,_⟩,h2⟩:=he;simp only[oX]at h;split at h
   .rename_i v vs h3 h4;simp only[ZY]at h;subst h;simp only[ZM,aiW h3,ih h2 h4]
   grind
def acw{kd:TypeDesc}{key:ZQ}:∀{es:aj (ZQ×IV×Nat)} {n:Nat} {q:aF Nat},nowAt kd key (es.map (·.1)) n=aa q->
 ∃r,Yp kd key (es.map λe=>{key:=e.1,val:=ZL,born:=e.2.2}) n=aa r/\(q=ah->r=ah)/\(∀j,q=aa j->(∃v,r=aa (j,v))/\n<=j/\∃e,es[j- n]?=aa e/\Uz kd key e.1=aa ab)
 |[],n,q,h=>by
  simp only[List.map_nil,nowAt]at h;exact⟨ah,rfl,λ_=>rfl,λj hj=>aI⟩
 |e::es,n,q,h=>by
  simp only[ZM,nowAt]at h;simp only[ZM,Yp];split at h
  .simp only[ZY]at h;subst h
   simp_all
  .have⟨r,h1,h2,h3⟩:=acw h
   grind
  grind
def run_underlying{kd:TypeDesc}(h:P.underlying t=aa kd):a_ P (underlying t)=aa kd:=by
 unfold underlying;rw[bw];show(a_ P (.program λp=>.pure p)).bind _=_;simp only[a_,Z8,h];rfl
def acV{kd:TypeDesc}{k:ZQ}:∀(es bF:aj MapEntry) (n:Nat),es.map (λe=>(e.key,e.val))=bF.map (λe=>(e.key,e.val))->Yp kd k es n=Yp kd k bF n
 |[],[],_,_=>rfl
 |[],e'::bF,_,h=>by grind
 |e::es,[],_,h=>by grind
 |e::es,e'::bF,n,h=>by
  simp only[ZM,Tg,TY]at h;simp only[Yp];rw[h.1.1,h.1.2,acV es bF (n+1) h.2]
def aH3{k:ZQ}:∀(es bF:aj MapEntry) (n:Nat),es.map (λe=>(e.key,e.val))=bF.map (λe=>(e.key,e.val))->Qu kt k es n=Qu kt k bF n
 |[],[],_,_=>rfl
 |[],e'::bF,_,h=>by grind
 |e::es,[],_,h=>by grind
 |e::es,e'::bF,n,h=>by
  simp only[ZM,Tg,TY]at h;simp only[Qu];rw[h.1.1,h.1.2,aH3 es bF (n+1) h.2]
def adu{k:ZQ}(h:es.map (·.1)=bF.map (·.1)):gX P b kt k es=gX P b kt k bF:=by
 have hm:(es.map λe=>({key:=e.1,val:=ZL,born:=e.2.2}:MapEntry)).map (λe=>(e.key,e.val))=(bF.map λe=>({key:=e.1,val:=ZL,born:=e.2.2}:MapEntry)).map (λe=>(e.key,e.val)):=by
  have:∀l:aj (ZQ×IV×Nat),l.map ((λe:MapEntry=>(e.key,e.val))∘λe=>({key:=e.1,val:=ZL,born:=e.2.2}:MapEntry))=(l.map (·.1)).map λk=>(k,ZL):=λl=>by
   simp
  grind
 unfold gX
 have hf:YA kt k (es.map λe=>{key:=e.1,val:=ZL,born:=e.2.2})=YA kt k (bF.map λe=>{key:=e.1,val:=ZL,born:=e.2.2}):=by
  unfold YA
  congr 1
  funext d;rw[acV _ _ 0 hm,aH3 _ _ 0 hm]
 rw[hf]
def Bs{q:aF Nat}(he:Mb R G es ds)(h:gY P kt ds x=aa q)(b:Bool):
 ∃key,keyOf x=aa key/\pd x=aa key/\lift key=x/\gX P b kt key es=aa q/\∀j,q=aa j->∃e,es[j]?=aa e/\Xi 10000 e.1 key=ab:=by
 unfold gY at h;split at h
 .rename_i kd ks key hk dZ ye;have h1:=ye;have⟨h2,h3⟩:=KV ye;have q9:=aaC he dZ;rw[<-q9]at h;have⟨r,g1,g2,g3⟩:=acw h;refine⟨key,h1,h2,h3,?_,λj hj=>?_⟩
  .have hu:P.underlying kt=aa kd/\((∃q,kd=.int q)\/kd=.string):=by
    grind [zZ]
   have hck:a_ P (ZC b 10000 kt key)=aa ():=by
    show a_ P (ZC b (9999+1) kt key)=aa ();unfold ZC;rw[bw,run_underlying hu.1,Z8];rcases hu.2 with⟨q,rfl⟩|rfl<;>rfl
   have hfk:a_ P (YA kt key (es.map λe=>{key:=e.1,val:=ZL,born:=e.2.2}))=aa r:=by
    unfold YA;rw[bw,run_underlying hu.1,Z8,g1];rfl
   unfold gX;rw[bw,hck,Z8,hfk];cases q with
   |none=>grind
   |some j=>grind
  .have⟨_,_,e,g4,g5⟩:=g3 j hj;exists e,ak;unfold Uz at g5;split at g5
   .split at g5
    .rename_i hq
     simp_all[Xi]
    grind
   .rename_i a b pQ;rw[pQ];simp only[ZY]at g5;have hd:=eq_of_beq (show(a.data==b.data)=ab from g5);show(b.data==a.data)=ab
    grind
   all_goals simp_all[Xi]
 .rename_i ks key hk dZ ye;have⟨h2,h3⟩:=KV ye;have q9:=aaC he dZ;have ub:∀b',gX P b' kt key es=gX P b' kt key (ks.map λe=>(e,.undef,0)):=λb'=>adu (by rw[q9];simp[Function.comp_def]);unfold Hn at h;split at h<;>try grind
  rename_i q1 q2 JI O9;split at h<;>try grind
  rename_i hqq;subst hqq
  have hkb:gX P b kt key es=aa q1:=by
   rw[ub];cases b
   all_goals omega
  grind
 grind
def Oh:∀{ds:aj (Cl SE)} {es:aj SE},Mf ds=aa es->ds=es.map .v
 |[],es,h=>by simp_all[Mf]
 |c::ds,es,h=>by
  cases c<;>simp only[Mf]at h<;>try grind
  split at h
  .rename_i bF he;simp only[ZY]at h;subst h;rw[Oh he];rfl
  grind
def Oi(hJ:JQQ Cx P O R X V E G):∀{cs:aj (Cl SE)} {es:aj SE} {xs:aj IV},Bm cs=aa es->All2 (dT (aM P O) R X V.l G) xs cs->
 ∃ys:aj IV,All2 (λ(z:SE) y=>z.den P O=aa y) es ys/\All2 (bZ ab R G) xs ys
 |[],es,[],h,_=>by simp only[Bm,ZY]at h;subst h;exact⟨[],trivial,trivial⟩
 |[],es,_::_,_,hx=>hx.elim
 |c::cs,es,[],_,hx=>hx.elim
 |c::cs,es,x::xs,h,hx=>by
  have next:∀{e:SE} {y:IV},(Bm cs).map (e::·)=aa es->e.den P O=aa y->bZ ab R G x y->∃ys:aj IV,All2 (λ(z:SE) y=>z.den P O=aa y) es ys/\All2 (bZ ab R G) (x::xs) ys:=by
   intro e y h h1 h2;obtain⟨bF,h3,rfl⟩:=Lq.1 h;have⟨ys,h4,h5⟩:=Oi hJ h3 hx.2;exact⟨y::ys,⟨h1,h4⟩,⟨h2,h5⟩⟩
  simp only[Bm]at h;split at h
  .have⟨y,h1,h2,_⟩:=hx.1;exact next h h1 (h2.mono hJ.Fs)
  .have⟨y,h1,h2,_⟩:=hx.1;exact next h h1 h2.dI
  .rename_i b s;have⟨h1,h2⟩:=hx.1;refine next (y:=.tree s []) h (by simp[SE.den,h1]) ?_
   subst h2;cases b
   .exact .emp s h1
   .exact .nil s h1
  grind
def Hq(hJ:JQQ Cx P O R X V E G){ke:SE}(hx:VR (aM P O) R X V.l G x pv)(h:N3 pv=aa ke):∃kv,ke.den P O=aa kv/\bZ ab R G x kv:=by
 unfold N3 at h;split at h<;>try grind
 .cases h;have⟨y,h1,h2,_⟩:=hx;exact⟨y,h1,h2.mono hJ.Fs⟩
 .cases h;have⟨y,h1,h2,_⟩:=hx;exact⟨y,h1,h2.dI⟩
 .obtain⟨es,h1,rfl⟩:=Lq.1 h;obtain⟨xs,rfl,pA⟩:=hx;have⟨ys,g1,g2⟩:=Oi hJ h1 pA;exact⟨.agg ys,ig g1,.agg xs ys g2.len λi c e h1 h2=>g2.get h1 h2⟩
def All2.aqR{B β:Type}{r:B->β->Prop}{a:B}{b:β}(hr:r a b):∀{as:aj B} {bs:aj β} {i:Nat},All2 r as bs->All2 r (as.set i a) (bs.set i b)
 |[],[],i,_=>by grind
 |_::_,_::_,0,h=>⟨hr,h.2⟩
 |_::_,_::_,i+1,h=>⟨h.1,All2.aqR hr h.2⟩
 |[],_::_,_,h=>h.elim
 |_::_,[],_,h=>h.elim
def anW(hJ:J Cx (aM P O) R X V.g V.l E G)(hn:O.length=V.n)(hj:V.l[j]?=aa (.mp kt rO)){clock sO:Nat}(iR:¬rL kt=ab)(mE:X j=aa id)(hR:R id=ah)(bx:G.at id=aa (.map es clock))
 (he:Mb R G bF sH/\Canon bF sO):J Cx (aM P (O++[.aU sH])) R X V.g (V.l.set j (.mp kt (.var V.n))) E (G.put id (.map bF sO)):=by
 have cC:=hJ.up (lP:=aM P (O++[.aU sH])) (λe y h=>SE.eI P e h)
 exact(cC.wh (R':=R) (bad:=λ_=>False) (mW:=.mp kt (.var V.n)) (gO:=.map bF sO) mE hj (λ_ _=>rfl)
  (λm hm=>by rw[hR]at hm;cases hm) (λm _ _ _ hm=>by rw[hR]at hm;cases hm) (λm _ _ _ hm=>by rw[hR]at hm;cases hm)
  (λ_ h=>by cases h) (λ_ _ _=>by rename_i h;cases h;exact⟨_,rfl⟩) (λ_ _ _ _ _ h=>by cases h) (λ_ _ pv _=>pv.bP) (λ_ o _ _=>o.bP)
  (λiP=>by rw[oj,aY iR];exact⟨id,bF,sO,sH,by simp[SE.den,<-hn],mE,hR,by rw[St.eF,aW rfl],he.1.mono λ_ _ ⟨z,h1,h2⟩=>⟨z,h1,h2.mono iP.grow⟩,he.2⟩)).2
def as_{x:Xs}(hJ:JQQ Cx P O R X V E G)(hn:O.length=V.n)(ho:o.op=.mapUpdate t m key x\/o.op=.insert t m key x)(hs:(lx P d o V k).sat P C Q K O):eJ Cx P C Q K O E V.ln k (cV P E d o G):=by
 have iP:(match P.underlying t with
  |some (.map kt et)=>Rr kt (cJ P d V t m) (cJ P d V kt key) (cJ P d V et x) V k
  |_=>.fail 66).sat P C Q K O:=by
  rcases ho with ho|ho<;>(unfold lx at hs;grind)
 split at iP<;>try contradiction
 rename_i kt et hu;unfold Rr at iP;split at iP<;>try contradiction
 rename_i j ke xe hm hk hx;split at iP<;>try contradiction
 rename_i uo rO hj;split at iP<;>try contradiction
 rename_i mH;rw[VM,VH]at mH;have⟨mH,iR⟩:=mH;have IC:=ZR mH;subst IC;have iR:¬rL kt=ab:=aI;have⟨z,hz,aBf⟩:=iP;have uE:=b_ hJ d t m;have Xq:=b_ hJ d kt key;have⟨xv,Cm,hxr⟩:=Hq hJ (b_ hJ d et x) hx;rw[hm]at uE;have⟨id,rM,oY,g1,g2,g3⟩:=uE;rw[hj]at g2;cases g2;rw[aY iR]at g3;have⟨kv,a1,a2⟩:=Hq hJ Xq hk;have gp:=hJ.obj j _ hj;rw[oj,aY iR]at gp;have⟨bY,es,clock,ds,c1,c2,c3,c4,c5⟩:=gp;rw[g1]at c2;cases c2;have sN:=c1;have Ck:=a1;simp only[SE.den,sN,Ck,Cm,Z8]at hz
 have fin:∀{bF:aj (ZQ×IV×Nat)} {sO:Nat} {sH:aj IV},Mb R G bF sH/\Canon bF sO->z=.aU sH->sB P 0 kt (aT (E d) m) (aT (E d) key) (aT (E d) x) G=aa (G.put id (.map bF sO))->eJ Cx P C Q K O E V.ln k (cV P E d o G):=by
  intro bF sO sH he Hp GB;subst Hp;have gD:=anW (sO:=sO) hJ hn hj iR g1 c3 c4 he;refine⟨.undef,_,R,X,.one .un,{V with n:=V.n+1,l:=V.l.set j (.mp kt (.var V.n))},[.aU sH],?_,gD,trivial,aI,rfl,aBf⟩;rcases ho with ho|ho<;>simp[cV,aN,ho,hu,GB,ret]
 split at hz
 .rename_i q hq;have⟨kk,e1,e2,e3,e4,e5⟩:=Bs c5.1 hq af;have hkr:=KX e1 a2;obtain⟨e,h6,h7⟩:=e5 q rfl;refine fin (bF:=es.set q (kk,aT (E d) x,e.2.2)) (sO:=clock) (sH:=ds.set q (.aU [kv,xv])) ⟨All2.aqR ⟨xv,by rw[e3],hxr⟩ c5.1,c5.2.set h6 _ _⟩ aI ?_
  simp_all[sB]
 .rename_i hq;have⟨kk,e1,e2,e3,e4,e5⟩:=Bs c5.1 hq af;have hkr:=KX e1 a2;refine fin (bF:=es++[(kk,aT (E d) x,clock)]) (sO:=clock+1) (sH:=ds++[.aU [kv,xv]]) ⟨c5.1.app ⟨⟨xv,by rw[e3],hxr⟩,trivial⟩,c5.2.app _ _⟩ aI ?_
  simp_all[sB]
 grind
def aiX(h:Is P t=aa e):∃v,dW P t=aa v/\e.den P O=aa (.raw v)/\lift v=.raw v:=by
 unfold Is at h;split at h<;>first|(cases h;exact⟨_,‹_›,rfl,rfl⟩)|cases h
def aqS(h:bZ fr R G x (.agg [])):x=.agg []:=by
 cases h with
 |agg cs _ hl _=>
  grind
 |pure=>rfl
def aiY(h:U4 P t=ab):dW P t=aa (.agg #[]):=by
 unfold U4 at h
 grind
def aFU(hJ:JQQ Cx P O R X V E G)(hn:O.length=V.n)(ho:o.op=.lookup t m key ab)(hu:P.underlying t=aa (.map kt et))(hz:U4 P et=ab)
 (hs:(Ru kt (cJ P d V t m) (cJ P d V kt key) V k).sat P C Q K O):eJ Cx P C Q K O E V.ln k (cV P E d o G):=by
 have v8:=aiY hz;unfold Ru at hs;split at hs<;>try cases hs
 rename_i j ke hm hk;split at hs<;>try cases hs
 rename_i uo rO hj;split at hs<;>try exact hs.elim
 rename_i mH;rw[VM,VH]at mH;have⟨mH,iR⟩:=mH;have IC:=ZR mH;subst IC;have iR:¬rL kt=ab:=aI;have⟨⟨u,hu0⟩,h,hh,hs⟩:=hs;have uE:=b_ hJ d t m;have Xq:=b_ hJ d kt key;rw[hm]at uE;have⟨id,rM,oY,g1,g2,g3⟩:=uE;rw[hj]at g2;cases g2;rw[aY iR]at g3;have⟨kv,a1,a2⟩:=Hq hJ Xq hk;have gp:=hJ.obj j _ hj;rw[oj,aY iR]at gp;have⟨bY,es,clock,ds,c1,c2,c3,c4,c5⟩:=gp;rw[g1]at c2;cases c2;have sN:=c1;have Ck:=a1
 have hg:∃q,gY P kt ds kv=aa q/\(q=ah\/∃i a,q=aa i/\ds[i]?=aa (.aU [a,.agg []])):=by
  simp only[SE.den,sN,Ck,Z8]at hu0
  grind
 have⟨q,hq,G_⟩:=hg;have⟨kk,e1,e2,e3,e4,e5⟩:=Bs c5.1 hq es.isEmpty;have hkr:=KX e1 a2;simp only[SE.den,sN,Ck,Z8,hq,ZO,ZY]at hh;subst hh;have cC:=hJ.up (lP:=aM P (O++[.bool q.isSome])) λe y h=>SE.eI P e h;have Wa:entriesOf G (aT (E d) m)=aa es:=by rw[g3];simp[entriesOf,c4]
 have nK:aN P 0 (aT (E d)) o G=aa (.val (.aU [.agg [],.raw (.bool q.isSome)]) G):=by
  simp only[aN,ho,hu,Wa,hkr,e2,e4,v8];rcases G_ with rfl|⟨i,a,rfl,hd⟩
  .rfl
  .obtain⟨e,h6,_⟩:=e5 i rfl;have⟨z',h8,h9⟩:=All2.get c5.1 h6 hd;obtain⟨_,rfl⟩:=h8;simp[ret,h6,aqS h9]
 refine⟨.aU [.agg [],.raw (.bool q.isSome)],G,R,X,.tu [(ab,[]),(af,[.v (.var V.n)])],{V with n:=V.n+1},[.bool q.isSome],nK,cC,⟨_,rfl,⟨[],rfl,trivial⟩,⟨_,rfl,.raw (.bool q.isSome),?_,.raw _,rfl⟩,trivial⟩,aI,rfl,hs⟩;simp[SE.den,<-hn]
def aGf(hJ:JQQ Cx P O R X V E G)(hn:O.length=V.n)(ho:o.op=.lookup t m key ok)(hu:P.underlying t=aa (.map kt et))
 (hs:(Rt P kt et (cJ P d V t m) (cJ P d V kt key) ok V k).sat P C Q K O):eJ Cx P C Q K O E V.ln k (cV P E d o G):=by
 unfold Rt at hs;split at hs<;>try cases hs
 rename_i j ke zs n hm hk zE hnn;split at zE<;>try grind
 rename_i arr v8;split at hs<;>try cases hs
 rename_i uo rO hj;split at hs<;>try exact hs.elim
 rename_i mH;rw[VM,VH]at mH;have⟨mH,iR⟩:=mH;have IC:=ZR mH;subst IC;have iR:¬rL kt=ab:=aI;have⟨z,hz,hs⟩:=hs;have uE:=b_ hJ d t m;have Xq:=b_ hJ d kt key;rw[hm]at uE;have⟨id,rM,oY,g1,g2,g3⟩:=uE;rw[hj]at g2;cases g2;rw[aY iR]at g3;have⟨kv,a1,a2⟩:=Hq hJ Xq hk;have gp:=hJ.obj j _ hj;rw[oj,aY iR]at gp;have⟨bY,es,clock,ds,c1,c2,c3,c4,c5⟩:=gp;rw[g1]at c2;cases c2;have sN:=c1;have Ck:=a1;have⟨zys,y1,y2⟩:=Oi hJ zE (uA (R:=R) (X:=X) (L:=V.l) (G:=G) v8);have aBg:=ig y1;simp only[Value.cells]at y2;have aEX:lift (.agg arr)=.agg (arr.toList.map .raw):=rfl
 have hg:∃q,gY P kt ds kv=aa q/\∃cs,z=.agg cs/\cs.length=n/\cs.all Ev.aw=ab/\((q=ah/\cs=zys)\/∃i a,q=aa i/\ds[i]?=aa (.aU [a,.agg cs])):=by
  simp only[SE.den,sN,Ck,aBg,Z8]at hz
  grind
 obtain⟨q,hq,cs,rfl,kW,Od,G_⟩:=hg;have⟨kk,e1,e2,e3,e4,e5⟩:=Bs c5.1 hq es.isEmpty;have hkr:=KX e1 a2;have cC:=hJ.up (lP:=aM P (O++[.agg cs])) λe y h=>SE.eI P e h;have Wa:entriesOf G (aT (E d) m)=aa es:=by rw[g3];simp[entriesOf,c4]
 have nK:∃xs,All2 (bZ ab R G) xs cs/\aN P 0 (aT (E d)) o G=aa (.val (if ok then .aU [.agg xs,.raw (.bool q.isSome)]else .agg xs) G):=by
  rcases G_ with⟨rfl,rfl⟩|⟨i,a,rfl,hd⟩
  .exists _,y2
   simp_all[aN,ret]
  .obtain⟨e,h6,_⟩:=e5 i rfl;have⟨z',h8,h9⟩:=All2.get c5.1 h6 hd;obtain⟨_,rfl⟩:=h8;have⟨xs,EX,xG⟩:=Og h9;exists xs,xG
   simp_all[aN,ret]
 have⟨xs,pA,nK⟩:=nK
 have mb:∀(I:aj IV) (m0:Nat),O.length=m0->All2 (dT (aM P (O++(.agg cs::I))) R X V.l G) xs ((YF n).map λj=>.w ab (.bt (.var m0) j)):=by
  intro I m0 JM;refine .mk (by simp[pA.len,kW]) λi a b h1 h2=>?_;have hi:=(Z5.1 h1).1;rw[pA.len]at hi;rw[Z7,ND ak]at h2;simp only[ZO,ZY]at h2;subst h2;have PK:=UN hi;have bM:=(US.1 Od) _ (Z4 hi);exact⟨cs[i],by simp[SE.den,<-JM,PK,yA,bM],pA.get h1 PK,bM⟩
 cases ok with
 |false=>
  exact⟨.agg xs,G,R,X,.ag _,{V with n:=V.n+1},[.agg cs],nK,cC,⟨xs,rfl,mb [] V.n hn⟩,aI,rfl,hs⟩
 |true=>
  have⟨h,hh,hs⟩:=hs;have aiZ:=SE.eI P rO (I:=[.agg cs]) sN;have ai0:=SE.eI P ke (I:=[.agg cs]) Ck;simp only[SE.den,aiZ,ai0,Z8,hq,ZO,ZY]at hh;subst hh;rw[ZZ]at hs;have gD:=cC.up (lP:=aM P (O++([.agg cs]++[.bool q.isSome]))) (λe y h=>by rw[<-ZZ];exact SE.eI P e h);refine⟨.aU [.agg xs,.raw (.bool q.isSome)],G,R,X,.tu [(ab,_),(af,[.v (.var (V.n+1))])],{V with n:=V.n+1+1},[.agg cs]++[.bool q.isSome],nK,gD,⟨_,rfl,⟨xs,rfl,mb [.bool q.isSome] V.n hn⟩,⟨_,rfl,.raw (.bool q.isSome),?_,.raw _,rfl⟩,trivial⟩,aI,rfl,hs⟩;simp[SE.den,<-hn]
def adv(hJ:JQQ Cx P O R X V E G)(hn:O.length=V.n)(ho:o.op=.lookup t m key ok)(hs:(lx P d o V k).sat P C Q K O):eJ Cx P C Q K O E V.ln k (cV P E d o G):=by
 simp only[lx,ho]at hs;split at hs<;>try cases hs
 rename_i kt et hu;split at hs
 .rename_i bM;simp only[VM]at bM;obtain⟨rfl,hz⟩:=bM;exact aFU hJ hn ho hu hz hs
 split at hs
 .exact aGf hJ hn ho hu hs
 unfold aat at hs;split at hs<;>try cases hs
 rename_i j ke z0 hm hk v8;split at hs<;>try cases hs
 rename_i uo rO hj;split at hs<;>try exact hs.elim
 rename_i mH;rw[VM,VH]at mH;have⟨mH,iR⟩:=mH;have IC:=ZR mH;subst IC;have iR:¬rL kt=ab:=aI;have⟨z,hz,hs⟩:=hs;have⟨xO,RE⟩:=uC hz;have uE:=b_ hJ d t m;have Xq:=b_ hJ d kt key;rw[hm]at uE;have⟨id,rM,oY,g1,g2,g3⟩:=uE;rw[hj]at g2;cases g2;rw[aY iR]at g3;have⟨kv,a1,a2⟩:=Hq hJ Xq hk;have gp:=hJ.obj j _ hj;rw[oj,aY iR]at gp;have⟨bY,es,clock,ds,c1,c2,c3,c4,c5⟩:=gp;rw[g1]at c2;cases c2;have sN:=c1;have Ck:=a1;have⟨v0,y1,y2,y3⟩:=aiX (O:=O) v8
 have hg:∃q,gY P kt ds kv=aa q/\∃u,z=.raw u/\((q=ah/\u=v0)\/∃i a,q=aa i/\ds[i]?=aa (.aU [a,.raw u])):=by
  simp only[SE.den,sN,Ck,y2,Z8]at xO;cases hq:gY P kt ds kv with
  |none=>grind
  |some q=>
   exists q,rfl;rw[hq]at xO;cases q with
   |none=>
    grind
   |some i=>
    simp only at xO;split at xO
    .simp only[Z8]at xO;split at xO
     .rename_i hr;cases xO;cases z<;>simp only[aZ]at hr<;>try (cases hr;done)
      grind
     grind
    grind
 obtain⟨q,hq,u,rfl,G_⟩:=hg;have⟨kk,e1,e2,e3,e4,e5⟩:=Bs c5.1 hq es.isEmpty;have hkr:=KX e1 a2;have cC:=hJ.up (lP:=aM P (O++[.raw u])) λe y h=>SE.eI P e h;have oZ:(SE.var V.n).den P (O++[.raw u])=aa (.raw u):=by simp[SE.den,<-hn]
 have Wa:entriesOf G (aT (E d) m)=aa es:=by rw[g3];simp[entriesOf,c4]
 have nK:aN P 0 (aT (E d)) o G=aa (.val (if ok then .aU [.raw u,.raw (.bool q.isSome)]else .raw u) G):=by
  simp only[aN];rcases G_ with⟨rfl,rfl⟩|⟨i,a,rfl,hd⟩
  .simp_all[ret]
  .obtain⟨e,h6,_⟩:=e5 i rfl;have⟨z',h8,h9⟩:=All2.get c5.1 h6 hd;obtain⟨_,rfl⟩:=h8;have:=dH h9
   simp_all[ret]
 cases ok with
 |false=>
  exact⟨.raw u,G,R,X,.one (.v (.var V.n)),{V with n:=V.n+1},[.raw u],nK,cC,⟨.raw u,oZ,.raw u,RE⟩,aI,rfl,hs⟩
 |true=>
  have⟨h,hh,hs⟩:=hs;have aiZ:=SE.eI P rO (I:=[.raw u]) sN;have ai0:=SE.eI P ke (I:=[.raw u]) Ck;simp only[SE.den,aiZ,ai0,Z8,hq,ZO,ZY]at hh;subst hh;rw[ZZ]at hs;have gD:=cC.up (lP:=aM P (O++([.raw u]++[.bool q.isSome]))) (λe y h=>by rw[<-ZZ];exact SE.eI P e h);refine⟨.aU [.raw u,.raw (.bool q.isSome)],G,R,X,.tu [(af,[.v (.var V.n)]),(af,[.v (.var (V.n+1))])],{V with n:=V.n+1+1},[.raw u]++[.bool q.isSome],nK,gD,⟨_,rfl,⟨_,rfl,.raw u,?_,.raw u,RE⟩,⟨_,rfl,.raw (.bool q.isSome),?_,.raw _,rfl⟩,trivial⟩,aI,rfl,hs⟩
  .simp[SE.den,<-hn]
  simp_all[SE.den]
def aaD{lo hi:SE}(h:(SE.sub s e lo hi).den P O=aa z):∃es a b l m q r,e.den P O=aa (.tree s es)/\lo.den P O=aa a/\hi.den P O=aa b/\a=.raw (.int q (l:Nat))/\b=.raw (.int r (m:Nat))/\l<=m/\m<=es.length/\z=.tree s ((es.take m).drop l):=by
 simp only[SE.den,ZS]at h;have⟨x,h1,a,h2,b,h3,h4⟩:=h;unfold wi at h4;split at h4<;>try grind
 rename_i s1 es;split at h4<;>try grind
 rename_i l m hl hm;split at h4<;>try grind
 rename_i hc;obtain⟨rfl,h5,h6,h7,h8⟩:=hc;cases h4;obtain⟨q,rfl⟩:=Oa hl;obtain⟨r,rfl⟩:=Oa hm;exact⟨es,_,_,l.toNat,m.toNat,q,r,h1,h2,h3,aI,aI,h6,h8,rfl⟩
def bZ.part{l m:Nat}{es:aj IV}(hu:P.underlying t=aa (.slice el))(cd:bD P el=aa s)(h:bZ fr R G x (.tree s es))(h1:l<=m)(h2:m<=es.length){lo hi:aF IV}
 (mS:∀id ay len c ep s',x=.sl id ay len (aa c) ep s'->len<=c)
 (yd:kR lo=aa (aa l)\/(kR lo=aa ah/\l=0))(hhi:kR hi=aa (aa m)\/(kR hi=aa ah/\m=es.length)):
 ∃x',iZ P t x lo hi ah=aa x'/\bZ fr R G x' (.tree s ((es.take m).drop l)):=by
 have⟨mW,ai1,ai2⟩:∃q:aF Nat,kR lo=aa q/\q.getD 0=l:=by
  grind
 have⟨cX,ai3,aqT⟩:∃q:aF Nat,kR hi=aa q/\∀n,n=es.length\/q≠ah->q.getD n=m:=by
  grind
 have JN:kR ah=aa ah:=rfl
 have hz:es.length=0->l=0/\m=0/\(es.take m).drop l=[]/\cX.getD 0=0:=by
  grind
 cases h with
 |nil _ hs=>
  obtain⟨z1,z2,z3,z4⟩:=hz rfl;refine⟨.raw (.slice ah 0 0),?_,by rw[z3];exact .nil s hs⟩;simp[iZ,ai1,ai3,JN,hu,cd,ai2,z1,z4]
 |emp _ hs=>
  obtain⟨z1,z2,z3,z4⟩:=hz rfl;refine⟨.emp,?_,by rw[z3];exact .emp s hs⟩;simp[iZ,ai1,ai3,JN,hu,cd,ai2,z1,z4]
 |pure _ hf hp=>
  refine⟨.tree s ((es.take m).drop l),?_,.pure _ hf ?_⟩
  .have:=aqT es.length (.inl rfl);simp[iZ,ai1,ai3,JN,hu,cd,ai2,this,h1,h2]
  .cases hp with
   |tree _ _ hh=>exact .tree s _ λe he=>hh e (TC (YM he))
 |sl id ay len cap ep _ m0 cs aV mn _ hR bx h3 h4 hs hl hb hm cD hh=>
  have G5:=aqT len (.inl hl.symm)
  have lk:∀Oj:aF Nat,bZ fr R G (.sl id (ay+l*s) (m- l) Oj ep s) (.tree s ((es.take m).drop l)):=λOj=>by
   refine .sl id (ay+l*s) (m- l) Oj ep s m0 cs aV mn _ hR bx h3 h4 hs aI ?_ hm (λe he=>cD e (TC (YM he))) λi e j c d' he hd hc=>?_
   .have:(m- l)*s+l*s<=len*s:=by rw[<-W6];exact XX s ak
    omega
   grind
  cases cap with
  |none=>
   refine⟨.sl id (ay+l*s) (m- l) ah ep s,?_,lk ah⟩;have:=G5
   simp_all[iZ]
  |some c=>
   by_cases hmc:m<=c
   .by_cases hc:c=l
    .refine⟨.emp,?_,?_⟩
     .simp_all[iZ]
     .have:(es.take m).drop l=[]:=by
       grind
      rw[this];exact .emp s hs
    simp_all[iZ]
   grind
def ai4:kR (aa (.raw (.int q (n:Nat))))=aa (aa n):=by
 rfl
variable{x:Xs}{mx:aF Xs}{c:Call}
def PL(hJ:JQQ Cx P O R X V E G){Uu:SE}{x:aF Xs}(h:N4 P d V Uu x=aa e)(he:e.den P O=aa (.raw (.int q (n:Nat)))):
 kR (x.map (aT (E d)))=aa (aa n)\/(kR (x.map (aT (E d)))=aa ah/\e=Uu):=by
 cases x with
 |none=>simp only[N4,ZY]at h;exact .inr ⟨rfl,h.symm⟩
 |some x=>
  simp only[N4]at h;split at h
  .rename_i e' hx;cases h;have hv:=b_ hJ d 3 x;rw[hx]at hv;have⟨y,h1,h2,_⟩:=hv;have ew:e.den P O=aa y:=h1;rw[he]at ew;cases ew;rw[ZO,dH h2];exact .inl ai4
  grind
def afR(hJ:JQQ Cx P O R X V E G)(hn:O.length=V.n)(ho:o.op=.slice t x lo hi mx)(hs:(Rw P d t (cJ P d V t x) lo hi mx V k).sat P C Q K O):eJ Cx P C Q K O E V.ln k (cV P E d o G):=by
 unfold Rw at hs;split at hs<;>try cases hs
 rename_i el c hu hx;have Fb:=b_ hJ d t x;rw[hx]at Fb;split at hs<;>try cases hs
 rename_i s cd;split at hs
 .rename_i j l _;split at hs<;>try cases hs
  rename_i s' cut fr es e hj he;split at hs<;>try exact hs.elim
  rename_i oG;have Iz:=ZR oG;subst Iz;have⟨⟨z,hz⟩,hs⟩:=hs;obtain⟨me,a,b,n,m,q,r,h1,h2,h3,rfl,rfl,h4,h5,rfl⟩:=aaD hz
  have hm:m=me.length:=by
   have⟨s0,rO,h6,h7⟩:=Mp h3
   grind
  subst hm;have hl:=b_ hJ d 3 l;rw[he]at hl;have⟨y,y1,y2,_⟩:=hl;have TL:e.den P O=aa y:=y1;rw[h2]at TL;cases TL;have iU:=dH y2;have⟨s1,sM,Ec,Ea,z1,oY,b1,b2,b3⟩:=Fb;rw[hj]at b1;cases b1;have zF:es.den P O=aa (.tree s oY):=b2;rw[h1]at zF;cases zF;have hnn:nat? (.raw (.int q (n:Nat)))=aa n:=by rfl
  have aBh:kR (aa (aT (E d) l))=aa (aa n):=by rw[iU];rfl
  have JN:kR ah=aa ah:=rfl
  have fin:∀x',iZ P t (aT (E d) x) (aa (aT (E d) l)) ah ah=aa x'->(Rg X G j s cut n me.length x'\/(n=me.length/\x'=.emp))->eJ Cx P C Q K O E V.ln k (cV P E d o G):=λx' g1 g2=>by
   refine .at (x:=x') hs hJ hn rfl ⟨s,af,cut,fr,es,me,_,n,hj,h1,h2,hnn,h4,g2⟩ ?_;simp[cV,aN,ho,g1,ret]
  rcases b3 with⟨c1,c2,c3⟩|⟨id,cs,aV,mn,cap,c1,c2,c3,c4,c5,c6⟩
  .have pO:n=0:=ak;rcases c3 with c3|c3
   .refine fin (.raw (.slice ah 0 0)) ?_ (.inl (.inl ⟨c1,c2,.inl rfl⟩))
    simp_all[c3,iZ]
   simp_all[iZ]
  .cases cap with
   |none=>
    refine fin (.sl id (n*s) (me.length- n) ah aV s) ?_ (.inl (.inr ⟨id,cs,aV,mn,ah,c1,c2,rfl,h4,c5,λc hc=>aI⟩))
    simp_all[iZ]
   |some c=>
    obtain⟨d1,d2,d3⟩:=c6 c rfl;by_cases hc:c=n
    .refine fin .emp ?_ (.inr ⟨ak,rfl⟩)
     simp_all[iZ]
    .refine fin (.sl id (n*s) (me.length- n) (aa (c- n)) aV s) ?_ (.inl (.inr ⟨id,cs,aV,mn,aa (c- n),c1,c2,rfl,h4,(λh=>aI),λc' sF=>?_⟩))
     .rw[c3];have:me.length<=c:=ak;simp[iZ,aBh,JN,hu,cd,h4,hc,this]
     .have aBi:c- n=c':=aI;subst aBi;refine⟨d1,?_,ak⟩;have:n*s+(c- n)*s=c*s:=by rw[<-W6];grind
      omega
 .rename_i c lo hi c0 lo0 Kw b0 _;split at hs<;>try cases hs
  rename_i fr z V2 iQ;split at hs<;>try exact hs.elim
  rename_i le he hl hh
  have Xe:Ng V c=aa (fr,z,V2):=by
   grind
  have⟨R',g1,g2,g3⟩:=KT hJ Xe;have⟨y,g4,g5,_⟩:=g3 _ Fb;have DU:O.length=V2.n:=by rw[g1.2.1];omega
  have⟨w,w1,w2,w3,w4,w5⟩:=yD g2 DU hs;obtain⟨me,a,b,l,m,q,r,h1,h2,h3,rfl,rfl,h4,h5,rfl⟩:=aaD w1;rw[g4]at h1;cases h1
  have mS:∀id ay len c1 ep s',aT (E d) x=.sl id ay len (aa c1) ep s'->len<=c1:=by
   intro id ay len c1 ep s' oF;split at iQ<;>try grind
   .have⟨y',_,q2,_⟩:=Fb;rw[oF]at q2;contradiction
   .have⟨_,q2⟩:=Fb
    grind
   .obtain⟨s1,sM,Ec,Ea,z1,oY,b1,b2,⟨_,_,b3|b3⟩|⟨bY,cs,aV,mn,cap,sN,c2,c3,c4,c5,c6⟩⟩:=Fb
    all_goals grind
  have yd:kR (lo.map (aT (E d)))=aa (aa l)\/(kR (lo.map (aT (E d)))=aa ah/\l=0):=by
   refine(PL hJ hl h2).imp_right λ⟨e1,e2⟩=>⟨e1,?_⟩
   grind [SE.den]
  have hhi:kR (hi.map (aT (E d)))=aa (aa m)\/(kR (hi.map (aT (E d)))=aa ah/\m=me.length):=by
   refine(PL hJ hh h3).imp_right λ⟨e1,e2⟩=>⟨e1,?_⟩;subst e2;have⟨s0,rO,h6,h7⟩:=Mp h3
   grind
  have⟨x',k1,k2⟩:=g5.part (t:=t) (el:=el) hu cd h4 h5 mS yd hhi;refine⟨x',G,R',X,.one (.w fr (.var V2.n)),{V2 with n:=V2.n+1},[.tree s ((me.take m).drop l)],?_,w4,⟨_,w3,k2,rfl⟩,w5,g1.2.2.1,w2⟩;simp[cV,aN,ho,k1,ret]
def DF(hJ:JQQ Cx P O R X V E G){x:IV}(h:xm pv=aa e)(hx:VR (aM P O) R X L G x pv):∀y,e.den P O=aa y->bZ ab R G x y:=by
 intro y hy;unfold xm at h;split at h<;>cases h
 .have⟨u,h1,h2,_⟩:=hx;have ew:e.den P O=aa u:=h1;rw[hy]at ew;cases ew;exact h2.mono hJ.Fs
 .have⟨u,h1,h2,_⟩:=hx;have ew:e.den P O=aa u:=h1;rw[hy]at ew;cases ew;exact h2.dI
def afS(hJ:JQQ Cx P O R X V E G)(hn:O.length=V.n)(ho:o.op=.index t x ix)(hs:(lx P d o V k).sat P C Q K O):eJ Cx P C Q K O E V.ln k (cV P E d o G):=by
 simp only[lx,ho]at hs;split at hs<;>try exact hs.elim
 rename_i a b hu ha hb;have Xr:=DF hJ ha (b_ hJ d t x);have hxb:=DF hJ hb (b_ hJ d 0 ix);have⟨⟨z,hz⟩,hk⟩:=hs;have v8:=hz;simp only[SE.den,ZS]at hz;have⟨u,h1,v,h2,h3⟩:=hz;split at h3<;>try grind
 split at h3<;>try grind
 rename_i pO;rw[Lq]at h3;obtain⟨c,h4,rfl⟩:=h3;exact .at (x:=.raw (.int .u8 c.toNat)) hk hJ hn rfl ⟨_,v8,.raw _,rfl⟩ (by unfold cV aN;rw[ho];simp only[hu,dH (Xr _ h1),dH (hxb _ h2),aW pO,h4];rfl)
def adK{b:IV}{vs:aj ZQ}(h:nJ [a,b]=aa vs):∃u v,a=.raw u/\b=.raw v:=by
 cases a<;>simp[nJ]at h
 grind
def aqU(hJ:JQQ Cx P O R X V E G)(hn:O.length=V.n)(ho:o.op=.call c)(hc:c.callee=.builtin .max)(hs:(mxS ab (mK P d V c.args.toList c.argTypes.toList) V k).sat P C Q K O):eJ Cx P C Q K O E V.ln k (cV P E d o G):=by
 unfold mxS at hs;split at hs<;>try cases hs
 rename_i pa pb cj;split at hs<;>try exact hs.elim
 rename_i a b ha ua;have cQ:=lB hJ d c.args.toList c.argTypes.toList;rw[cj]at cQ;have⟨x,y,hxy,hx,hy⟩:=Oe cQ;have Xr:=DF hJ ha hx;have hxb:=DF hJ ua hy;have⟨⟨z,hz⟩,hk⟩:=hs;have⟨h1,bM⟩:=uC hz;simp only[SE.den,ZS]at h1;have⟨w,⟨u,h2,v,h3,h4⟩,h5⟩:=h1;split at h5<;>cases h5;rename_i oq
 have av0:∃u' v',u=.raw u'/\v=.raw v':=by
  simp only[if_true]at h4;unfold QW at h4;split at h4
  .exact adK ‹_›
  grind
 obtain⟨u',v',rfl,rfl⟩:=av0;have oF:=dH (Xr _ h2);have hy':=dH (hxb _ h3)
 have hzr:lr z z:=by
  cases z<;>simp only[aZ]at oq<;>try grind
  exact .raw _
 refine .here (pv:=.one (.v (.ok (.rw (.mx ab a b))))) (x:=z) ?_ hJ ⟨z,hz,hzr,bM⟩ hn rfl hk
 simp_all[cV,aN,gI]
def ai5(h:isStr P t=ab):P.underlying t=aa .string:=by
 grind [isStr]
def adw(hJ:JQQ Cx P O R X V E G)(hn:O.length=V.n)(ho:o.op=.slice t x lo hi mx)(hu:P.underlying t=aa .string)(hs:(N5 P d (cJ P d V t x) lo hi mx V k).sat P C Q K O):eJ Cx P C Q K O E V.ln k (cV P E d o G):=by
 unfold N5 at hs;split at hs<;>try cases hs
 rename_i a ha;split at hs<;>try exact hs.elim
 rename_i l h hl hh;have⟨z,hz,hs⟩:=hs;have Xr:=DF hJ ha (b_ hJ d t x);have v8:=hz;simp only[SE.den,ZS]at hz;have⟨u,h1,b,h2,c,h3,h4⟩:=hz;split at h4<;>try (cases h4;done)
 rename_i q lv hv e1 e2;split at h4<;>try (cases h4;done)
 rename_i hc;cases h4
 have hint:∀{w:IV} {n:Int},lz w=aa n->0<=n->∃k,w=.raw (.int k (n.toNat:Nat)):=by
  intro w n h h0;unfold lz at h;split at h
  .cases h;exact⟨_,by rw[Int.toNat_of_nonneg h0]⟩
  .cases h
 obtain⟨k1,rfl⟩:=hint e1 hc.1;obtain⟨k2,rfl⟩:=hint e2 hc.2.2.1
 have n1:kR (lo.map (aT (E d)))=aa (aa lv.toNat)\/(kR (lo.map (aT (E d)))=aa ah/\lv.toNat=0):=by
  rcases PL hJ hl h2 with g|⟨g,rfl⟩
  .exact .inl g
  .refine .inr ⟨g,?_⟩;simp only[SE.den,ZY,IV.raw.injEq,aJU]at h2;omega
 have n2:kR (hi.map (aT (E d)))=aa (aa hv.toNat)\/(kR (hi.map (aT (E d)))=aa ah/\hv.toNat=q.size):=by
  rcases PL hJ hh h3 with g|⟨g,rfl⟩
  .exact .inl g
  .refine .inr ⟨g,?_⟩;simp only[SE.den,h1,Z8,DC,ZY,IV.raw.injEq,aJU]at h3;omega
 have hx:=dH (Xr _ h1);have JN:kR ah=aa ah:=rfl;have cC:=hJ.up (lP:=aM P (O++[.raw (.string ⟨((q.data.toList.drop lv.toNat).take (hv.toNat- lv.toNat)).toArray⟩)])) λe y h=>SE.eI P e h;refine⟨.raw (.string ⟨((q.data.toList.drop lv.toNat).take (hv.toNat- lv.toNat)).toArray⟩),G,R,X,.one (.v (.var V.n)),{V with n:=V.n+1},[_],?_,cC,⟨_,by simp[SE.den,<-hn],.raw _,rfl⟩,by simp[hn],rfl,hs⟩
 have cd:iZ P t (.raw (.string q)) (lo.map (aT (E d))) (hi.map (aT (E d))) ah=aa (.raw (.string ⟨((q.data.toList.drop lv.toNat).take (hv.toNat- lv.toNat)).toArray⟩)):=by
  rcases n1 with g1|⟨g1,g2⟩<;>rcases n2 with g3|⟨g3,g4⟩
  .simp[iZ,g1,g3,JN,hu,hc.2.1,hc.2.2.2]
  .simp[iZ,g1,g3,JN,hu];rw[<-g4];have:=hc.2.1;omega
  .simp[iZ,g1,g3,JN,hu,g2,hc.2.2.2]
  .simp[iZ,g1,g3,JN,hu,g2,g4]
 simp[cV,aN,ho,hx,cd,ret]
def afT(hJ:JQQ Cx P O R X V E G)(hn:O.length=V.n)(ho:o.op=.range t x)(hs:(lx P d o V k).sat P C Q K O):eJ Cx P C Q K O E V.ln k (cV P E d o G):=by
 simp only[lx,ho]at hs;split at hs<;>try exact hs.elim
 .rename_i a hu ha;have Xr:=DF hJ ha (b_ hJ d t x);have⟨⟨z,hz⟩,hk⟩:=hs;simp only[SE.den,ZS]at hz;have⟨u,h1,h2⟩:=hz
  have hb:∃ba,u=.raw (.string ba):=by
   unfold DC at h2;split at h2
   .exact⟨_,rfl⟩
   .cases h2
  obtain⟨ba,rfl⟩:=hb;have hv:=dH (Xr _ h1);have cC:=hJ.oW (.uW ba 0) (.mp 0 (.tp (.ac a (.ac (.i 0) .an)))) (by rw[oj,aW (show rL 0=ab from rfl)];exact .inl ⟨rfl,G.n,ba,0,by simp[SE.den,h1],by simp[cY],hJ.ur,az⟩);refine .at (x:=.ptr G.n 0 0 1) (V1:={V with l:=V.l++[.mp 0 (.tp (.ac a (.ac (.i 0) .an)))]}) hk cC hn rfl ⟨G.n,0,SE.tp (.ac a (.ac (.i 0) .an)),by simp[cY],az,rfl⟩ ?_;simp[cV,aN,ho,hu,hv,ret]
 .rename_i _ _ _ _ hu;have uE:=b_ hJ d t x;split at hs<;>try cases hs
  rename_i m hm;rw[hm]at uE;split at hs<;>try cases hs
  rename_i kt rO hj;split at hs
  .cases hs
  rename_i mH;simp only[P6,not_or]at mH;have⟨iR,aq⟩:=mH;have aq:m<1000000:=by simpa using aq
  have⟨_,hk⟩:=hs;have⟨id,rM,oY,g1,g2,g3⟩:=uE;rw[hj]at g2;cases g2;rw[aY iR]at g3;have gp:=hJ.obj m _ hj;rw[oj,aY iR]at gp;have⟨bY,es,clock,ds,c1,c2,c3,c4,c5,c6⟩:=gp;rw[g1]at c2;cases c2;have sN:=c1;have bf:=All2.len c5;have aqV:=aqt t m aq;have hit:=KK (ale t m);have G5:=(Z5.1 hj).1
  have cC:=hJ.oW (.na (aa id) clock [] clock) (.mp ((t+1)*1000000+m) (.tp (.ac rO (.ac rO .an)))) (by
   rw[oj,aW hit];refine .inr ⟨ale t m,G.n,id,ds,[],ds,[],by simp[SE.den,sN],by simp[cY],hJ.ur,⟨kt,rO,by rw[aqV,VJ G5];exact hj⟩,by rw[aqV];simp[cY,show m≠V.l.length by omega,g1],?_,az,Left.init ds,.inl rfl⟩;have:=c6.1;simp[this,bf])
  refine .at (x:=.ptr G.n 0 0 1) (V1:={V with l:=V.l++[.mp ((t+1)*1000000+m) (.tp (.ac rO (.ac rO .an)))]}) hk cC hn rfl ⟨G.n,(t+1)*1000000+m,SE.tp (.ac rO (.ac rO .an)),by simp[cY],az,(aW hit).symm⟩ ?_;simp[cV,aN,ho,hu,g3,c4,ret]
variable{x:IV}{it:Xs}
def aaE(hJ:JQQ Cx P O R X V E G)(hy:e.den P O=aa y)(hx:bZ ab R G x y){k:au}(hs:(Pu P t e k).sat P C Q K O):zA (aM P O) R X V.l G x (Tq P t e)/\k.sat P C Q K O:=by
 unfold Pu at hs;unfold Tq;split at hs
 .rename_i ha;rw[aW ha];have⟨⟨z,hz⟩,hk⟩:=hs;refine⟨?_,hk⟩;simp only[SE.den,hy,Z8]at hz;split at hz<;>try grind
  rename_i cs;split at hz
  .rename_i hc;obtain⟨xs,rfl,pA⟩:=Og hx;refine⟨xs,rfl,.mk (by simp_all[pA.len]) λi a b h1 h2=>?_⟩;have hi:=(Z5.1 h1).1;rw[pA.len]at hi;rw[Z7,ND ak]at h2;simp only[ZO,ZY]at h2;subst h2;have PK:=UN hi;have bM:=(US.1 hc.2) _ (Z4 hi);exact⟨cs[i],by simp[SE.den,hy,PK,yA,bM],pA.get h1 PK,bM⟩
  grind
 .rename_i ha;rw[aY ha];split at hs
  .rename_i rN;rw[aW rN];have⟨⟨z,hz⟩,hk⟩:=hs;refine⟨?_,hk⟩;have⟨xO,RE⟩:=uC hz;simp only[SE.den,hy,Z8]at xO;split at xO
   .rename_i hr;cases xO;cases y<;>simp only[aZ]at hr<;>try grind
    rename_i u;have:=dH hx;subst this;exact⟨_,rfl,.raw u,hz,.raw u,RE⟩
   grind
  .rename_i rN;rw[aY rN];have⟨⟨z,hz⟩,hk⟩:=hs;refine⟨?_,hk⟩;have⟨xO,RE⟩:=uC hz;rw[hy]at xO;cases xO;exact⟨_,rfl,_,hz,hx,RE⟩
def ai6(v:ZQ):bZ ab R G (lift v) (lift v):=by
 unfold lift;split
 .exact .pure _ rfl (.agg _ λc hc=>by obtain⟨v,_,rfl⟩:=List.mem_map.1 hc;exact .raw v)
 all_goals exact .raw _
def afU(hJ:JQQ Cx P O R X V E G)(hn:O.length=V.n)(ho:o.op=.entry it)(hs:(lx P d o V k).sat P C Q K O):eJ Cx P C Q K O E V.ln k (cV P E d o G):=by
 unfold lx at hs;simp only[ho]at hs;unfold afF at hs;have uE:=b_ hJ d 0 it;split at hs<;>try cases hs
 rename_i j hm;rw[hm]at uE;split at hs<;>try cases hs
 rename_i kt x hj;split at hs
 rotate_left
 .cases hs
 have hle:1000000<=kt:=jw;split at hs<;>try cases hs
 rename_i rM rO kt1 et hjm hu;split at hs
 .cases hs
 rename_i iR;have⟨sH,r,d1,d2,hs⟩:=hs;have hit:=KK hle;have⟨id,kt3,x3,g1,g2,g3⟩:=uE;rw[hj]at g2;cases g2;rw[aW hit]at g3;have gp:=hJ.obj j _ hj;rw[oj,aW hit]at gp;rcases gp with⟨h0,_⟩|⟨_,bY,m,ds,seen,rem,aE,e1,e2,e3,e4,e5,e6,e7,e8,e9⟩
 .grind
 rw[g1]at e2;cases e2;have dt:x.den P O=aa (.aU (.aU ds::.aU rem::aE)):=e1;rw[dt]at d2;have Hf:ds=sH:=aI;have Xt:=hJ.obj _ _ hjm;rw[oj,aY iR]at Xt;have⟨WL,es,clock,Wx,c1,c2,c3,c4,c5,c6⟩:=Xt;rw[e5]at c2;cases c2;have sN:rO.den P O=aa (.aU Wx):=c1;rw[sN]at d1;have Hf:ds=Wx:=aI;subst Hf;have bf:=All2.len c5;rcases e9 with rfl|⟨i,last,rfl,f1,f2⟩
 .unfold Pu at hs;exfalso;have hp:(SE.proj (.proj x 2) 0).den P O=ah:=by simp[SE.den,dt]
  split at hs
  .have⟨⟨z,hz⟩,_⟩:=hs;simp[SE.den,dt]at hz
  .repeat' split at hs
   all_goals (have⟨⟨z,hz⟩,_⟩:=hs;simp[SE.den,dt]at hz)
 .have hi:i<es.length:=aI;have Ko:=UN hi;have⟨z,h1,h2⟩:=All2.get c5 Ko f2;subst h1;have hp0:(SE.proj (.proj x 2) 0).den P O=aa (lift es[i].1):=by simp[SE.den,dt]
  have pP:(SE.proj (.proj x 2) 1).den P O=aa z:=by simp[SE.den,dt]
  have⟨v1,hs⟩:=aaE hJ hp0 (ai6 _) hs;have⟨v2,hs⟩:=aaE hJ pP h2 hs;refine .here (pv:=.tu [_,_]) (x:=.aU [lift es[i].1,es[i].2.1]) ?_ hJ ⟨_,rfl,v1,v2,trivial⟩ hn rfl hs
  have hf:es.find? (λe=>e.2.2==i)=aa es[i]:=by
   rw[List.find?_eq_some_iff_getElem];refine⟨by simp[c6.2 i _ Ko],i,hi,rfl,λq hq=>?_⟩;have:=c6.2 q es[q] (UN ak)
   grind
  have kW:clock=ds.length:=by rw[<-bf];exact c6.1
  simp[cV,aN,ho,g3,e6,c4,f1,hf,kW,ret]
def afV(hJ:J Cx (aM P O) R X V.g V.l E G)(hn:O.length=V.n)(hj:V.l[j]?=aa (.mp 0 rO)){ba:ByteArray}{p p':Nat}(mE:X j=aa id)(hR:R id=ah)(bx:G.at id=aa (.uW ba p)):
 J Cx (aM P (O++[.aU [.raw (.string ba),.raw (.int .i64 (p':Nat))]])) R X V.g (V.l.set j (.mp 0 (.var V.n))) E (G.put id (.uW ba p')):=by
 have cC:=hJ.up (lP:=aM P (O++[.aU [.raw (.string ba),.raw (.int .i64 (p':Nat))]])) (λe y h=>SE.eI P e h)
 exact(cC.wh (R':=R) (bad:=λ_=>False) (mW:=.mp 0 (.var V.n)) (gO:=.uW ba p') mE hj (λ_ _=>rfl)
  (λm hm=>by rw[hR]at hm;cases hm) (λm _ _ _ hm=>by rw[hR]at hm;cases hm) (λm _ _ _ hm=>by rw[hR]at hm;cases hm)
  (λ_ h=>by cases h) (λ_ _ _=>by rename_i h;cases h;exact⟨_,rfl⟩) (λ_ _ _ _ _ h=>by cases h) (λ_ _ pv _=>pv.bP) (λ_ o _ _=>o.bP)
  (λiP=>by rw[oj,aW (show rL 0=ab from rfl)];exact .inl ⟨rfl,id,ba,p',by simp[SE.den,<-hn],mE,hR,by rw[St.eF,aW rfl]⟩)).2
def ai7(hJ:JQQ Cx P O R X V E G)(hn:O.length=V.n)(ho:o.op=.next it ab)(hs:(lx P d o V k).sat P C Q K O):eJ Cx P C Q K O E V.ln k (cV P E d o G):=by
 simp only[lx,ho]at hs;split at hs<;>try cases hs
 rename_i j hm;split at hs<;>try cases hs
 rename_i kt es hj;split at hs<;>try exact hs.elim
 rename_i mH;have IC:=ZR mH;subst IC;have uE:=b_ hJ d 0 it;rw[hm]at uE;have⟨id,rM,oY,g1,g2,g3⟩:=uE;rw[hj]at g2;cases g2;rw[aW (show rL 0=ab from rfl)]at g3;have gp:=hJ.obj j _ hj;rw[oj,aW (show rL 0=ab from rfl)]at gp;rcases gp with⟨_,bY,ba,p,c1,c2,c3,c4⟩|⟨h0,_⟩
 rotate_left
 .omega
 rw[g1]at c2;cases c2;have sN:=c1
 have hd:∀w,(SE.dec w (.proj es 0) (.proj es 1)).den P O=kS w (.raw (.string ba)) (.raw (.int .i64 (p:Nat))):=by
  simp_all[SE.den]
 rcases hs with⟨h0,hs⟩|⟨h0,hs⟩
 .rw[hd]at h0;simp[kS]at h0;have⟨z,hz,hs⟩:=hs
  have vF:z=.aU [.raw (.string ba),.raw (.int .i64 ((p+(Nf ba p).2:Nat):Nat))]:=by
   have:=hd 2;simp only[SE.den]at this hz
   simp_all[kS]
  subst vF;have gD:=afV (p':=p+(Nf ba p).2) hJ hn hj g1 c3 c4;have e1:(SE.proj es 1).den P (O++[.aU [.raw (.string ba),.raw (.int .i64 ((p+(Nf ba p).2:Nat):Nat))]])=aa (.raw (.int .i64 (p:Nat))):=SE.eI P _ (by simp[SE.den,sN]);have e2:(SE.dec 1 (.proj es 0) (.proj es 1)).den P (O++[.aU [.raw (.string ba),.raw (.int .i64 ((p+(Nf ba p).2:Nat):Nat))]])=aa (.raw (.int .i32 (Nf ba p).1)):=SE.eI P _ (by rw[hd];rfl);refine⟨.aU [.bool ab,.raw (.int .i64 (p:Nat)),.raw (.int .i32 (Nf ba p).1)],_,R,X,.tu [(af,[.v (.b ab)]),(af,[.v (.proj es 1)]),(af,[.v (.dec 1 (.proj es 0) (.proj es 1))])],{V with n:=V.n+1,l:=V.l.set j (.mp 0 (.var V.n))},[_],?_,gD,⟨_,rfl,⟨_,rfl,.raw (.bool ab),rfl,.raw _,rfl⟩,⟨_,rfl,_,e1,.raw _,rfl⟩,⟨_,rfl,_,e2,.raw _,rfl⟩,trivial⟩,aI,rfl,hs⟩;simp[cV,aN,ho,g3,c4,h0,ret]
 .rw[hd]at h0;simp[kS]at h0;refine .here (pv:=.tu [(af,[.v (.b af)])]) (x:=.aU [.bool af]) ?_ hJ ⟨_,rfl,⟨_,rfl,.raw (.bool af),rfl,.raw _,rfl⟩,trivial⟩ hn rfl hs;have:¬p<ba.size:=ak;simp[cV,aN,ho,g3,c4,this,ret]
def av1(h:kS 7 x (.raw (.bool b))=aa z):∃q c,x=.raw (.int q c)/\0<=c/\c<=1000000:=by
 unfold kS at h
 grind
def Ol(hJ:JQQ Cx P O R X V E G)(hx:VR (aM P O) R X V.l G x pv)(h:xm pv=aa e):∃y,e.den P O=aa y/\bZ ab R G x y:=by
 unfold xm at h;split at h<;>try grind
 .cases h;have⟨y,h1,h2,_⟩:=hx;exact⟨y,h1,h2.mono hJ.Fs⟩
 .cases h;have⟨y,h1,h2,_⟩:=hx;exact⟨y,h1,h2.dI⟩
def aqW{p:IV}(h:kS 10 x p=aa z):∃q c,x=.raw (.int q c)/\0<=c/\c<=1000000/\z=.tree 1 (Xp c.toNat p):=by
 unfold kS at h
 grind
def afW{l c:Xs}(hJ:JQQ Cx P O R X V E G)(hn:O.length=V.n)(ho:o.op=.makeSlice t l c)(hs:(Zq P d t l c V k).sat P C Q K O):eJ Cx P C Q K O E V.ln k (cV P E d o G):=by
 unfold Zq at hs;split at hs
 rotate_left
 .rename_i el ce hu hc _;split at hs<;>try cases hs
  rename_i le s z ze bytes hl cd zE hze Nn;split at hs<;>try exact hs.elim
  rename_i dj;simp only[VM]at dj;have⟨⟨⟨⟨h0,h1⟩,h3⟩,h4⟩,h5⟩:=dj;have ew:=ZR h1;subst ew;have PC:bytes<=1000000:=by simpa using h3
  have:=SE.eq_eq h0;subst this;have⟨v,e1,e2,e3⟩:=afO (O:=O) hze;rw[zE]at e1;cases e1;have⟨y,hy,hk⟩:=hs;simp only[SE.den,ZS]at hy;have⟨nv,n1,zv,n2,n3⟩:=hy;rw[e2]at n2;cases n2;have⟨yl,l1,l2⟩:=Ol hJ (b_ hJ d 0 l) hl;have⟨yc,c1,c2⟩:=Ol hJ (b_ hJ d 0 c) hc;rw[n1]at l1 c1;cases l1;cases c1;obtain⟨q,m,rfl,m1,m2,rfl⟩:=aqW n3;have iU:=dH l2;have hcv:=dH c2
  have Xo:nZ (z.cells.toList.map .raw) (m.toNat*1)=Xp m.toNat (.raw z):=by
   simp[nZ,e3]
  have bM:Ev.aw (.raw z)=ab:=by simpa[e3]using h5
  have qv:(SE.var V.n).den P (O++[.tree 1 (Xp m.toNat (.raw z))])=aa (.tree 1 (Xp m.toNat (.raw z))):=by simp[SE.den,<-hn]
  have cC:=hJ.up (lP:=aM P (O++[.tree 1 (Xp m.toNat (.raw z))])) λe y h=>SE.eI P e h;by_cases JM:m=0
  .subst JM;have alq:=qv
   refine⟨.emp,_,R,_,.one (.sr V.l.length),{V with n:=V.n+1,l:=V.l++[.row 1 af af af (.var V.n)]},[.tree 1 (Xp (0:Int).toNat (.raw z))],?_,(cC.DE (s:=1) (fr:=af) (z:=.var V.n) ak alq).2,
    ⟨1,af,af,af,.var V.n,[],az,alq,.inl ⟨z8 hJ (XS _),rfl,.inr rfl⟩⟩,by simp[hn],rfl,hk⟩
   simp only[cV,aN,ho,hu,iU,hcv,cd,zE,Nn];rw[aY (by simp[e3];omega),aW trivial];rfl
  have gD:=cC.oW (.cells (Xp m.toNat (.raw z)) 0 0) (.row 1 af af af (.var V.n)) ⟨ak,_,qv,λe he=>(by rw[M6 he];rfl),.inr ⟨G.n,(Xp m.toNat (.raw z)),0,0,by simp[cY],az,XS _,az,hJ.ur,US.2 λx hx=>(by rw[M6 hx];exact bM),λj x d hx hd=>by
   have oF:=M6 (ZU hx)
   have E8:d=.raw z:=by
    have hm:=ZU hd;have⟨e,he,hde⟩:=XC.1 hm;rw[M6 he]at hde;simpa[aD]using hde
   rw[oF,E8];exact .raw _⟩⟩
  refine⟨.sl G.n 0 m.toNat (aa m.toNat) 0 1,_,R,_,.one (.sr V.l.length),{V with n:=V.n+1,l:=V.l++[.row 1 af af af (.var V.n)]},[.tree 1 (Xp m.toNat (.raw z))],?_,gD,
   ⟨1,af,af,af,_,_,az,qv,.inr ⟨G.n,(Xp m.toNat (.raw z)),0,0,aa m.toNat,by simp[cY],az,az,UT _,λh=>(by cases h),λc hc=>(by cases hc;exact⟨rfl,az,az⟩)⟩⟩,by simp[hn],rfl,hk⟩
  simp only[cV,aN,ho,hu,iU,hcv,cd,zE,Nn];rw[aY (by simp[e3];omega),aY JM,Xo];rfl
 .cases hs
 rename_i el ce hu hl hc;split at hs<;>try cases hs
 rename_i s z bytes cd zE Nn;split at hs<;>try exact hs.elim
 rename_i dj;simp only[VM]at dj;have⟨⟨⟨h1,h2⟩,h3⟩,h4⟩:=dj;have we:=ZR h2;have PC:bytes<=1000000:=by simpa using h3
 have dc:0<s:=by
  rcases Nat.eq_zero_or_pos s with h|h
  .subst h;simp at h1
  .exact h
 have⟨⟨u,hu0⟩,hk⟩:=hs;have iU:=b_ hJ d 0 l;rw[hl]at iU;have⟨y0,b1,b2,_⟩:=iU
 have Cm:y0=.raw (.int .i64 0):=by
  have:=b1;simp only[SE.den,ZY]at this;exact this.symm
 subst Cm;have hle:=dH b2;have⟨y,c1,c2⟩:=Ol hJ (b_ hJ d 0 c) hc;simp only[SE.den,c1]at hu0;obtain⟨q,n,rfl,d1,d2⟩:=av1 hu0;have A8:=dH c2;have qv:(SE.tr s SE.an).den P O=aa (.tree s []):=by simp[SE.den,dc]
 have rU:(V.l++[LO.row s af af af (SE.tr s SE.an)])[V.l.length]?=aa (.row s af af af (SE.tr s SE.an)):=az;by_cases pO:n=0
 .subst pO;refine .at (x:=.emp) (V1:={V with l:=V.l++[.row s af af af (.tr s .an)]}) hk (hJ.DE (fr:=af) dc qv).2 hn rfl ⟨s,af,af,af,_,[],rU,qv,.inl ⟨z8 hJ (XS _),rfl,.inr rfl⟩⟩ ?_;simp only[cV,aN,ho,hu,hle,A8,cd,zE,Nn];rw[aY ak,aW trivial];rfl
 .have Xo:nZ (z.cells.toList.map .raw) (n.toNat*s)=(Xp n.toNat (z.cells.toList.map IV.raw)).flatten:=Of (by simp[we]) dc _
  have bf:(nZ (z.cells.toList.map .raw) (n.toNat*s)).length=n.toNat*s:=by
   rw[Xo];simp[we]
  have lX:(nZ (z.cells.toList.map .raw) (n.toNat*s)).all Ev.aw=ab:=by
   rw[Xo];refine US.2 λx hx=>?_;have⟨l',dq,oF⟩:=List.mem_flatten.1 hx;have:=M6 dq;subst this;exact(US.1 h4) x oF
  refine .at (x:=.sl G.n 0 0 (aa n.toNat) 0 s) (V1:={V with l:=V.l++[.row s af af af (.tr s .an)]}) hk (hJ.oW (.cells (nZ (z.cells.toList.map .raw) (n.toNat*s)) 0 0) _ ⟨dc,[],qv,λe he=>(by cases he),.inr ⟨G.n,(nZ (z.cells.toList.map .raw) (n.toNat*s)),0,0,by simp[cY],az,XS _,az,hJ.ur,lX,λj x d hx hd=>by simp[flat]at hd⟩⟩) hn rfl ⟨s,af,af,af,_,[],rU,qv,.inr ⟨G.n,(nZ (z.cells.toList.map .raw) (n.toNat*s)),0,0,aa n.toNat,by simp[cY],az,az,XS _,λh=>(by cases h),λc hc=>?_⟩⟩ ?_
  .cases hc;exact⟨rfl,by rw[bf];simp,UT _⟩
  .simp only[cV,aN,ho,hu,hle,A8,cd,zE,Nn];rw[aY ak,aY pO];rfl
def ai8(hJ:JQQ Cx P O R X V E G){ob:Ob}(h:G.at id=aa ob):G.put id ob=G:=by
 have:=Go.Ev.T.WF.ext (hJ.wf.set _ _) hJ.wf λi=>by
  show(G.put id ob).at i=G.at i;rw[St.eF]
  grind
 simp_all[St.put]
variable{x:Xs}
def adx(hJ:JQQ Cx P O R X V E G)(hn:O.length=V.n)(ho:o.op=.slice t x lo hi mx)(hz:WS P d t (cJ P d V t x) lo hi mx V k=aa f)(hs:f.sat P C Q K O):eJ Cx P C Q K O E V.ln k (cV P E d o G):=by
 unfold WS at hz;split at hz<;>try (cases hz;done)
 rename_i el c mW cX h hu hx;have Fb:=b_ hJ d t x;rw[hx]at Fb;split at hz<;>try (cases hz;done)
 .rename_i s s' hh cd;split at hz<;>try (cases hz;done)
  rename_i oG;have:=ZR oG;subst this;cases hz;have hhv:=b_ hJ d 3 h;rw[hh]at hhv;have⟨y,y1,y2,_⟩:=hhv;simp only[SE.den,ZY]at y1;subst y1;have S7:=dH y2;have⟨h0,h1⟩:=Fb;refine .at (x:=.raw (.slice ah 0 0)) hs hJ hn rfl ⟨h0,rfl⟩ ?_;simp[cV,aN,ho,h1,S7,iZ,kR,hu,cd,ret]
 .rename_i s j hh cd;split at hz<;>try (cases hz;done)
  rename_i s' cut fr es hj;split at hz<;>try (cases hz;done)
  rename_i oG;have:=ZR oG;subst this;cases hz;have hhv:=b_ hJ d 3 h;rw[hh]at hhv;have⟨y,y1,y2,_⟩:=hhv;simp only[SE.den,ZY]at y1;subst y1;have S7:=dH y2;have⟨⟨z,hz⟩,hk⟩:=hs;have⟨s1,sM,Ec,Ea,z1,me,b1,b2,b3⟩:=Fb;rw[hj]at b1;cases b1;have zF:es.den P O=aa (.tree s me):=b2
  have cg:me≠[]:=by
   rintro rfl;simp[SE.den,zF,cu,lz]at hz
  have bf:1<=me.length:=by
   cases me with
   |nil=>exact bH rfl cg
   |cons=>simp
  rcases b3 with⟨_,c2,_⟩|⟨id,cs,aV,mn,cap,c1,c2,c3,c4,c5,c6⟩
  .omega
  have⟨dc,oY,d1,d2,d3⟩:=hJ.obj j _ hj;have d1':es.den P O=aa (.tree s oY):=d1;rw[zF]at d1';cases d1';rcases d3 with⟨_,d3⟩|⟨bY,cL,oi,wg,g1,g2,g3,g4,g5,g6,g7⟩
  .exact bH d3 cg
  rw[c1]at g1;cases g1;rw[c2]at g2;cases g2;have hR:R id=ah:=by simpa using g5
  have qv:(SE.tr s SE.an).den P O=aa (.tree s []):=by simp[SE.den,dc]
  have hjd:(V.l.map (LO.drop j))[j]?=aa (.row s af cut fr es):=by simp[hj,LO.drop]
  have cC:=(hJ.acP j).wh (R':=R) (bad:=(·=j)) (mW:=.row s af ab fr (.tr s .an)) (gO:=.cells cs aV mn) c1 hjd (λ_ _=>rfl) (λm hm=>by rw[hR]at hm;cases hm) (λm _ _ _ hm=>by rw[hR]at hm;cases hm) λm _ _ _ hm=>by rw[hR]at hm;cases hm
   (λ_ h=>by cases h) (λ_ _ h=>by cases h) (λ_ _ _ _ _ _=>rfl) (λd t pv hg=>by obtain⟨q,_,rfl⟩:=KB _ hg;exact q.ra j) (λi o hi _=>by
    rw[Z7]at hi;obtain⟨o',_,rfl⟩:=Lq.1 hi;exact o'.ra j)
   λ_=>⟨dc,[],qv,λe he=>(by cases he),.inr ⟨id,cs,aV,mn,c1,by rw[St.eF,aW rfl],g3,az,hR,g6,λj x d hx hd=>by simp[flat]at hd⟩⟩
  have gD:=cC.2;rw[ai8 hJ c2]at gD
  have rU:((V.l.map (LO.drop j)).set j (LO.row s af ab fr (SE.tr s SE.an)))[j]?=aa (.row s af ab fr (SE.tr s SE.an)):=by
   rw[List.getElem?_set,aW rfl,aW (by have:=(Z5.1 hj).1;simpa using this)]
  cases cap with
  |none=>
   refine .at (x:=.sl id 0 0 ah aV s) (V1:=(V.xL j).setObj j (.row s af ab fr (.tr s .an))) hk gD hn rfl ⟨s,af,ab,fr,_,[],rU,qv,.inr ⟨id,cs,aV,mn,ah,c1,c2,az,UT _,(λ_ h=>(by cases h)),λc hc=>by cases hc⟩⟩ ?_;simp[cV,aN,ho,c3,S7,iZ,kR,hu,cd,ret]
  |some m=>
   obtain⟨f1,f2,f3⟩:=c6 m rfl;have JM:m≠0:=ak;refine .at (x:=.sl id 0 0 (aa m) aV s) (V1:=(V.xL j).setObj j (.row s af ab fr (.tr s .an))) hk gD hn rfl ⟨s,af,ab,fr,_,[],rU,qv,.inr ⟨id,cs,aV,mn,aa m,c1,c2,az,UT _,(λh=>(by cases h)),λc hc=>by cases hc;exact⟨f1,ak,UT _⟩⟩⟩ ?_;simp[cV,aN,ho,c3,S7,iZ,kR,hu,cd,ret,JM]
def ai9(hJ:JQQ Cx P O R X V E G)(hn:O.length=V.n)(ho:o.op=.call c)(hc:c.callee=.builtin .cap)(hs:(lx P d o V k).sat P C Q K O):eJ Cx P C Q K O E V.ln k (cV P E d o G):=by
 simp only[lx,ho,hc]at hs;have cj:=lB hJ d c.args.toList c.argTypes.toList;split at hs<;>try cases hs
 rename_i s et hh hu;rw[hh]at cj;have⟨x,hx,hr⟩:=xr cj;have⟨_,h1⟩:=hr;refine .at (x:=.raw (.int .i64 0)) hs hJ hn rfl ⟨_,rfl,.raw _,rfl⟩ ?_;simp[cV,aN,ho,hc,gI,hx,h1,Zn,hu]
def aaF(hJ:JQQ Cx P O R X V E G)(hn:O.length=V.n)(hs:(lx P d o V k).sat P C Q K O):eJ Cx P C Q K O E V.ln k (cV P E d o G):=by
 cases ho:o.op with
 |makeFunc f first cap=>
  cases f with
  |func f=>exact aGn hJ hn ho hs
  |_=>simp only[lx,ho]at hs;cases hs
 |makeMap t r=>exact aF9 hJ hn ho hs
 |makeSlice t l c=>simp only[lx,ho]at hs;exact afW hJ hn ho hs
 |mapUpdate t m key x=>exact as_ hJ hn (.inl ho) hs
 |insert t m key x=>exact as_ hJ hn (.inr ho) hs
 |lookup t m key ok=>exact adv hJ hn ho hs
 |slice t x lo hi mx=>
  simp only[lx,ho]at hs;split at hs
  .exact adx hJ hn ho ‹_› hs
  split at hs
  .exact adw hJ hn ho (ai5 ‹_›) hs
  .exact afR hJ hn ho hs
 |index t x ix=>exact afS hJ hn ho hs
 |range t x=>exact afT hJ hn ho hs
 |next it str=>
  cases str with
  |true=>exact ai7 hJ hn ho hs
  |false=>simp only[lx,ho]at hs;cases hs
 |entry it=>exact afU hJ hn ho hs
 |call c=>
  cases hc:c.callee with
  |builtin b=>
   cases b with
   |cap=>exact ai9 hJ hn ho hc hs
   |max=>simp only[lx,ho,hc]at hs;exact aqU hJ hn ho hc hs
   |_=>simp only[lx,ho,hc]at hs;cases hs
  |_=>simp only[lx,ho,hc]at hs;cases hs
 |_=>simp only[lx,ho]at hs;cases hs
def anX(hJ:JQQ Cx P O R X V E G)(hn:O.length=V.n){op:BinOp}{y:Xs}(ho:o.op=.binOp op t x y yt)(hs:(jB P d o V k).sat P C Q K O):eJ Cx P C Q K O E V.ln k (cV P E d o G):=by
 simp only[jB,ho]at hs;have hx:=b_ hJ d t x;have hy:=b_ hJ d t y
 have rdv:∀{xv:IV} {a:SE},VR (aM P O) R X V.l G xv (.one (.v a))->∀z,a.den P O=aa z->bZ ab R G xv z:=by
  intro xv a ⟨u,h1,h2,_⟩ z hz;have ew:a.den P O=aa u:=h1;rw[hz]at ew;cases ew;exact h2.mono hJ.Fs
 have rdw:∀{xv:IV} {f:Bool} {a:SE},VR (aM P O) R X V.l G xv (.one (.w f a))->∀z,a.den P O=aa z->bZ ab R G xv z:=by
  intro xv f a ⟨u,h1,h2,_⟩ z hz;have ew:a.den P O=aa u:=h1;rw[hz]at ew;cases ew;exact h2.dI
 split at hs
 .rename_i cs ds A_ uc;rw[A_]at hx;rw[uc]at hy;split at hs
  .rename_i f1 a V1 f2 b V2 h1 h2;have⟨R1,a1,a2,_,a3⟩:=DD hJ h1;have⟨R2,b1,b2,_,b3⟩:=DD hJ h2;have⟨xs,EX,xG⟩:=hx;have⟨ys,Bi,JV⟩:=hy;have⟨us,c1,c2,_⟩:=a3 xs xG;have⟨vs,d1,d2,_⟩:=b3 ys JV;have⟨⟨z,hz⟩,hk⟩:=hs;have⟨h3,h4⟩:=uC hz;simp only[SE.den,ig c1,ig d1,Z8]at h3;have ha:bZ f1 R1 G (aT (E d) x) (.agg us):=by rw[EX];exact .agg xs us c2.len λi c e h1 h2=>c2.get h1 h2
   have hb:bZ f2 R2 G (aT (E d) y) (.agg vs):=by rw[Bi];exact .agg ys vs d2.len λi c e h1 h2=>d2.get h1 h2
   have h6:vM P op t x y (aT (E d) x) (aT (E d) y)=aa z:=by
    unfold dN at h3;split at h3
    .grind
    .rename_i u v cg hu hv;rw[Ix ha hu,Ix hb hv,aHc (x':=.func 0) (y':=.func 0) hu hv λhc=>cg hc];omega
    grind
   exact .at (x:=z) hk hJ hn rfl ⟨z,hz,aHV h6,h4⟩ (by simp[cV,aN,ho,h6,ret])
  .cases hs
 .rename_i a b A_ uc;rw[A_]at hx;rw[uc]at hy;exact PF hJ hn ho (rdv hx) (rdv hy) hs
 .rename_i f a b A_ uc;rw[A_]at hx;rw[uc]at hy;exact PF hJ hn ho (rdw hx) (rdv hy) hs
 .rename_i a f b A_ uc;rw[A_]at hx;rw[uc]at hy;exact PF hJ hn ho (rdv hx) (rdw hy) hs
 .rename_i f a g b A_ uc;rw[A_]at hx;rw[uc]at hy;exact PF hJ hn ho (rdw hx) (rdw hy) hs
 .cases hs
def afX(hJ:JQQ Cx P O R X V E G)(hn:O.length=V.n)(hs:(jB P d o V k).sat P C Q K O):eJ Cx P C Q K O E V.ln k (cV P E d o G):=by
 cases ho:o.op with
 |move x=>exact afH hJ hn (.inl ho) hs
 |assign x=>exact afH hJ hn (.inr ho) hs
 |pick c a b=>exact aiK hJ hn ho hs
 |alloc t=>exact afI hJ hn ho hs
 |box t x=>exact anR hJ hn ho hs
 |load t a=>exact aiN hJ hn ho hs
 |store t a x=>exact afJ hJ hn ho hs
 |nilCheck x=>exact aGN hJ hn ho hs
 |binOp op t x y yt=>exact anX hJ hn ho hs
 |unOp op t x=>exact aqL hJ hn ho hs
 |convert a b x=>exact aqM hJ hn ho hs
 |build t p=>exact afQ hJ hn ho hs
 |buildSlice t l p=>exact aGm hJ hn ho hs
 |fieldAddr s x f=>exact aGe hJ hn ho hs
 |field t x f=>exact afN hJ hn ho hs
 |indexAddr t x i=>exact aGH hJ hn ho hs
 |extract x i=>exact agn hJ hn ho hs
 |call c=>
  cases hc:c.callee with
  |builtin b=>
   by_cases hl:b=.len
   .subst hl;exact anV hJ hn ho hc hs
   .by_cases ha:b=.append
    .subst ha;exact adt hJ hn ho hc hs
    .simp only[jB,ho,hc]at hs;split at hs<;>first|grind|grind|cases hs|exact aaF hJ hn hs
  |value f=>simp only[jB,ho,hc]at hs;cases hs
  |invoke x n=>simp only[jB,ho,hc]at hs;cases hs
 |_=>simp only[jB,ho]at hs;exact aaF hJ hn hs
end Go.Ev

