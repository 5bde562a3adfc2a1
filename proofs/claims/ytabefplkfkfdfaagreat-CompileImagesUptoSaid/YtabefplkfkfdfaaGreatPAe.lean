/- Lemmas, a part of the proof; no conditions. -/
import Derived.Test.YtabefplkfkfdfaaGreatPAd
import Derived.Test.YtabefplkfkfdfaaGreatProg
import Derived.Shelf.Strings.Search3
import Derived.Laws.RangeAny
open Go.Ev.SE renaming den->UU
open Go renaming TypeId->VK,FuncId->V4
open Nat renaming beq->ZW,rec->WN
open List renaming length->VT
open Option renaming map_some->ZO,map_eq_some_iff->Lq
open Go.Proofs.Tryz renaming prog->Z2
open LT renaming lt->NC
open Go.IntKind renaming i64->QY,u8->aKT
open ByteArray renaming size->JZ
open Go.Proofs.Lays renaming n144->aK2
open Go.Lib renaming indexByte->YP
open Go.Utf8 renaming decode->Nf
open Classical renaming em->aKg
open Option renaming some->aa,none->ah
open Bool renaming true->ab,false->af
set_option linter.all false
def Z6:=@List.mem_map
def Xf:=@List.sizeOf_lt_of_mem
def ZN:=@List.take_succ_eq_append_getElem
def Wg:=@List.take_of_length_le
def Z3:=@List.mem_singleton
def Wk:=@List.map_nil
def YR:=@List.mem_append_left
def JU:=@List.mem_append_right
namespace Go.Ev
def RU:aj Nat->Nat
 |[]=>0
 |n::ns=>n+RU ns
def sQ:Nat->aj Nat->aj (LO SE)
 |_,[]=>[]
 |j,n::ns=>.var ((List.range n).map λq=>.v (.var (j+q)))::sQ (j+n) ns
def pX:Nat->aj Nat->aj (PV SE)
 |_,[]=>[]
 |k,n::ns=>.one (.pt k 0 n)::pX (k+1) ns
def Hv(V:SS):Nat->aj Nat->aF (aj SE)
 |_,[]=>aa []
 |k,n::ns=>match V.l[k]?,dk 0 k V.g with
  |some (.var ds),aa (.one (.pt k' 0 n'))=>if ZW k' k&&ZW n' n&&ZW ds.length n then(match Mf ds,Hv V (k+1) ns with
    |some es,aa r=>aa (fZ es::r)
    |_,_=>ah)else ah
  |_,_=>ah
section run
variable(P:Program)(cfg:fz)
def z_(n:Nat)(ns:aj Nat)(f:V4):au:=
 match P.funcs[f]? with
 |some fn=>match fn.body with
  |some c=>
   if Nat.ble fn.params.size fn.ntmps&&Nat.ble ns.length fn.params.size then
    yz P (RU ns) (fn.params.toList.drop ns.length)<|exec P cfg n [] af 1 f c
     ⟨setArgs 1 0 (pX 0 ns++mw P (RU ns) (fn.params.toList.drop ns.length))++setArgs 0 0 (pX 0 ns),sQ 0 ns,RU ns+(fn.params.size- ns.length),0,fn.ntmps⟩ λex V=>match ex with
     |.exit _=>.fail 151
     |.dh _ _=>.fail 146
     |_=>match xo P 1 V fn.results.toList with
      |some dM=>match BQ V (N7 dM),Hv V 0 ns with
       |some (_,z,_),aa os=>.ret (.tp (.ac (.rw z) (fZ os)))
       |_,_=>.fail 152
      |none=>.fail 153
   else .fail 154
  |none=>.fail 155
 |none=>.fail 156
end run
def aJ4{V:SS}:∀{ns:aj Nat} {k:Nat} {os:aj SE},Hv V k ns=aa os->os.length=ns.length/\∀(i n:Nat),ns[i]?=aa n->
 ∃es:aj SE,V.l[k+i]?=aa (.var (es.map .v))/\dk 0 (k+i) V.g=aa (.one (.pt (k+i) 0 n))/\es.length=n/\os[i]?=aa (fZ es)
 |[],k,os,h=>by
  simp_all[Hv]
 |m::ns,k,os,h=>by
  simp only[Hv]at h;split at h<;>try grind
  split at h<;>try grind
  rename_i hc;simp only[VM]at hc;have e1:=ZR hc.1.1;have e2:=ZR hc.1.2;have e3:=ZR hc.2;split at h<;>try grind
  rename_i es r q9 hr;have Hf:=Oh q9;have⟨h1,h2⟩:=aJ4 hr
  grind
def aIo:∀{ns:aj Nat} {k i:Nat} {pv:PV SE},(pX k ns)[i]?=aa pv->∃n,ns[i]?=aa n/\pv=.one (.pt (k+i) 0 n)
 |[],k,i,pv,h=>by contradiction
 |n::ns,k,0,pv,h=>by
  simp_all[pX]
 |n::ns,k,i+1,pv,h=>by
  simp only[pX]at h;have⟨m,h1,h2⟩:=aIo h
  grind
def IT:∀{ns:aj Nat} {k:Nat},(pX k ns).length=ns.length
 |[],_=>rfl
 |_::ns,k=>by simp[pX,IT (ns:=ns)]
def aIh:∀ins:aj (aj IV),RU (ins.map VT)=ins.flatten.length
 |[]=>rfl
 |c::ins=>by simp[RU,aIh ins]
variable{P:Program}
def ajn:∀{ins:aj (aj IV)} {pre post:aj IV} {i:Nat} {o:LO SE},(sQ pre.length (ins.map VT))[i]?=aa o->
 ∃(cs:aj IV) (ds:aj (Cl SE)),ins[i]?=aa cs/\o=.var ds/\DG (aM P (pre++ins.flatten++post)) ds cs
 |[],pre,post,i,o,h=>by contradiction
 |c::ins,pre,post,0,o,h=>by
  simp only[ZM,sQ,List.getElem?_cons_zero,ZY]at h;refine⟨c,_,rfl,h.symm,.mk az λq d u hd hu=>?_⟩;have hq:=(Z5.1 hu).1;simp only[Z7,List.getElem?_range hq,ZO,ZY]at hd;subst hd;exists _,rfl;show(SE.var _).den P _=_;simp only[UU];rw[ZZ,List.getElem?_append_right ak,List.flatten_cons,ZZ,VJ ak];rw[show pre.length+q- pre.length=q by omega];exact hu
 |c::ins,pre,post,i+1,o,h=>by
  simp only[ZM,sQ]at h;have hl:pre.length+c.length=(pre++c).length:=az;rw[hl]at h;have⟨cs,ds,h1,h2,h3⟩:=ajn (pre:=pre++c) (post:=post) h
  grind
def aIc{B:Type}{d t:Nat}{pv:PV B}:∀{a b:aj (Nat×Nat×PV B)},dk d t (a++b)=aa pv->dk d t a=aa pv\/dk d t b=aa pv
 |[],b,h=>.inr h
 |(d',t',p)::a,b,h=>by
  simp only[List.cons_append,dk]at h⊢;split at h
  .grind
  .rename_i hc;rw[aY hc];exact aIc h
variable{C:Cr}{G:St}{K:aj (aj IV->Prop)}{L:aj (LO SE)}{R:Rs}{X:Ph}{xs:aj IV}
def aID{Q:IV->Prop}{av pre:aj IV}{f:au}(hp:All2 lr av xs):∀{ts:aj VK} {j:Nat},(yz P (pre.length+j) ts f).sat P C Q K (pre++xs)->j+ts.length=xs.length->f.sat P C Q K (pre++xs)/\All2 (VR (aM P (pre++xs)) R X L G) (av.drop j) (mw P (pre.length+j) ts)
 |[],j,hs,hl=>by
  simp at hl;rw[ZX (by have:=hp.len;omega)];exact⟨hs,trivial⟩
 |t::ts,j,hs,hl=>by
  simp at hl;have hj:j<xs.length:=ak;have tj:j<av.length:=by have:=hp.len;omega
  have hd:(SE.var (pre.length+j)).den P (pre++xs)=aa xs[j]:=by simp[UU,hj]
  have⟨h1,h2⟩:=IK (R:=R) (X:=X) (L:=L) (G:=G) hd (hp.get (UN tj) (UN hj)) hs;have⟨h4,h5⟩:=aID (j:=j+1) hp h1 ak;exists h4;rw[UQ tj];exact⟨h2,h5⟩
def CJ:∀{ns:aj Nat} {j:Nat},(sQ j ns).length=ns.length
 |[],_=>rfl
 |_::ns,j=>by simp[sQ,CJ (ns:=ns)]
variable{z:IV}
def aFW{x:IV}{fr:Bool}(h:aZ z=ab)(hc:bZ fr R G x z):lr x z:=by
 cases z<;>simp only[aZ]at h<;>try grind
 rw[dH hc];exact .raw _
variable{ins:aj (aj IV)}
def aH4{ps:aj IV}{ev:SE->aF IV}(hP:KZ X ins ps)(hL:∀(i:Nat) (cs:aj IV),ins[i]?=aa cs->∃ds:aj (Cl SE),L[i]?=aa (LO.var ds)):
 All2 (VR ev R X L G) ps (pX 0 (ins.map VT)):=by
 refine .mk (by rw[IT,Ki,hP.1]) λi p pv hp vE=>?_;obtain⟨n,h1,rfl⟩:=aIo vE;rw[Z7]at h1;obtain⟨cs,cD,rfl⟩:=Lq.1 h1;obtain⟨id,h2,rfl⟩:=hP.2 i cs p cD hp;have⟨ds,Hf⟩:=hL i cs cD;rw[Yj];exact⟨id,ds,h2,Hf,rfl⟩
def IF.nu{cfg:fz}(fG:P.follows .mixedOrders=ab)(hC:lC P C){n:Nat}{f:V4}{dO:au}{outs:aj (aj IV)}(he:z_ P cfg n (ins.map VT) f=dO)
 (hl:(P.funcs[f]?).map (·.params.size)=aa (ins.length+xs.length))(hs:dO.sat P C (·=.aU (z::outs.map .agg)) [] (ins.flatten++xs)):IF P f ins xs outs z:=by
 subst he;unfold z_ at hs;split at hs<;>try exact hs.elim
 rename_i fn dX;split at hs<;>try exact hs.elim
 rename_i c hb;split at hs<;>try exact hs.elim
 rename_i hle;simp only[VM]at hle;have Ro:fn.params.size<=fn.ntmps:=by simpa using hle.1
 simp only[dX,ZO,ZY]at hl;have JO:(ins.map VT).length=ins.length:=az;have aBJ:=aIh ins;intro R X E G ps av oL hP cj KW Xu;have eG:=cj.len;have Cq:(fn.params.toList.drop (ins.map VT).length).length=xs.length:=by simp;omega
 have iv:=hP.1;rw[aBJ]at hs
 have hLV:∀(i:Nat) (cs:aj IV),ins[i]?=aa cs->∃ds:aj (Cl SE),(sQ 0 (ins.map VT))[i]?=aa (LO.var ds)/\DG (aM P (ins.flatten++xs)) ds cs:=λi cs hi=>by
  have aq:=(Z5.1 hi).1;have jV:i<(sQ 0 (ins.map VT)).length:=by rw[CJ];simpa using aq
  have hg:=UN jV;have⟨cL,ds,h1,h2,h3⟩:=ajn (P:=P) (pre:=[]) (post:=xs) hg;rw[hi]at h1;cases h1;exact⟨ds,by rw[hg,h2],by simpa using h3⟩
 obtain⟨iP,cQ⟩:=aID (j:=0) (pre:=ins.flatten) (R:=R) (X:=X) (L:=sQ 0 (ins.map VT)) (G:=G) cj (by rw[T3];exact hs) (by rw[Yj];exact Cq);rw[List.drop_zero,T3]at cQ
 have IS:=
  All2.app (aH4 hP λi cs hi=>by have⟨ds,h1,_⟩:=hLV i cs hi;exact⟨ds,h1⟩) cQ
 have bf:(ps++av).length<=fn.ntmps:=by simp;omega
 let E1:Nat->aK:=λj=>if j=0 then fV ps ps.length else fV (ps++av) fn.ntmps
 have hJ:J [] (aM P (ins.flatten++xs)) R X (setArgs 1 0 (pX 0 (ins.map VT)++mw P ins.flatten.length (fn.params.toList.drop (ins.map VT).length))++setArgs 0 0 (pX 0 (ins.map VT))) (sQ 0 (ins.map VT)) E1 G:=by
  refine⟨λd t pv hg=>?_,λj ob hj=>?_,oL.inj,λj id hj=>?_,oL.tC,oL.fits,oL.wf,oL.top⟩
  .rcases aIc hg with hg|hg
   .obtain⟨rfl,_,h3⟩:=rq (B:=IV) hg;have ht:t<(ps++av).length:=by rw[IS.len];have:=(Z5.1 h3).1;simpa using this
    show VR _ _ _ _ _ ((fV (ps++av) fn.ntmps).at t) pv;rw[(jd bf).2 ht,UN ht];exact IS.get (UN ht) (by simpa using h3)
   .obtain⟨rfl,_,h3⟩:=rq (B:=IV) hg;have PC:(pX 0 (ins.map VT))[t]?=aa pv:=by simpa using h3
    have ht:t<ps.length:=by have:=(Z5.1 PC).1;rw[IT]at this;simp at this;omega
    show VR _ _ _ _ _ ((fV ps ps.length).at t) pv;rw[(jd (XS _)).2 ht,UN ht];exact(aH4 hP λi cs hi=>by have⟨ds,h1,_⟩:=hLV i cs hi;exact⟨ds,h1⟩).get (UN ht) PC
  .have aq:j<ins.length:=by have:=(Z5.1 hj).1;rw[CJ]at this;simpa using this
   have cD:=UN aq;have⟨ds,h1,h2⟩:=hLV j _ cD;rw[hj]at h1;cases h1;have gp:(adB ins)[j]?=aa (.var (ins[j].map .v)):=by rw[Z7,cD];rfl
   have⟨id,dR,o1,o2,o3,o4⟩:=oL.obj j _ gp;refine⟨id,dR,o1,o2,o3,.mk (by rw[o4.len,Ki,h2.len]) λq x d hx hd=>?_⟩;have hq:q<ins[j].length:=by rw[<-h2.len];exact(Z5.1 hd).1
   obtain⟨e,rfl,he⟩:=h2.get hd (UN hq);have hcq:(ins[j].map Cl.v)[q]?=aa (.v ins[j][q]):=by rw[Z7,UN hq];rfl
   have⟨y,y1,y2,y3⟩:=o4.get hx hcq;cases y1;exact⟨_,he,y2,y3⟩
  .have:=oL.lt j id hj;exact⟨by rw[CJ];simpa using this.1,this.2⟩
 obtain⟨b,Mr⟩:=RS fG hC n [] af 1 f c ⟨setArgs 1 0 (pX 0 (ins.map VT)++mw P ins.flatten.length (fn.params.toList.drop (ins.map VT).length))++setArgs 0 0 (pX 0 (ins.map VT)),sQ 0 (ins.map VT),ins.flatten.length+(fn.params.size-(ins.map VT).length),0,fn.ntmps⟩ _ (ins.flatten++xs) [] R X E1 G
  (λN ex e1 aG=>(ex=.normal\/ex=.ret)/\aG.n<=N/\∃v,fv P fn e1 aG=aa v/\KW N v aG) ah [] (λ_=>rfl) iP hJ eE rfl (jd (t:=0) bf).1 (by
   intro ex V' I K' R' bA E' aB x0 hf yE cB
   have main:∀xw,xo P 1 V' fn.results.toList=aa xw->(match BQ V' (N7 xw),Hv V' 0 (ins.map VT)with
    |some (_,z,_),aa os=>au.ret (.tp (.ac (.rw z) (fZ os)))
    |_,_=>.fail 152).sat P C (·=IV.aU (z::outs.map IV.agg)) K' (ins.flatten++xs++I)->∃b,∀N,b<=N->aB.n<=N/\aB.n<=N/\∃v,fv P fn (E' 1) aB=aa v/\KW N v aB:=by
    intro xw hr ki;have⟨vs,h1,h2⟩:=va hf.hJ hr;have hv:=RL h2;split at ki<;>try exact ki.elim
    rename_i fr e _ os iQ t_;have⟨R2,y,h3,h4⟩:=ac4 hf.hJ iQ hv;obtain⟨w,h5,rfl⟩:=ki;simp only[UU,h3,Option.bind_some]at h5;have⟨cs,h6,h7⟩:=ZS.1 h5;have⟨y',h8,h6⟩:=ZS.1 h6;have⟨os',h9,h6⟩:=ZS.1 h6;obtain⟨ys,rfl,xP⟩:=RP h9;split at h8<;>try (cases h8;done)
    rename_i oq;cases h8;cases h6;obtain⟨rfl,rfl⟩:=h7;have⟨TI,ho2⟩:=aJ4 t_;have yd:outs.length=ins.length:=by have:=xP.len;rw[TI]at this;simp at this;omega
    have alx:∀(i:Nat) (cs:aj IV),outs[i]?=aa cs->∃es:aj SE,V'.l[i]?=aa (.var (es.map .v))/\All2 (λ(z:SE) y=>z.den P (ins.flatten++xs++I)=aa y) es cs/\∃id,bA i=aa id/\ps[i]?=aa (.ptr id 0 0 cs.length):=λi cs hi=>by
     have aq:=(Z5.1 hi).1;have jV:i<ins.length:=ak;obtain⟨es,a1,a2,a3,a4⟩:=ho2 i _ (by rw[Z7,UN jV];rfl);rw[Yj]at a1 a2;have hiy:(outs.map IV.agg)[i]?=aa (.agg cs):=by rw[Z7,hi];rfl
     have hd:=xP.get a4 hiy;have⟨us,vC,are⟩:=RP hd;cases vC;have Kk:=hf.hJ.slot 0 i _ a2;have⟨id,ds,s1,s2,s3⟩:=Kk;rw[hf.hE 0 ak]at s3;have Tx:i<ps.length:=ak
     have:(E1 0).at i=ps[i]:=by
      show(fV ps ps.length).at i=_;rw[(jd (XS _)).2 Tx,UN Tx];rfl
     rw[this]at s3;exists es,a1,are,id,s1;rw[UN Tx,s3,<-are.len,a3]
    obtain⟨b,hb⟩:=Xu (λ_=>ah) (λj=>if j<outs.length then bA j else ah) aB (K7 vs) (by
     refine⟨λd t pv hg=>(by cases hg),λj ob hj=>?_,λj j' id h1 h2=>?_,λj id hj=>?_,λid m hm=>(by cases hm),λid m cs aV mn hm=>(by cases hm),hf.hJ.wf,hf.hJ.top⟩
     .rw[Z7]at hj;obtain⟨cs,cD,rfl⟩:=Lq.1 hj;have aq:=(Z5.1 cD).1;have⟨es,a1,a2,id,a3,_⟩:=alx j cs cD;have⟨bY,dR,o1,o2,o3,o4⟩:=hf.hJ.obj j _ a1;refine⟨bY,dR,by simp[aq,o1],rfl,o3,.mk (by rw[o4.len,Ki,Ki,a2.len]) λq x c hx hc=>?_⟩;rw[Z7]at hc;obtain⟨u,hu,rfl⟩:=Lq.1 hc;have hq:q<es.length:=by rw[a2.len];exact(Z5.1 hu).1
      have hcq:(es.map Cl.v)[q]?=aa (.v es[q]):=by rw[Z7,UN hq];rfl
      have⟨y,y1,y2,y3⟩:=o4.get hx hcq;have TL:es[q].den P (ins.flatten++xs++I)=aa y:=y1;rw[a2.get (UN hq) hu]at TL;cases TL;exact⟨u,rfl,y2,y3⟩
     .split at h1<;>try (cases h1;done)
      split at h2<;>try (cases h2;done)
      exact hf.hJ.inj j j' id h1 h2
     .split at hj<;>try (cases hj;done)
      rename_i aq
      exact⟨by simpa using aq,(hf.hJ.lt j id hj).2⟩) ⟨ak,λi cs p hi hp=>by
       have aq:=(Z5.1 hi).1;have⟨_,_,_,id,a3,a4⟩:=alx i cs hi;rw[hp]at a4;cases a4;exact⟨id,by simp[aq,a3],rfl⟩⟩ (aFW oq h4)
    exact⟨max b aB.n,λN hN=>⟨ak,ak,K7 vs,uF h1,hb N ak⟩⟩
   cases ex with
   |exit i=>exact cB.elim
   |dh t pv=>exact cB.elim
   |normal=>
    obtain rfl:=yE;simp only at cB;split at cB<;>try cases cB
    rename_i xw hr;have⟨b,hb⟩:=main xw hr cB;exact⟨b,λN hN=>⟨(hb N hN).1,.inl rfl,(hb N hN).2⟩⟩
   |ret=>
    obtain rfl:=yE;simp only at cB;split at cB<;>try cases cB
    rename_i xw hr;have⟨b,hb⟩:=main xw hr cB;exact⟨b,λN hN=>⟨(hb N hN).1,.inr rfl,(hb N hN).2⟩⟩)
 exact⟨b,λN hN=>(eO.body (RW:=KW N) dX hb bf (Mr N hN))⟩
abbrev au.nt(e:SE)(a b:au):au:=.aQ e (.test e a b)
abbrev au.nr(e:SE):au:=.aQ e (.ret e)
abbrev au.nx(n:Nat)(e r:SE):au:=.aQ e (.next n (.ac e r))
abbrev o5(a b:Nat):SE:=.bt (.var a) b
abbrev ry(a b c:SE):SE:=.ac a (.ac b c)
abbrev nw(a:Nat):SE:=.ok (.var a)
abbrev T4(a:BinOp)(b:VK)(c d:SE):SE:=.ok (.bin a b c d)
abbrev Hw(a:BinOp)(b:VK)(c d:SE)(e f:au):au:=.nt (T4 a b c d) e f
abbrev fE(a b:SE)(c:au):au:=.aQ a (.aQ b c)
abbrev uG(a:SE)(b c:Nat)(d:SE):SE:=ry a (o5 b c) d
abbrev tG(a b:Nat):SE:=.len (o5 a b)
abbrev kI(a:SE):SE:=.ac a .an
abbrev J3(a b c d:Nat)(e:SE):SE:=uG (o5 a b) c d e
abbrev eY:SE:=.b af
abbrev tb(a b:Nat):SE:=.qG a (.var b)
abbrev qx(a:Nat)(b c:SE)(d:au):au:=.bind (.idx a b c) d
abbrev ajy(a:BinOp)(b:VK)(c:SE)(d:Int):SE:=T4 a b c (.i d)
abbrev arf(a:BinOp)(b:VK)(c:Nat)(d:Int):SE:=ajy a b (.var c) d
abbrev Aa(a:SE)(b:BinOp)(c:VK)(d e:SE)(f g:au):au:=.aQ a (Hw b c d e f g)
abbrev bJ:au:=.ret eY
abbrev kj(a:Nat):SE:=.len (nw a)
abbrev arh(a:Nat)(b:BinOp)(c:VK)(d:Nat)(e:Int)(f:SE):au:=.nx a (arf b c d e) f
abbrev bB:SE:=.i 0
abbrev o6(a:V4)(b:SE)(c:au):au:=.call a af b c
abbrev aBK(a:Nat)(b:VK)(c:Nat)(d:Int)(e:SE):au:=arh a .add b c d e
abbrev kT(a b:SE):SE:=ry a b .an
abbrev my(a:Nat)(b:SE)(c:Nat)(d:au):au:=qx a b (.var c) d
abbrev X4(a b:Nat):SE:=.proj (.var a) b
abbrev Em(a b:Nat)(c:au):au:=.aQ (tb a b) c
abbrev ik(a:Nat)(b:au):au:=.aQ (nw a) b
abbrev yH(a b c d e f g h:Nat)(i:SE):SE:=J3 a b c d (J3 e f g h i)
abbrev o7(a:Nat):SE:=kI (.var a)
abbrev yI(a:Nat):SE:=.tr a .an
abbrev GI(a b:Nat)(c d:SE)(e:au):au:=.bind (.cat a b c d) e
abbrev Ab(a:V4)(b:SE)(c:au):au:=o6 a (kI b) c
abbrev aBL(a b:Nat)(c:Int)(d:SE):au:=aBK a 3 b c d
abbrev Eo(a b:Nat)(c:SE):au:=aBL a b 1 c
abbrev jZ(a b c:SE):SE:=ry a b (kI c)
abbrev ari(a:UnOp)(b:SE):SE:=.ok (.un a b)
abbrev aBM(a:UnOp)(b:SE)(c d:au):au:=.nt (ari a b) c d
abbrev IU(a b c:Nat):au:=Eo a b (o7 c)
abbrev pH(a b c:Nat)(d:SE)(e:au):au:=GI a b (.var c) d e
abbrev X5(a:BinOp)(b:VK)(c d:Nat)(e:SE)(f g:au):au:=Hw a b (o5 c d) e f g
abbrev mY(a:SE)(b:BinOp)(c d:SE)(e f:au):au:=Aa a b 3 c d e f
abbrev fC(a:SE)(b c:au):au:=aBM .not a b c
abbrev ow(a:SE)(b:Nat):SE:=kT a (.var b)
abbrev bS:SE:=nw 0
abbrev bR:SE:=nw 1
abbrev Hu(a:SE):au:=.ret (.tp a)
abbrev Zi(a b:SE)(c:BinOp)(d e:SE)(f g:au):au:=.loop a (mY b c d e f g)
abbrev jG(a:Nat)(b:SE)(c d e:Nat)(f:au):au:=my a b c (Em d e f)
abbrev RV(a b c d:Nat):SE:=J3 a b c d .an
abbrev BV(a b:SE):au:=Hu (kT a b)
abbrev rz(a:BinOp)(b:VK)(c:Nat)(d:SE)(e f:au):au:=Hw a b (.var c) d e f
abbrev arj(a:SE)(b:BinOp)(c:VK)(d:Nat)(e:SE)(f g:au):au:=.loop a (rz b c d e f g)
abbrev uH(a b:Nat)(c:SE)(d:au):au:=fE (tb a b) c d
abbrev GJ(a:Nat):SE:=tG 0 a
abbrev ajz(a b:SE)(c:BinOp)(d:Nat)(e:SE)(f g:au):au:=Zi a b c (.var d) e f g
abbrev ark(a b c d:Nat)(e:SE)(f:au):au:=pH a b c (.tr d e) f
abbrev Ep(a:V4)(b:SE)(c:Nat)(d:au):au:=Ab a b (ik c d)
abbrev Ld(a:SE)(b:Nat):SE:=kT a (yI b)
abbrev fX:SE:=.b ab
abbrev je(a:Nat):SE:=o5 a 1
abbrev o8(a:Nat):SE:=.len (.var a)
abbrev Lf(a b c d e f g h i j k l:Nat):SE:=yH a b c d e f g h (RV i j k l)
abbrev jH(a b c d:Nat)(e:SE)(f:au):au:=ark a b c d (kI e) f
abbrev Er(a b:Nat):SE:=.ok (X4 a b)
abbrev Ad(a b:Nat):au:=Eo a b .an
abbrev Ae(a b c:Nat):SE:=.bt (X4 a b) c
abbrev ko:SE:=kI bB
abbrev uI(a b:SE)(c:Nat)(d:SE)(e f:au):au:=ajz a b .lss c d e f
abbrev Es(a b:SE)(c:Nat):SE:=jZ a b (yI c)
abbrev qy(a:BinOp)(b:SE)(c:Int):SE:=ajy a 3 b c
abbrev bW:SE:=nw 2
abbrev jr(a:SE)(b:au):au:=fC a bJ b
abbrev BW(a b:SE):SE:=ry a bB b
abbrev xx(a:SE)(b:VK)(c:Nat)(d:SE)(e f:au):au:=arj a .lss b c d e f
abbrev vS:SE:=.s []
abbrev xy(a:BinOp)(b c:Nat)(d:SE)(e f:au):au:=X5 a 3 b c d e f
abbrev dQ:SE:=kj 0
abbrev eM:au:=.ret fX
abbrev nP(a:V4)(b:SE)(c:au):au:=.call a ab b c
abbrev cw:SE:=nw 3
abbrev tc(a b:Nat):SE:=ow (.var a) b
abbrev vT(a:Nat):SE:=o5 a 2
abbrev uJ(a b c d:Nat)(e:SE):SE:=J3 a b c d (kI e)
abbrev eh:SE:=je 0
abbrev yJ:SE:=GJ 6
abbrev lV(a:Nat):SE:=o5 a 0
abbrev ej:SE:=.var 5
abbrev Lg(a:Nat)(b c:SE)(d e:Nat)(f:au):au:=qx a b c (Em d e f)
abbrev du:SE:=GJ 1
abbrev cK:SE:=nw 6
abbrev rA(a:BinOp)(b c:Nat)(d:Int)(e f:au):au:=xy a b c (.i d) e f
abbrev kq(a:V4)(b c:SE)(d:au):au:=o6 a (kT b c) d
abbrev arl(a:SE)(b:Nat):SE:=Es vS a b
abbrev BX(a:SE)(b:BinOp)(c:SE)(d e:au):au:=mY a b c bB d e
abbrev yK(a:SE)(b:BinOp)(c:SE)(d:Int)(e f:au):au:=mY a b c (.i d) e f
abbrev arn(a:BinOp)(b c:Nat)(d:Int):SE:=qy a (tG b c) d
abbrev BY(a:SE)(b:au)(c:SE)(d e:au):au:=.test a b (.test c d e)
abbrev dU:SE:=kj 1
abbrev gV:SE:=.var 2
abbrev ek:SE:=kj 6
abbrev tH(a:SE)(b:au):au:=.aQ (.rw a) b
abbrev IW:SE:=yI 4
abbrev AD(a:Nat):au:=Ad 0 a
abbrev r8(a:SE)(b:Nat)(c:SE):SE:=ry a (.var b) c
abbrev P_(a b c:Nat):SE:=RV a b c 1
abbrev kM(a b:Nat):SE:=P_ a 0 b
abbrev cS:SE:=nw 5
abbrev cT:SE:=nw 4
abbrev av_(a b c d e:Nat):SE:=uJ a b c d (vT e)
abbrev kN(a:Int):au:=.ret (.i a)
abbrev awa(a:SE)(b:VK)(c:Nat)(d:SE)(e:Nat)(f:SE)(g:Nat)(h i:au):au:=xx a b c d (my e f g h) i
abbrev awb(a b:SE)(c:Nat):SE:=BW a (arl b c)
abbrev Ve(a:SE)(b:Nat):SE:=awb a IW b
abbrev kO:SE:=.var 3
abbrev lZ(a:SE)(b:Nat)(c:SE)(d e:au):au:=uI ko a b c d e
abbrev iX(a:Nat):SE:=tG a 1
abbrev yL(a:Nat):SE:=Ld bB a
abbrev AE(a:BinOp)(b:SE)(c:Int)(d:au):au:=.aQ (qy a b c) d
abbrev Qa(a b c d e f g h:Nat):SE:=yH a b c d e f g h .an
abbrev awc(a:Nat):SE:=kM 0 a
abbrev gZ:SE:=awc 0
abbrev fN:SE:=vT 0
abbrev fw:SE:=GJ 3
abbrev oz(a:BinOp)(b c:Nat)(d e:au):au:=xy a b c bB d e
abbrev aly(a:VK)(b c:SE):SE:=.bin .lss a b c
abbrev wA(a b:Nat)(c:SE):SE:=r8 (.var a) b c
abbrev Fw(a:VK)(b c:SE)(d e:au):au:=Hw .eql a b c d e
abbrev jO(a:V4)(b c d:SE)(e:au):au:=Ab a b (fE c d e)
abbrev CK(a b:Nat):au:=IU 0 a b
abbrev fS:SE:=.var 4
abbrev qO:SE:=je 11
abbrev alz(a:BinOp)(b:SE)(c:Int)(d:au):au:=jr (qy a b c) d
abbrev Fx(a b:SE)(c:au):au:=fE a (.rw b) c
abbrev wB(a:SE):au:=.ret (.rw a)
abbrev alA(a:VK)(b:SE)(c:Int):SE:=aly a b (.i c)
abbrev alB(a b:Nat)(c:Int):SE:=arn .sub a b c
abbrev yM(a:Nat)(b:SE)(c:au):au:=uH a 0 b c
abbrev wC(a:Nat)(b:au):au:=yM a bR b
abbrev adT(a b c:Nat)(d:SE)(e:au):au:=jH a 96 b c d e
abbrev ny:SE:=lV 2
abbrev eu:SE:=nw 7
abbrev awd(a b:Nat)(c:SE)(d:au):au:=adT 7 a b c d
abbrev CL(a:Nat)(b:SE)(c:au):au:=awd a 7 b c
abbrev tI(a b:Nat):SE:=Ae a 0 b
abbrev awe(a b c d e f g h i j k:Nat):SE:=Lf a 0 b c d e f g h i j k
abbrev awf(a b c d e f g h i j:Nat):SE:=awe a b 1 c d e f g h i j
abbrev awg(a b c d e f g h i:Nat):SE:=awf a b c 2 d e f g h i
abbrev awh(a b c d e f g h:Nat):SE:=awg a b c d 3 e f g h
abbrev awi(a b c d e f g:Nat):SE:=awh a b c d e 4 f g
abbrev eB(a b c d e f:Nat):SE:=awi a b c d e f 5
abbrev CM(a:SE)(b:au):au:=fE bS a b
abbrev js:SE:=kj 3
abbrev awj(a b c d e f g:Nat):SE:=Qa a 0 b c d e f g
abbrev awk(a b c d e f:Nat):SE:=awj a b 1 c d e f
abbrev awl(a b c d e:Nat):SE:=awk a b c 2 d e
abbrev ff(a b c d:Nat):SE:=awl a b c d 3
abbrev l5(a:Int):SE:=.k .u8 a
abbrev AF:SE:=yI 1
abbrev awm(a:SE)(b c:Nat)(d:SE)(e:Nat):SE:=uG a b c (Ve d e)
abbrev awn(a:Nat)(b:SE)(c d:Nat)(e:SE)(f:Nat)(g:au):au:=CL a (awm b c d e f) g
abbrev CN(a b:Nat)(c:Int)(d e:au):au:=rA .eql a b c d e
abbrev ga:SE:=.var 8
abbrev wD(a b c d:Nat):au:=Eo a b (tc c d)
abbrev CO(a b c d e f:Nat)(g:au):au:=jG a (o5 b c) d e f g
abbrev Ms(a b:SE)(c:au):au:=Fx (.rw a) b c
abbrev vb(a:BinOp)(b:SE)(c:Int)(d:BinOp)(e:SE)(f:Int)(g:au):au:=AE a b c (alz d e f g)
abbrev gv:SE:=kj 2
abbrev kc(a:V4)(b:SE)(c:Nat)(d:SE)(e f:au):au:=Ep a b c (fC d e f)
abbrev gL:SE:=GJ 2
abbrev vc(a b:Nat)(c:Int)(d:au)(e f:Nat)(g:Int)(h i:au):au:=CN a b c d (CN e f g h i)
abbrev awo(a:SE)(b c:Nat)(d:Int)(e:au):au:=fE a (alB b c d) e
abbrev kP(a:au):au:=CM bR a
abbrev g_:SE:=.var 6
abbrev IX(a:Int):au:=.ret (l5 a)
abbrev IY(a b:SE):au:=BV (.rw a) b
abbrev CP(a b:SE)(c:Int)(d e:au):au:=yK a .gtr b c d e
abbrev awp(a b c d:Nat)(e:Int)(f:au):au:=awo (tG a b) c d e f
abbrev awq(a:SE)(b:Nat)(c:SE):au:=BV (arl a b) c
abbrev Qb(a:SE)(b:Int):au:=BV a (.i b)
abbrev iA:SE:=GJ 0
abbrev AG(a:V4)(b c d:SE)(e:au):au:=o6 a (jZ b c d) e
abbrev iC:SE:=.var 7
abbrev adU(a:au):au:=.aQ yJ a
abbrev awr(a b c:Nat)(d:au):au:=yM a (tb b c) d
abbrev Vf(a b c:Nat)(d:au):au:=uH a b (iX c) d
abbrev lE(a b c d e:SE):SE:=ry a b (ry c d e)
abbrev mL(a:Nat)(b:SE)(c:Nat)(d:SE)(e f:au):au:=uI (yL a) b c d e f
abbrev Fy(a:Nat):SE:=kI (je a)
abbrev kQ(a:Nat):SE:=Er a 1
abbrev IZ(a:BinOp)(b:Nat)(c:Int):SE:=arf a 3 b c
abbrev wE(a:Nat)(b:Int):SE:=IZ .sub a b
abbrev aws(a b c d:Nat):SE:=av_ a 0 b c d
abbrev ft(a b c:Nat):SE:=aws a b 1 c
abbrev awt(a:BinOp)(b c:Nat)(d:au):au:=oz a b c d bJ
abbrev FA(a:Nat)(b:Int)(c d:Nat)(e:SE)(f:Nat)(g:au):au:=awn a (.i b) c d e f g
abbrev awu(a:VK)(b:Int):SE:=alA a qO b
abbrev jt:SE:=lV 0
abbrev lF:SE:=.var 10
abbrev awv(a:Nat)(b:SE):au:=awq bB a b
abbrev aww(a:Nat):au:=awv a eY
abbrev adV(a b:SE)(c:Nat):SE:=BW a (Ld b c)
abbrev awx(a b:SE)(c:Nat)(d:Int):au:=Qb (adV a b c) d
abbrev awy(a:SE)(b:VK)(c:Nat)(d:SE)(e:Nat)(f:SE)(g h i:Nat)(j k:au):au:=xx a b c d (jG e f g h i j) k
abbrev pY(a b:SE)(c d:au):au:=BX a .lss b c d
abbrev FB(a:SE):SE:=.ok (.rw a)
abbrev awz(a:SE)(b:au):au:=Ms ny a b
abbrev FC(a:SE)(b:Nat)(c:Int)(d e:Nat)(f:SE)(g:Nat)(h:au):au:=awz a (FA b c d e f g h)
abbrev l6:au:=aww 1
abbrev I0(a:SE):SE:=kT bB a
abbrev h_:SE:=nw 8
abbrev qP(a:SE)(b:Nat)(c:SE)(d:Nat)(e:SE)(f:Nat)(g h:au):au:=awa a 3 b c d e f g h
abbrev kf:SE:=lV 1
abbrev Vh(a b:SE):au:=IY a (kI b)
abbrev mM:au:=AD 2
abbrev iD:SE:=nw 9
abbrev qQ:SE:=.i (-1)
abbrev pf(a:VK)(b c d:SE)(e:au):au:=.bind (.ins a b c d) e
abbrev adW:SE:=GJ 5
abbrev Mu(a:Int):SE:=kI (.i a)
abbrev wF(a:BinOp)(b c:SE)(d e:au):au:=Hw a 3 b c d e
abbrev Mv(a:BinOp)(b c:SE)(d:au):au:=wF a b c bJ d
abbrev awA(a:Nat)(b c:SE)(d:au):au:=CL a (BW b c) d
abbrev TO(a:SE)(b:Nat)(c:Int):au:=Vh a (wE b c)
abbrev qR:au:=.ret bB
abbrev nz:au:=AD 3
abbrev ph(a:BinOp)(b c:SE):SE:=T4 a 3 b c
abbrev Mw(a b:SE):SE:=ph .add a b
abbrev nA:SE:=iX 5
abbrev lG:SE:=.var 9
abbrev fx(a b:Nat):au:=IU 1 a b
abbrev oA(a:V4)(b c d e f g h:Nat)(i:au):au:=Ep a (eB b c d e f g) h i
abbrev oB:au:=AD 4
abbrev AH:SE:=vT 2
abbrev l7:SE:=nw 11
abbrev r9:au:=.ret gV
abbrev vd(a:SE)(b:Nat)(c:au):au:=my 1 a b c
abbrev pZ(a:SE)(b c:Nat)(d:au):au:=vd a b (ik c d)
abbrev mN(a:Nat):SE:=tG a 2
abbrev gM:SE:=.i 1
abbrev CQ:au:=.fail 85
abbrev AI:SE:=.tp .an
abbrev ve:SE:=iX 3
abbrev p5(a:Nat)(b c:SE)(d e f:Nat)(g:au):au:=qx a b c (Vf d e f g)
abbrev CS(a:VK)(b:SE)(c d:au):au:=Fw a bS b c d
abbrev FD(a:Nat):SE:=tI a 1
abbrev Vi(a b c d e:Nat)(f:au):au:=ark a b c d (o7 e) f
abbrev adY(a b c:SE):au:=Hu (jZ a b c)
abbrev awB(a:SE)(b:Nat)(c:Int):au:=awx bB a b c
abbrev Mx(a:Nat)(b:Int):au:=awB eY a b
abbrev p6(a:V4)(b c:SE)(d:Nat)(e:au):au:=kq a b c (ik d e)
abbrev awC(a b:Nat):SE:=.tr a (Fy b)
abbrev CT:SE:=.var 1
abbrev yN(a:Int):au:=wB (.i a)
abbrev p7(a:V4)(b:SE)(c:Nat)(d:SE)(e:au):au:=Ep a b c (jr d e)
abbrev vf(a:Nat):au:=CK 4 a
abbrev p8:SE:=.var 12
abbrev r_(a:SE)(b c d e f:Nat)(g:au):au:=tH a (Vi b c d e f g)
abbrev I1(a b:Nat)(c:BinOp)(d:SE)(e:Int)(f g:au):au:=yK (tb a b) c d e f g
abbrev wG:au:=.ret AF
abbrev Vj(a:SE)(b:Nat):SE:=Mw a (mN b)
abbrev AJ(a:Nat):SE:=tG a 3
abbrev lH:SE:=AJ 1
abbrev Qc(a b:Nat)(c:BinOp)(d:VK)(e f:SE)(g h:au):au:=Aa (tb a b) c d e f g h
abbrev Qd(a:SE):au:=BV a bB
abbrev p_(a:Nat):SE:=ow bB a
abbrev My(a:Nat)(b:Int)(c:SE)(d:au):au:=awA a (.i b) c d
abbrev adZ(a b:SE):au:=adY a AF b
abbrev pj:SE:=yI 3
abbrev pn:SE:=je 1
abbrev po:SE:=nw 10
abbrev Vk(a:VK)(b c:Nat)(d:SE)(e f:au):au:=X5 .eql a b c d e f
abbrev ad0(a:VK)(b c:Nat)(d e:au):au:=Vk a b c vS d e
abbrev awD(a b:SE)(c:Int)(d:au)(e:SE):au:=CP a b c d (Qd e)
abbrev qS(a:Nat):SE:=Er a 0
abbrev yO:SE:=.xl bS
abbrev awE(a:Nat)(b:Int):SE:=IZ .geq a b
abbrev wH(a b:Nat):au:=.next a (o7 b)
abbrev awF(a:SE)(b:au):au:=.bind (FB a) b
abbrev sa:au:=AD 1
abbrev Qe(a:SE):SE:=.Pr bS a
abbrev wI:SE:=Qe CT
abbrev Qf(a b:Nat)(c d:SE):SE:=jZ (tI a b) c d
abbrev awG(a b:SE)(c:Int)(d:Nat)(e:Int)(f:SE):au:=awD a b c (Mx d e) f
abbrev I2(a:BinOp)(b:Nat)(c:au):au:=awt a 0 b c
abbrev CU(a b:Nat)(c:SE)(d e:au):au:=xy .neq a b c d e
abbrev yP(a:Nat):SE:=.len (FD a)
abbrev awH(a:VK)(b c:Nat)(d:au):au:=ad0 a b c d bJ
abbrev wJ(a:Nat):SE:=o5 a 5
abbrev alC:SE:=wJ 5
abbrev sb(a b:Nat)(c:SE):au:=Eo a b (kI c)
abbrev awI(a b:Nat)(c:au):au:=wC a (ik b c)
abbrev awJ(a b c:Nat):SE:=.proj (X4 a b) c
abbrev awK(a:SE)(b:Nat)(c:SE):au:=adZ (Ld a b) c
abbrev tJ(a:V4)(b c:SE)(d:au):au:=AG a gZ b c d
abbrev AK:au:=kN (-1)
abbrev qT(a:SE)(b:Nat)(c:SE)(d:Nat)(e:SE)(f g h:Nat)(i j:au):au:=lZ a b c (jG d e f g h i) j
abbrev qU:SE:=kj 4
abbrev CV:SE:=I0 AI
abbrev awL(a:Nat):SE:=ow AH a
abbrev Qg:SE:=.raw (.slice ah 0 0)
abbrev yQ(a:Int):SE:=awu 3 a
abbrev qV(a:Nat)(b:au):au:=Em a 0 b
abbrev awM(a b:Nat)(c:Int)(d:Nat):SE:=ow (alB a b c) d
abbrev wK(a b:SE)(c d:au):au:=Fw 3 a b c d
abbrev vg:au:=kN 2
abbrev vh:au:=vf 5
abbrev qW(a:V4)(b:SE)(c d:Nat)(e:SE)(f:au):au:=nP a (uG b c d e) f
abbrev sf:SE:=yI 2
abbrev FE(a:SE)(b:Int):SE:=qy .eql a b
abbrev awN(a:Nat)(b:SE)(c:Int)(d:Nat)(e:Int)(f:SE):au:=awG (o8 a) b c d e f
abbrev awO(a b:Nat)(c:Int)(d:Nat)(e:Int)(f:SE):au:=awN a (o8 b) c d e f
abbrev awP(a b c:Nat)(d:Int)(e:au):au:=awp 5 a b c d e
abbrev awQ(a b:Nat)(c:Int)(d:au):au:=awP 4 a b c d
abbrev awR(a:Nat)(b:Int)(c:au):au:=awQ 5 a b c
abbrev awS(a:Int)(b:au):au:=awR 4 a b
abbrev qa(a:au):au:=awS 1 a
abbrev Vl(a b:Nat)(c:BinOp)(d:VK)(e:Nat)(f:SE)(g h:au):au:=Qc a b c d (lV e) f g h
abbrev awT(a:Nat)(b:Int):au:=TO eY a b
abbrev tK(a:V4)(b c d e:Nat)(f:au):au:=o6 a (RV b c d e) f
abbrev awU(a b c:Nat):SE:=.qG a (X4 b c)
abbrev awV(a:Nat)(b:SE)(c d:Nat)(e:au):au:=Lg a eh b c d e
abbrev awW(a b:Nat)(c:SE)(d e:au):au:=CU a b c (adU d) e
abbrev Qh(a:Nat)(b:VK)(c:Nat)(d:Int)(e:SE):au:=arh a .sub b c d e
abbrev alD(a:Nat)(b:VK)(c:Nat)(d:Int)(e:Nat):au:=Qh a b c d (o7 e)
abbrev CY(a:Nat):SE:=o5 a 3
abbrev vi:SE:=CY 1
abbrev alE(a:SE)(b c:au):au:=wK a kO b c
abbrev tL:SE:=je 9
abbrev vj(a:V4)(b c d:SE)(e:au):au:=nP a (jZ b c d) e
abbrev tM:SE:=o8 5
abbrev awX(a b c d e:Nat):SE:=J3 a b c d (awL e)
abbrev awY(a b c d:Nat):SE:=uJ a b c d IW
abbrev wL:SE:=yL 1
abbrev Qi:SE:=o7 10
abbrev wM:SE:=kQ 3
abbrev sg(a:SE)(b:Nat)(c d:SE)(e:Nat)(f g:au):au:=qP a b c 1 d e f g
abbrev CZ(a b:Nat):SE:=Vj (iX a) b
abbrev nB(a b:Nat)(c:au):au:=awr a b 1 c
abbrev awZ(a:SE)(b c d e f g:Nat):SE:=uG a b c (awY d e f g)
abbrev aw0(a:BinOp)(b c d:SE)(e f:au):au:=Mv a b c (alE d e f)
abbrev tN(a:V4)(b c:SE)(d e:au):au:=Ab a b (.nt c d e)
abbrev I3(a b:SE):SE:=ph .lss a b
abbrev aw1(a:Nat)(b:SE):au:=awK vS a b
abbrev aw2(a:Nat):au:=aw1 a eY
abbrev wN:au:=aw2 4
abbrev qX(a b c:SE)(d e:au):au:=mY a .eql b c d e
abbrev aw3(a:Nat)(b:Int)(c:SE)(d:Nat)(e:VK)(f:Nat)(g:Int)(h:Nat):au:=My a b c (alD d e f g h)
abbrev vl:SE:=je 2
abbrev vm:SE:=nw 12
abbrev aw4:SE:=Mu 200
abbrev C3:SE:=kI aw4
abbrev vn:SE:=nw 17
abbrev vo(a b:Nat)(c:Int)(d:Nat)(e:Int)(f g h i j:Nat):au:=awO a b c d e (awX f g h i j)
abbrev ad1(a b:Nat)(c:Int):SE:=arn .eql a b c
abbrev vp(a b:SE)(c d:au):au:=wF .lss a b c d
abbrev FF:au:=.ret fS
abbrev yR(a:Nat)(b c d:SE)(e:au):au:=.bind (.sub a b c d) e
abbrev yS(a:VK)(b c d:SE)(e:au):au:=awF (.get a b c d) e
abbrev wO(a:V4)(b c d e f:Nat)(g:au):au:=Ep a (ff b c d e) f g
abbrev aw5(a b:SE)(c d:Nat)(e:au):au:=Lg 2 a b c d e
abbrev jP(a b:SE)(c:Nat)(d:au):au:=aw5 a b 2 c d
abbrev wP(a b:Nat)(c:BinOp)(d:Nat)(e:Int)(f g:au):au:=I1 a b c (lV d) e f g
abbrev Mz(a:VK)(b:SE)(c:au)(d:VK)(e:SE)(f g:au):au:=CS a b c (CS d e f g)
abbrev aw6(a b c d e:Nat)(f:au):au:=CO 3 a b c d e f
abbrev yU(a b c d:Nat)(e:au):au:=aw6 a b c 3 d e
abbrev vq(a:Nat)(b:SE)(c d e:Nat)(f:SE)(g:au):au:=my a b c (uH d e f g)
abbrev yV(a:V4)(b c:SE)(d:au):au:=nP a (kT b c) d
abbrev sh(a b c:SE)(d e:au):au:=mY a .geq b c d e
abbrev AL(a b c d:Nat):SE:=wA a b (tc c d)
abbrev alF(a:Nat)(b:au):au:=I2 .geq a b
abbrev yW(a b c:SE)(d:au):au:=fE a b (.aQ c d)
abbrev ad2(a b c d e f:Nat):SE:=awZ bB a b c d e f
abbrev AM(a:VK)(b c:SE)(d:au):au:=.bind (.has a b c) d
abbrev Qj(a b:SE)(c d:au):au:=BX a .gtr b c d
abbrev aw7(a b c:Nat)(d:SE):SE:=Qf a b (FD c) d
abbrev aw8(a:BinOp)(b c:Nat)(d:Int)(e f:au):au:=rA a b c d (adU e) f
abbrev aw9(a b:Nat)(c d:au):au:=awW a b fN c d
abbrev AN:SE:=.var 11
abbrev AO:SE:=.var 13
abbrev AP:SE:=CY 0
abbrev AQ(a:Nat):SE:=awE a 0
abbrev alG(a:Nat):SE:=awC 1 a
abbrev ad3(a b:SE)(c:au):au:=Mv .neq a b c
abbrev yX:SE:=je 4
abbrev AR(a:SE)(b:au)(c:Int)(d e:au):au:=BY a b (yQ c) d e
abbrev aw_(a b:Nat)(c:au):au:=aw9 a b c bJ
abbrev axa(a:BinOp)(b c:Nat)(d:Int)(e:au)(f g:Nat)(h:au):au:=aw8 a b c d e (aw_ f g h)
abbrev yY(a:Nat)(b c:SE)(d:Nat)(e:au):au:=qx a b c (ik d e)
abbrev axb(a:SE)(b:VK)(c:Nat)(d:SE)(e f:au):au:=arj a .geq b c d e f
abbrev Vm(a:SE)(b:VK)(c:Nat)(d e:au):au:=axb a b c bB d e
abbrev axc(a b:Nat)(c:Int)(d:Nat)(e:VK)(f:Nat)(g h:au):au:=Vm (awM a b c d) e f g h
abbrev FG(a:SE)(b c:au):au:=.test a b (qa c)
abbrev C4(a b c d e:Nat):SE:=aw7 a b c (tI d e)
abbrev axd(a:BinOp)(b c:SE)(d e:au):au:=aw0 a b kO c d e
abbrev kg(a:SE)(b:Nat)(c:SE)(d:Nat)(e:SE)(f g h:Nat)(i j:au):au:=awy a 3 b c d e f g h i j
abbrev AS(a:V4)(b:SE)(c:Nat)(d:au):au:=o6 a b (ik c d)
abbrev C5:SE:=kQ 4
abbrev C6:SE:=alG 2
abbrev C7:SE:=iX 4
abbrev FH(a:au):au:=.aQ fw a
abbrev axe(a b:Nat)(c:au):au:=awH 9 a b c
abbrev C8(a:Nat)(b:au):au:=axe 0 a b
abbrev axf(a:Int):SE:=FE adW a
abbrev Qk(a:SE):SE:=ari .not a
abbrev axg(a:Nat)(b:Int)(c d:Nat)(e:SE)(f:Nat)(g:au):au:=FC alC a b c d e f g
abbrev wQ(a:Nat)(b:Int)(c d e:Nat)(f:au):au:=axg a b c d alC e f
abbrev axh(a:Nat)(b:SE)(c d:au):au:=lZ dQ a b c d
abbrev yZ(a:Nat)(b c:au):au:=axh a dQ b c
abbrev I4:au:=.ret ej
abbrev axi(a:SE)(b c:Nat)(d:au):au:=awV 6 a b c d
abbrev qb(a:SE)(b:Nat)(c:au):au:=axi a 6 b c
abbrev AT:SE:=vT 4
abbrev AU:SE:=kj 7
abbrev AV:SE:=nw 13
abbrev I5(a:Nat)(b:au):au:=.aQ (qS a) b
abbrev y6(a b:SE)(c d:au):au:=axd .lss a b c d
abbrev axj(a:BinOp)(b c:Nat)(d:au):au:=I2 a b (C8 c d)
abbrev alH(a b:SE)(c:au):au:=Qj a b bJ c
abbrev y7(a:SE)(b:Nat)(c d:SE)(e f:Nat)(g h:au):au:=sg a b c d e (ik f g) h
abbrev I6(a b:SE):SE:=ry a bR b
abbrev axk(a:SE)(b c:au):au:=pY yJ a b c
abbrev axl(a b:au):au:=axk yJ a b
abbrev alI(a:au):au:=axl bJ a
abbrev axm(a b:SE)(c:au):au:=alI (alH a b c)
abbrev axn(a:Int):au:=awT 0 a
abbrev vt:au:=axn 1
abbrev AW(a:Nat)(b:BinOp)(c:SE)(d:Int)(e:BinOp)(f:SE)(g:Int)(h:au):au:=alF a (vb b c d e f g h)
abbrev y8(a:V4)(b c d e f g:Nat)(h i:SE)(j:au):au:=jO a (eB b c d e f g) h i j
abbrev MA:au:=.ret kO
abbrev axo(a:SE)(b:au):au:=axm yJ a b
abbrev Vn(a:au):au:=axo yJ a
abbrev C9(a:Nat)(b:au):au:=vd bR a b
abbrev FI:SE:=vT 11
abbrev FJ:SE:=AJ 2
abbrev FK(a:SE)(b:au):au:=.test a b CQ
abbrev FL(a b:Nat):SE:=wA a b Qi
abbrev axp:SE:=axf 0
abbrev FM:SE:=.var 15
abbrev wR(a b:Nat)(c:Int)(d:Nat)(e:VK)(f g h i j:Nat)(k l:au):au:=axc a b c d e f (yU g h i j k) l
abbrev axq:au:=IX 0
abbrev C_:SE:=vT 5
abbrev FN(a:SE):SE:=Mw gV a
abbrev axr(a:Nat):SE:=Ve bB a
abbrev FO:SE:=axr 4
abbrev Da(a:BinOp)(b:VK)(c:SE)(d:Int):SE:=T4 a b c (l5 d)
abbrev I7(a:Nat):au:=.nr (qS a)
abbrev I8:SE:=Mu 20
abbrev wS(a:Nat):au:=CK 2 a
abbrev wT(a:Nat):au:=CK 1 a
abbrev Ql(a:Nat)(b:SE):au:=Eo 0 a b
abbrev I9(a:SE):au:=Ql 1 a
abbrev AX(a b:SE)(c:Int)(d:au):au:=CP a b c bJ d
abbrev y9(a:SE)(b:au):au:=fE bW a b
abbrev tO(a b c:Nat):au:=wD 1 a b c
abbrev y_(a b:SE)(c d:au):au:=BX a .eql b c d
abbrev Db(a:V4)(b:Nat)(c:au):au:=Ep a gZ b c
abbrev tP(a:Nat):au:=Ad 1 a
abbrev Dc(a:Nat)(b:SE):SE:=.tr a (kI b)
abbrev Dd(a b:SE)(c:Nat)(d:SE)(e f:au):au:=uI (I0 a) b c d e f
abbrev axs(a:BinOp)(b:Int)(c:au):au:=alz a adW b c
abbrev MB(a:Nat)(b:au):au:=.aQ (AQ a) b
abbrev wU(a:Nat)(b:Int)(c d e f g h i:Nat)(j:VK)(k:Nat)(l:Int)(m:Nat):au:=aw3 a b (ad2 c d e f g h) i j k l m
abbrev axt(a:Nat)(b:Int):au:=.next a (Mu b)
abbrev za(a:au):au:=qV 2 a
abbrev si(a b:Nat):au:=IU 2 a b
abbrev Dg(a b c d:SE)(e:au):au:=fE a b (ad3 c d e)
abbrev I_:SE:=mN 5
abbrev Ja:SE:=mN 4
abbrev zb(a:au):au:=wC 2 a
abbrev FP:SE:=o8 8
abbrev FQ(a:VK)(b:SE):SE:=aly a b bB
abbrev S8(a:Int)(b:au):au:=axs .eql a b
abbrev MC(a:Int)(b:au):au:=S8 a (Vn b)
abbrev Dh(a:SE)(b:au):au:=fE a js b
abbrev Jb(a b c:SE)(d:au):au:=Fx a b (tH c d)
abbrev zd(a:Nat):au:=CK 3 a
abbrev Jc(a b:Nat)(c:au):au:=CM (tb a b) c
abbrev Di(a:SE)(b:Int):SE:=qy .leq a b
abbrev wV(a:Nat)(b:au):au:=awI a 2 b
abbrev wW(a b:Nat):SE:=awU a b 0
abbrev wX(a:SE)(b:Int):SE:=alA 3 a b
abbrev Jd(a b:Nat):SE:=awJ a 2 b
abbrev MD(a b:Nat):SE:=FB (Jd a b)
abbrev wY(a b:Nat):SE:=ad1 a b 0
abbrev Qm:au:=wB eY
abbrev ME:SE:=l5 95
abbrev alJ(a:Nat):SE:=X4 3 a
abbrev Je:SE:=alJ 1
abbrev MF(a:VK)(b c:SE)(d e:au):au:=Hw .leq a b c d e
abbrev MG(a:SE):au:=.nr (Qk a)
abbrev ad5(a:SE)(b:VK)(c d:SE)(e f:au):au:=Aa a .neq b c d e f
abbrev AY(a:SE)(b:VK)(c:SE)(d e:au):au:=ad5 a b c bB d e
abbrev Dj(a b:SE)(c d:au):au:=wF .neq a b c d
abbrev MH(a b:SE):au:=I9 (BW a b)
abbrev MI(a:SE):SE:=I6 gZ a
abbrev MJ(a:SE)(b:Nat)(c:Int):au:=tH a (axt b c)
abbrev MK(a:Int):au:=Qb qQ a
abbrev FR(a:VK)(b c:SE)(d:au):au:=MF a b c d axq
abbrev axu(a:SE):SE:=I3 a ve
abbrev ML:SE:=axu ej
abbrev zf(a b:Nat)(c:VK)(d:Nat)(e:SE)(f g:au):au:=Vl a b .eql c d e f g
abbrev Jf:SE:=je 5
abbrev Jg:SE:=vT 1
abbrev Jh:SE:=nw 14
abbrev Ji:SE:=o8 6
abbrev axv(a b:Nat)(c:au):au:=axj .eql a b c
abbrev zg(a b:Nat)(c:Int)(d:au)(e f:Nat)(g:au):au:=axa .neq a b c d e f g
abbrev Jj(a:Nat)(b c:SE)(d:au):au:=.aQ (.idx a b c) d
abbrev axw(a:SE)(b:au):au:=fE adW a b
abbrev axx(a:au):au:=axw axp a
abbrev FT(a b:Nat)(c:au):au:=axv a b (axx c)
abbrev MM:au:=yN 5
abbrev MN:SE:=alG 1
abbrev MO:SE:=alJ 0
abbrev MP:au:=IX 2
end Go.Ev
namespace Go.Proofs.YtabefplkfkfdfaaGreat
open Go Go.Ev
def zh:aj Nat:=[95,93,162,266,136,184,69,24,25,7]
def Ir:aj Nat:=[269,259,217]
def stops:aj Nat:=[201]
def Qn(l:aj Hint):fz:=⟨zh,Ir,stops,l++[],[]⟩
def agc:au:=
 (kP (.aQ dQ (sg ko 2 dQ bS 2 (qX cw bR cw r9 mM) AK)))
def axy:bG Z2 (Qn [aP 0 162 2 [8]]) 162=agc:=kr
def agd:au:=
 (I1 4 0 .eql jt 2 (.ret AP) (.ret IW))
def axz:bG Z2 (Qn []) 184=agd:=kr
def age:au:=
 (qV 4 (wO 184 0 0 0 0 1 (Dd gM dU 2 dU (jG 4 bR 2 4 4 (jO 136 (ff 4 4 4 4) cS (Mw kO cS) (sb 0 2 (Mw kO cS)))) MA)))
def axA:bG Z2 (Qn [aP 0 136 4 [3,5]]) 136=age:=kr
def agf:au:=
 (CM dQ (Mv .gtr dQ (.i 8) (Dd bB dQ 1 dQ (jG 4 bS 1 4 3 (jO 136 (ff 3 3 3 3) cT (FN cT) (Mv .gtr (FN cT) (.i 60) (sb 0 1 (FN cT))))) eM)))
def axB:bG Z2 (Qn [aP 0 69 5 [3,4]]) 69=agf:=kr
def alK:au:=
 (ik 0 (qT dQ 1 dQ 2 bS 1 2 2 (p7 69 vl 3 cw sa) eM))
def aBN:bG Z2 (Qn [aP 0 24 2 [3]]) 24=alK:=kr
inductive Tm where
 |mk (k n:Int) (s:List UInt8) (ts:List Tm)
mutual
def eo:Tm->IV
 |.mk k n s ts=>.agg [iI k,iI n,iS s,.tree 4 (Vo ts)]
def Vo:aj Tm->aj IV
 |[]=>[]
 |t::ts=>eo t::Vo ts
end
def ajt:∀l:aj Tm,Vo l=l.map eo
 |[]=>rfl
 |t::l=>by simp[Vo,ajt l]
structure At where
 s:aj UInt8
 ts:aj Tm
abbrev iT(l:aj Tm):IV:=.tree 4 (l.map eo)
def c_(a:At):IV:=.agg [iS a.s,iT a.ts]
abbrev db(l:aj At):IV:=.tree 2 (l.map c_)
def Ag(k n:Int)(s:aj UInt8)(ts:aj Tm):eo (.mk k n s ts)=.agg [iI k,iI n,iS s,iT ts]:=by simp[eo,ajt]
@[simp] theorem aBO(v:Value):Pure (.raw v):=.raw v
@[simp] theorem Hx(l:aj Int):Pure (iL l):=by
  refine .tree 1 _ λe he c hc=>?_;obtain⟨x,_,rfl⟩:=Z6.1 he;simp[aD]at hc;subst hc;exact .raw _
def mZ:∀t:Tm,Pure (eo t)
 |.mk k n s ts=>by
  rw[Ag];refine .agg _ λc hc=>?_;simp at hc;rcases hc with rfl|rfl|rfl|rfl
  .exact .raw _
  .exact .raw _
  .exact .raw _
  .refine .tree 4 _ λe he c hc=>?_;obtain⟨x,hx,rfl⟩:=Z6.1 he;have:=mZ x;obtain⟨k',n',s',ts'⟩:=x;rw[Ag]at this hc;cases this with
   |agg _ h=>exact h c hc
 decreasing_by simp_wf;have:=Xf hx;omega
def lS{B:Type}(s:Nat)(enc:B->IV)(h:∀a,∃cs,enc a=.agg cs/\∀c∈cs,Pure c)(l:aj B):Pure (.tree s (l.map enc)):=by
 refine .tree s _ λe he c hc=>?_;obtain⟨x,_,rfl⟩:=Z6.1 he;obtain⟨cs,h1,h2⟩:=h x;rw[h1]at hc;exact h2 c hc
@[simp] theorem aED(l:aj Tm):Pure (iT l):=lS 4 eo (λt=>by
  have:=mZ t;obtain⟨k',n',s',ts'⟩:=t;rw[Ag]at this⊢;cases this with
  |agg _ h=>exact⟨_,rfl,h⟩) l
def xR(a:At):Pure (c_ a):=.agg _ az
@[simp] theorem aBP(l:aj At):Pure (db l):=lS 2 c_ (λa=>⟨_,rfl,az⟩) l
def sR(n:Nat):Cr:=λf aH xs z=>(f<n->fe Z2 af aH f xs z/\Pure z/\pU Z2 f z=ab)/\
 (∀g,g<n->f=n+g->∃s es Cd bF,xs=.tree s es::Cd/\z=.tree s bF/\IE Z2 s g es Cd bF)/\
 (∀g,g<n->f=2*n+g->∃ins Cd outs z0,xs=.agg (ins.map IV.agg)::Cd/\z=.aU (z0::outs.map IV.agg)/\outs.map VT=ins.map VT/\(∀cs∈outs,∀u∈cs,aw u=ab)/\IF Z2 g ins Cd outs z0)/\
 (∀g,g<n->f=3*n+g->∃t:Nat,xs=[.int t]/\KD Z2 g t)/\
 (∀g,g<n->f=4*n+g->∃es,z=.tree (dK Z2 g) es/\tE Z2 (dK Z2 g) g xs es)/\
 ∀g,g<n->f=7*n+g->∃es,z=.tree (dK Z2 g) es/\jX Z2 (dK Z2 g) g xs es
def CC:Cr:=sR Z2.funcs.size
abbrev StQ(f:au)(Q:IV->Prop)(K:aj (aj IV->Prop))(O:aj IV):Prop:=f.sat Z2 CC Q K O
def uK:lC Z2 CC:=λ_ _ _ _ h=>h
def mixed:Z2.follows .mixedOrders=ab:=kr
variable{f:Nat}{aH:Bool}{bF es xs av:aj IV}{ins outs:aj (aj IV)}{z:IV}
def Et{n:Nat}(hl:(Z2.funcs[f]?).map (·.params.size)=aa n):f<Z2.funcs.size:=by
 cases h:Z2.funcs[f]? with
 |none=>rw[h]at hl;cases hl
 |some _=>exact(Array.getElem?_eq_some_iff.1 h).1
def nE{n a b:Nat}(h:n+a=n+b):a=b:=ak
def tQ(h:Nat.blt f 306=ab):f<Z2.funcs.size:=by
 have e:Z2.funcs.size=306:=by kernel_rfl
 rw[e];simpa using h
section
variable{n:Nat}(aq:f<n)
include aq
theorem sR.plain(h0:fe Z2 af aH f xs z)(hz:Pure z)(ht:pU Z2 f z=ab):sR n f aH xs z:=by
 refine⟨λ_=>⟨h0,hz,ht⟩,?_,?_,?_,?_,?_⟩<;>(intro g hg h;replace h: @Eq Nat _ _:=h;omega)
theorem sR.row{s:Nat}(h0:IE Z2 s f es xs bF):sR n (n+f) aH (.tree s es::xs) (.tree s bF):=by
 refine⟨λh=>?_,λg hg h=>⟨s,es,xs,bF,rfl,rfl,nE h▸h0⟩,?_,?_,?_,?_⟩<;>first|(replace h: @NC Nat _ _ _:=h;omega)|(intro g hg h;replace h: @Eq Nat _ _:=h;omega)
theorem sR.obj(ho:outs.map VT=ins.map VT)(hc:∀cs∈outs,∀u∈cs,aw u=ab)(h0:IF Z2 f ins xs outs z):sR n (2*n+f) aH (.agg (ins.map IV.agg)::xs) (.aU (z::outs.map IV.agg)):=by
 refine⟨λh=>?_,?_,λg hg h=>⟨ins,xs,outs,z,rfl,rfl,ho,hc,nE h▸h0⟩,?_,?_,?_⟩<;>first|(replace h: @NC Nat _ _ _:=h;omega)|(intro g hg h;replace h: @Eq Nat _ _:=h;omega)
theorem sR.X6{t:Nat}(h0:KD Z2 f t):sR n (3*n+f) aH [.int t] z:=by
 refine⟨λh=>?_,?_,?_,λg hg h=>⟨t,rfl,nE h▸h0⟩,?_,?_⟩<;>first|(replace h: @NC Nat _ _ _:=h;omega)|(intro g hg h;replace h: @Eq Nat _ _:=h;omega)
theorem sR.fresh(h0:tE Z2 (dK Z2 f) f xs es):sR n (4*n+f) aH xs (.tree (dK Z2 f) es):=by
 refine⟨λh=>?_,?_,?_,?_,λg hg h=>nE h▸⟨es,rfl,h0⟩,?_⟩<;>first|(replace h: @NC Nat _ _ _:=h;omega)|(intro g hg h;replace h: @Eq Nat _ _:=h;omega)
theorem sR.X7(h0:jX Z2 (dK Z2 f) f xs es):sR n (7*n+f) aH xs (.tree (dK Z2 f) es):=by
 refine⟨λh=>?_,?_,?_,?_,?_,λg hg h=>nE h▸⟨es,rfl,h0⟩⟩<;>first|(replace h: @NC Nat _ _ _:=h;omega)|(intro g hg h;replace h: @Eq Nat _ _:=h;omega)
end
variable{f:V4}{cfg:fz}{dO:au}{i:Nat}
def CC.plain(aq:f<Z2.funcs.size)(h:fe Z2 af aH f av z)(hz:Pure z)(ht:pU Z2 f z=ab):CC f aH av z:=sR.plain aq h hz ht
def CC.of{n:Nat}(he:jc Z2 cfg n aH f=dO)(hl:(Z2.funcs[f]?).map (·.params.size)=aa av.length)(ht:pU Z2 f z=ab)(hp:∀x∈av,Pure x)(hz:Pure z)
 (hs:StQ dO (·=z) [] av):CC f aH av z:=sR.plain (Et hl) (fe.nu mixed uK he hl hp hs) hz ht
def CC.ofRow{n s:Nat}(he:DH Z2 cfg n s f=dO)(hl:(Z2.funcs[f]?).map (·.params.size)=aa (xs.length+1))
 (hs:StQ dO (·=.tree s bF) [] (.tree s es::xs)):CC (Z2.funcs.size+f) aH (.tree s es::xs) (.tree s bF):=
 sR.row (Et hl) (IE.nu mixed uK he hl hs)
def CC.alL{n:Nat}(he:z_ Z2 cfg n (ins.map VT) f=dO)(hl:(Z2.funcs[f]?).map (·.params.size)=aa (ins.length+xs.length))
 (ho:outs.map VT=ins.map VT)(hc:∀cs∈outs,∀u∈cs,aw u=ab)(hs:StQ dO (·=.aU (z::outs.map .agg)) [] (ins.flatten++xs)):CC (2*Z2.funcs.size+f) aH (.agg (ins.map IV.agg)::xs) (.aU (z::outs.map IV.agg)):=
 sR.obj (Et hl) ho hc (IF.nu mixed uK he hl hs)
def X8:Z2.underlying 4=aa .bool:=kr
@[simp] theorem aEK(a b:Bool):dN Z2 .eql 4 (iB a) (iB b)=aa (iB (a==b)):=av7 _ _ X8 a b
@[simp] theorem aEL(a b:Bool):dN Z2 .neq 4 (iB a) (iB b)=aa (iB (!(a==b))):=av8 _ _ X8 a b
abbrev Sm{B:Type}(l:aj B):Prop:=l.length<=9223372036854775807
def aS{n:Nat}(h:i<n)(hn:n<=9223372036854775807):QY.wrap ((i:Int)+1)=((i+1:Nat):Int):=by
 rw[eU ak ak];rfl
@[simp] theorem Qo{l:aj Int}{x:Int}(h:l[i]?=aa x):cu 1 (iL l) (iI (i:Nat))=aa (iI x):=cM (by simp[h]) rfl
def Vp:aj Nat:=zh++[203,160,216,175,240,11,31,8,13,14,257,72,26,71,137,70,139,210,225,145,183,75,76,111,65,112,186,140,248,224,211,170,138,249,185,9,28,27,143,77,142,141,74,144,73,146,78,18,39,16,82,44,150,188,189,29,79,80,149,187,147,10,148,30,38,104,83,84,81,168,103,62,108,42,169,107,106,45,64,63,135,110,46,66,21,12,20,23,105,40,43,41,113,171,215,174,161,48,98,97,116,115,268,192,154,227,87,33,51,212,94,47,114,32,85,155,233,199,101,50,49,164,230,194,166,204,202,99,86,156,280]
def X9:aj Nat:=[34,35,36,37,89,100,109,151,190,234]
def RX:aj Nat:=[235,236,237,238,239,241,242]
def RY:aj Nat:=[185,247,209,173000151,500195,500196,500040,500041,500043,500082,500140]
def Qp(l:aj Hint):fz:=⟨Vp,X9,RX,l++[⟨999997,0,0,[],[],[],[]⟩,⟨999999,0,0,[],[],[],[]⟩,⟨999998,0,0,[],[],[],[]⟩],RY⟩
def dr(l:aj Hint):fz:=⟨Vp,X9,RX,l++[⟨999997,0,0,[],[],[],[]⟩,⟨999999,0,0,[],[],[],[]⟩],RY⟩
def aro:au:=
 (nB 7 7 (xy .eql 0 0 kf (xy .eql 0 1 pn (xy .eql 0 2 Jg (kq 111 (uJ 0 3 0 4 (wJ 0)) (uJ 1 3 1 4 (wJ 1)) (.nt bW (tK 112 0 6 1 6 (.nr cw)) bJ)) bJ) bJ) bJ))
def aBQ:bG Z2 (dr []) 46=aro:=kr
def alM:au:=
 (nB 3 3 (xy .eql 0 0 kf (Vk 9 0 1 pn (fE gL (mN 1) (wK gL (mN 1) (tK 112 0 2 1 2 (.nr bW)) bJ)) bJ) bJ))
def axC:bG Z2 (dr []) 111=alM:=kr
def alN:au:=
 (kP (p6 170 bS bR 2 (.nr (FE bW 0))))
def axD:bG Z2 (dr []) 112=alN:=kr
def agh:au:=
 (yZ 2 (mY dU .lss gV dU (pZ bS 2 3 (C9 2 (mY cT .neq cw cT bJ mM))) eM) eM)
def arp:au:=
 (kP (Dg dQ dU dQ dU agh))
def aBR:bG Z2 (dr [aP 0 65 4 [5]]) 65=arp:=kr
def agi:au:=
 (mL 6 gv 3 gv (jG 3 bW 3 3 5 (tJ 30 bR (ft 5 5 5) (Em 6 6 (adT 6 4 6 (eB 6 6 6 6 6 6) (zd 7))))) FF)
def arq:au:=
 (za (Db 29 1 (Db 18 2 agi)))
def aBS:bG Z2 (dr [aP 0 10 5 [5,6] [(1,3),(1,0)]]) 10=arq:=kr
def agj:au:=
 (Vm (ow (qy .sub (Vj ve 4) 1) 2) 3 5 (Fx ML CT (Ms ej ML (jH 3 24 6 3 (jZ CT ej ML) (alD 1 3 5 1 7)))) (wT 6))
def ars:au:=
 (mL 3 du 1 du (my 6 eh 1 (Vf 6 3 3 (vq 6 eh 1 6 4 Ja (fE (Vj ve 4) (qy .sub (Vj ve 4) 1) agj)))) r9)
def art:au:=
 (za ars)
def aBT:bG Z2 (dr [aP 0 18 3 [3,4] [(1,0)],aP 0 18 7 [3,6] [(1,0)]]) 18=art:=kr
def an_:au:=
 (xx wL 3 4 (CZ 2 3) (rz .neq 3 4 pn (r_ fS 1 8 5 1 4 (vf 6)) vh) I4)
def ad6:au:=
 (nB 2 3 (oz .lss 1 0 wG (sh du kf du wG (p5 6 eh kf 6 2 2 (qx 6 eh kf (uH 6 3 (mN 3) (pY (CZ 2 3) pn wG (xy .geq 1 1 (CZ 2 3) wG an_))))))))
def axE:fM Z2 (dr [aP 0 82 8 [6,7] [(2,0)]]) 400 af 82=ad6:=kr
def aoa:au:=
 (xx ko 3 4 (CZ 2 3) (rz .neq 3 4 pn (fE (.rw fS) (.sub 1 (.tr 1 (o7 4)) (.len (.tr 1 (o7 4))) bB) oB) oB) wG)
def ad7:au:=
 (nB 2 3 (oz .lss 1 0 wG (sh du kf du wG (p5 6 eh kf 6 2 2 (qx 6 eh kf (uH 6 3 (mN 3) (pY (CZ 2 3) pn wG (xy .geq 1 1 (CZ 2 3) wG aoa))))))))
def axF:fM Z2 (Qp [aP 0 82 8 [7]]) 400 ab 82=ad7:=kr
def agk:au:=
 (Dd C5 (o8 2) 5 (o8 2) (.test g_ (Jj 3 gV ej (yV 80 (jZ (.mG 3 gV ej 0) (.mG 3 gV ej 1) (.mG 3 gV ej 2)) (C4 4 0 4 4 2) (fE eu (Qk eu) (sb 1 5 (Qk eu))))) (sb 1 5 eY)) (.test g_ (jH 3 48 2 3 (C4 4 0 4 4 2) (wT 7)) (wT 2)))
def agl:au:=
 (mL 3 du 1 du (jG 6 eh 1 6 3 (y8 79 3 3 3 3 3 3 (wW 3 4) C5 agk)) r9)
def aru:au:=
 (za agl)
def aBU:bG Z2 (dr [aP 0 29 3 [3,4] [(1,3),(1,0)],aP 0 29 7 [6,7]]) 29=aru:=kr
def arv:au:=
 (.loop (p_ 13) (p5 2 bR gM 2 17 17 (rz .lss 3 15 (iX 17) (jP bR bB 18 (jG 4 (je 18) 12 4 19 (jP bR gM 20 (my 4 (je 20) 15 (mY (tb 4 21) .neq (je 19) (je 21) (fx 15 16) (rz .neq 3 12 FM l6 (r_ p8 1 8 16 1 12 (fx 15 22)))))))) (CK 12 16))))
def agm:au:=
 (.loop wL (p5 2 bR bB 2 14 14 (rz .lss 3 12 (iX 14) arv (BV (ry (lV 10) (iX 11) (o7 13)) fX))))
def arw:au:=
 (qV 6 (y8 39 0 0 0 0 0 0 bR dU (Dj dU (.i 2) l6 (y_ gL gL l6 (Qj fw fw l6 (jP bR bB 2 (qx 2 bR gM (Qc 2 3 .neq 9 ny (lV 3) l6 (p5 2 bR bB 2 4 4 (p5 2 bR gM 2 5 5 (Dj C7 nA l6 (jP bR bB 6 (kc 147 (kM 6 6) 7 eu l6 (jP bR gM 8 (kc 147 (kM 8 8) 9 iD l6 (jP bR bB 10 (p5 2 bR bB 2 11 11 agm)))))))))))))))))
def aBV:bG Z2 (dr [aP 0 79 6 [6] [(3,0),(2,2)],aP 0 79 9 [7] [(3,0),(2,2)]]) 79=arw:=kr
def aob:au:=
 (kg ko 3 CT 4 eh 3 4 4 (my 4 eh 1 (qX (tb 4 5) yX Jf bJ (tP 3))) sa)
def aoc:au:=
 (lZ du 1 du (my 4 eh 1 (I1 4 2 .neq ny 1 bJ aob)) eM)
def alO:au:=
 (za aoc)
def axG:bG Z2 (dr [aP 0 147 7 [4],aP 0 147 2 [3]]) 147=alO:=kr
def aod:au:=
 (.loop (I0 (T4 .eql 9 (lV 4) bR)) (vq 3 bS 3 3 7 (mN 7) (rz .lss 3 5 (mN 7) (.test g_ (jG 3 bS 3 3 8 (pZ (vT 8) 5 9 (p6 187 bW iD 10 (sb 1 5 po)))) (sb 1 5 eY)) (.test g_ eM nz))))
def aoe:au:=
 (yZ 3 (vq 3 bS 3 3 4 (T4 .eql 9 (lV 4) bR) aod) bJ)
def alP:au:=
 (kP (ik 2 aoe))
def axH:bG Z2 (dr [aP 0 149 2 [7],aP 0 149 6 [8,9]]) 149=alP:=kr
def aaP:au:=
 (yZ 2 (vd bS 2 (qX cw cw bR eM mM)) bJ)
def alQ:au:=
 (kP aaP)
def axI:bG Z2 (dr [aP 0 187 2 [5]]) 187=alQ:=kr
def arx:au:=
 (lZ gL 2 gL (pZ fN 2 3 (vd Jg 2 (mY cT .neq cw cT bJ mM))) eM)
def ary:au:=
 (nB 3 3 (X5 .neq 9 0 0 kf bJ (CU 0 1 pn bJ (Dg gL (mN 1) gL (mN 1) arx))))
def aBW:bG Z2 (dr [aP 0 80 4 [5]]) 80=ary:=kr
def arz:au:=
 (zb (y9 cw (pY cT bW qR (sh du bW du qR (qb bW 5 (Ab 39 (eB 5 5 5 5 5 5) (pY cK cT qR (sh ek cT ek qR (AG 148 (eB 5 5 5 5 5 5) cw cT (yW eu AU (ph .mul (.i 10) AU) (jP cK cT 8 (o6 149 (uG bR 8 0 (kI eu)) (.nt iD (sh nA cT nA (kN 101) (kN 100)) (sh nA cT nA (.nr (qy .add (ph .mul (.i 10) AU) 1)) (.ret (ph .mul (.i 10) AU))))))))))))))))
def aBX:bG Z2 (dr []) 83=arz:=kr
def RZ:au:=
 (.loop wL (p5 2 cw bW 2 9 9 (rz .lss 3 7 (iX 9) (jP cw bW 10 (jG 4 (je 10) 7 4 11 (wO 186 11 11 11 11 12 (nP 103 (ow vm 6) (.nt AV (r_ iC 1 8 8 1 7 (fx 7 14)) (fx 7 8)))))) (.ret ga))))
def aaQ:au:=
 (mL 4 dU 4 dU (C9 4 (BX cK .geq cK (C9 4 (Dh eu (vp eu js (pZ bR 4 8 (jP cw h_ 9 (pH 4 56 5 tL (vf 10)))) vh))) vh)) (nP 1364 (o7 5) RZ))
def Vq:au:=
 (wV 6 (oA 39 0 0 0 0 0 0 3 aaQ))
def axJ:bG Z2 (dr [aP 0 148 11 [11,12] [(3,0),(2,1),(1,1)],aP 0 148 4 [8,9] [(1,3),(1,0)]]) 148=Vq:=kr
def R0:au:=
 (Dd eY dU 3 dU (.test fS (sb 1 3 fX) (pZ bR 3 5 (vd bS 2 (fE cK (ph .eql cS cK) (sb 1 3 (ph .eql cS cK)))))) (jr fS mM))
def aaR:au:=
 (yZ 2 R0 eM)
def alR:au:=
 (kP aaR)
def axK:bG Z2 (dr [aP 0 103 2 [5],aP 0 103 6 [6,7]]) 103=alR:=kr
def arA:au:=
 (lZ gv 3 gv (my 3 bW 3 (Qc 3 4 .eql 28 (ft 4 4 4) (ft 1 1 1) eM nz)) bJ)
def arB:au:=
 (nB 2 3 (Db 18 2 arA))
def aBY:bG Z2 (dr [aP 0 81 3 [6]]) 81=arB:=kr
def ajA:au:=
 (nB 2 6 (p6 81 gZ (ft 1 1 1) 2 (jr bW (yV 1306 gZ (ft 1 1 1) (Dg (o8 3) lH (o8 3) lH (qW 103 kO 1 3 .an (ik 4 (jr cT (qb kf 5 (AG 84 (eB 5 5 5 5 5 5) (ft 1 1 1) vi (Em 6 6 (kq 104 (eB 1 1 1 1 1 1) (eB 6 6 6 6 6 6) (.nr eu)))))))))))))
def aBZ:bG Z2 (dr []) 38=ajA:=kr
def alS:au:=
 (nB 6 6 (Fw 28 (ft 0 0 0) (ft 1 1 1) (tK 65 0 3 1 3 (.nt bW (tK 168 0 4 1 4 (.nt cw (tK 168 0 5 1 5 (.nr cT)) bJ)) bJ)) bJ))
def axL:bG Z2 (dr []) 104=alS:=kr
def aaS:au:=
 (yZ 2 (pZ bS 2 3 (pZ bR 2 4 (p6 65 cw cT 5 (jr cS mM)))) eM)
def alT:au:=
 (kP (Dg dQ dU dQ dU aaS))
def axM:bG Z2 (dr [aP 0 168 4 [5]]) 168=alT:=kr
def aof:au:=
 (mL 1 fw 2 fw (yU 0 3 2 4 (AG 189 (eB 0 0 0 0 0 0) bR (ft 4 4 4) (.nt cS (r_ gV 1 8 3 1 2 (wS 6)) (wS 3)))) MA)
def alU:au:=
 (wC 6 aof)
def axN:bG Z2 (dr [aP 0 188 3 [5,6] [(1,0)]]) 188=alU:=kr
def R4:au:=
 (Dd eY Ji 9 Ji (.test lF (sb 2 9 fX) (Jj 1 g_ lG (vd eu 8 (fE l7 (ph .eql (.mG 1 g_ lG 0) l7) (sb 2 9 (ph .eql (.mG 1 g_ lG 0) l7)))))) (jr lF (tP 8)))
def aaT:au:=
 (lZ AU 8 AU R4 eM)
def aaU:au:=
 (mL 4 dU 4 dU (C9 4 (BX cK .geq cK (C9 4 (Dh eu (vp eu js (pZ bR 4 8 (jP cw h_ 9 (pH 4 56 5 tL (vf 10)))) vh))) vh)) (nP 1364 (o7 5) (Ep 145 (ft 2 2 2) 7 aaT)))
def alV:au:=
 (wC 6 (Em 3 2 (oA 39 0 0 0 0 0 0 3 aaU)))
def axO:bG Z2 (dr [aP 0 189 11 [12],aP 0 189 4 [8,9] [(2,3),(2,0)],aP 0 189 15 [13,14]]) 189=alV:=kr
def arC:au:=
 (zb (uH 6 2 cw (tJ 106 (eB 2 2 2 2 2 2) cw (yW (wW 2 4) C5 (Er 4 2) (fC (Er 4 2) AK (.aQ (yP 4) (kq 107 bR (Qf 4 0 (yP 4) C5) (.nr cS))))))))
def aB0:bG Z2 (dr []) 42=arC:=kr
def aaV:au:=
 (mL 4 (.len wM) 4 (.len wM) (.test (Er 3 2) (vd wM 4 (BX cK .geq cK (vd wM 4 (fE eu (yP 3) (vp eu (yP 3) (pZ wM 4 8 (Lg 4 (FD 3) h_ 4 9 (jH 4 56 5 4 (ff 9 9 9 9) (vf 10)))) vh))) vh)) I4) I4)
def alW:au:=
 (nB 2 6 (ik 2 (tJ 106 (eB 1 1 1 1 1 1) bW (yW (wW 2 3) wM (Er 3 2) aaV))))
def axP:bG Z2 (dr [aP 0 108 4 [10,11] [(3,3),(3,0)]]) 108=alW:=kr
def alX:au:=
 (nB 2 6 (pY bW bW wN (sh lH bW lH wN (oz .lss 1 0 wN (sh du kf du wN (qb kf 3 (oA 39 3 3 3 3 3 3 4 (qx 1 vi bW (pY cS cS wN (qx 1 vi bW (fE cK qU (wF .geq cK qU wN (mY (tG 1 4) .lss bW (tG 1 4) (yY 1 (o5 1 4) bW 7 (yY 1 vi bW 8 (jP cT h_ 9 (adY (kM 9 9) eu fX)))) (yY 1 vi bW 7 (jP cT eu 8 (adZ (kM 8 8) fX))))))))))))))))
def axQ:bG Z2 (dr []) 106=alX:=kr
def aaW:au:=
 (qT dQ 2 dQ 3 bS 2 3 3 (kq 169 (ft 3 3 3) (ft 1 1 1) (.nt cT r9 mM)) AK)
def alY:au:=
 (Jc 3 1 aaW)
def axR:bG Z2 (dr [aP 0 107 2 [5]]) 107=alY:=kr
def alZ:au:=
 (nB 3 3 (Vk 9 0 0 kf (xy .eql 0 1 pn (tK 65 0 2 1 2 (.nr bW)) bJ) bJ))
def axS:bG Z2 (dr []) 169=alZ:=kr
def X_:au:=
 (mL 4 dU 2 dU (jG 2 bR 2 2 4 (pH 4 56 3 yX (fx 2 5))) (nP 1364 (o7 3) (wH 0 4)))
def ago:au:=
 (uI (p_ 1) (GJ 4) 2 (GJ 4) (yU 0 4 2 4 (p7 76 (ft 4 4 4) 5 cS (rA .neq 4 0 1 (rA .neq 4 0 4 bJ (CN 4 0 1 (wS 3) (qx 4 AT bB (wP 4 6 .neq 6 1 bJ (Lg 4 AT bB 4 7 (qW 110 kO 7 1 .an (.nt h_ bJ (qx 4 AT bB (uH 4 9 (.rw tL) (jH 1 8 3 1 tL (wS 10))))))))))) (CN 4 0 1 (wS 3) (qx 4 AT bB (wP 4 6 .neq 6 1 bJ (Lg 4 AT bB 4 7 (qW 110 kO 7 1 .an (.nt h_ bJ (qx 4 AT bB (uH 4 9 (.rw tL) (jH 1 8 3 1 tL (wS 10))))))))))))) eM)
def agp:au:=
 (.qH (oA 39 0 0 0 0 0 0 1 X_) 1 ago)
def arD:au:=
 (qV 6 agp)
def aB1:bG Z2 (dr [aP 0 45 3 [4] [(3,1),(3,0),(2,0)] [7],aP 0 45 1000007 [] [(3,0),(2,0)],aP 1 45008 4 [3,5] [(2,3),(2,0)]]) 45=arD:=kr
def aaX:au:=
 (yZ 2 (vd bS 2 (qX cw cw bR eM mM)) bJ)
def al0:au:=
 (kP aaX)
def axT:bG Z2 (dr [aP 0 110 2 [5]]) 110=al0:=kr
def aaY:au:=
 (yZ 2 (vd bS 2 (qX cw cw bR eM mM)) bJ)
def al1:au:=
 (kP aaY)
def axU:bG Z2 (dr [aP 0 105 2 [5]]) 105=al1:=kr
def aaZ:au:=
 (mL 7 du 3 du (AS 105 (ow bW 3) 5 (fC cS (jG 4 eh 3 4 6 (CL 4 (I6 gM (BW kO (jZ vS IW (Dc 4 (ff 6 6 6 6))))) (zd 7))) (zd 4))) FF)
def ad8:au:=
 (wV 2 aaZ)
def axV:fM Z2 (dr [aP 0 40 3 [7,8] [(1,3),(1,0)]]) 400 af 40=ad8:=kr
def aa0:au:=
 (lZ du 3 du (AS 105 (ow bW 3) 4 (fC cT (vq 4 eh 3 4 5 (.sub 7 (Dc 7 (I6 gM (BW kO (jZ vS IW (Dc 4 (ff 5 5 5 5)))))) (.len (Dc 7 (I6 gM (BW kO (jZ vS IW (Dc 4 (ff 5 5 5 5))))))) bB) nz) nz)) (.ret (yI 7)))
def ad9:au:=
 (wV 2 aa0)
def axW:(fM Z2 (Qp [aP 0 40 3 [8]]) 400 ab 40).jq=ad9:=kr
def aa1:au:=
 (mL 7 dU 2 dU (pZ bR 2 4 (Lg 3 AP cT 3 5 (My 3 2 (ad2 5 0 5 1 5 2) (wS 6)))) MA)
def ad_:au:=
 (wC 6 aa1)
def axX:fM Z2 (dr [aP 0 41 3 [5,6] [(1,3),(1,0)]]) 400 af 41=ad_:=kr
def aa2:au:=
 (lZ dU 2 dU (pZ bR 2 3 (Lg 3 AP cw 3 4 (GI 7 96 (yI 7) (Dc 7 (BW (.i 2) (ad2 4 0 4 1 4 2))) (.aQ (IZ .add 2 1) (.fail 0))))) (.ret (yI 7)))
def aea:au:=
 (wC 6 aa2)
def axY:(fM Z2 (Qp [aP 0 41 3 [6]]) 400 ab 41).jq=aea:=kr
def aa3:au:=
 (Dd (Dc 7 (ry (.i 3) cK (BW eu (jZ vS IW h_)))) (o8 10) 11 (o8 10) (Jj 1 lF AN (jP cS (.mG 1 lF AN 0) 13 (qx 2 cS cK (zf 2 14 9 13 (lV 14) (.aQ (iX 13) (p5 2 cS cK 2 15 15 (wK (iX 13) (iX 15) (Fx (.idx 1 lF AN) cK (CL 12 (ry (.i 4) cK (Ve (.mG 1 lF AN 0) 4)) (fx 11 16))) (fx 11 12)))) (fx 11 12))))) (jP cS cK 13 (yY 1 (o5 2 4) cw 14 (AG 2182 (kM 13 13) cK Jh (pH 7 96 12 FM (AE .add cw 2 (yY 1 (wJ 2) (qy .add cw 2) 17 (kq 2183 (eB 4 4 4 4 4 4) vn (pH 7 96 16 (.var 18) (.ret (.var 19)))))))))))
def aog:au:=
 (sg (I0 C6) 9 cw (CY 2) 9 (Fx l7 l7 (jH 1 8 10 1 l7 (CK 9 12))) aa3)
def aeb:au:=
 (zb (uH 6 2 cw (qb ny 4 (oA 39 4 4 4 4 4 4 5 (yY 1 (CY 2) cw 6 (AS 42 (MI (kT (eB 2 2 2 2 2 2) cw)) 7 (tJ 108 (eB 2 2 2 2 2 2) cw (Fx h_ vl aog))))))))
def axZ:fM Z2 (dr [aP 0 43 11 [15] [(3,0)] [42],aP 0 43 7 [14] [(4,0)] [46]]) 400 af 43=aeb:=kr
def arE:au:=
 (za (jO 85 gZ (qS 1) (kQ 1) (.nr (ajy .eql 38 (kQ 1) 0))))
def aB2:bG Z2 (dr []) 31=arE:=kr
def agq:au:=
 (Vm (jZ (qy .sub qU 1) gV (lV 3)) 3 5 (fE ve ML (vq 2 cT 5 2 8 (.rw CT) (Ms ej ML (jH 3 24 6 3 (jZ CT ej ML) (Qh 1 3 5 1 (tc 9 7)))))) (wT 6))
def arF:au:=
 (kg (yL 3) 1 du 6 eh 1 6 3 (y8 33 3 3 3 3 3 3 cT qU (AE .sub qU 1 agq)) r9)
def arG:au:=
 (yM 2 du arF)
def aB3:bG Z2 (dr [aP 2 87805000 1 [10] [(4,0),(1,0)],aP 2 87805000 5 [6] [(4,0),(5,0),(1,0)]]) 87=arG:=kr
def R5:au:=
 (y7 (p_ 4) 9 (kj 8) h_ 9 11 (pf 3 lF l7 .an (fx 9 12)) (zd 10))
def R6:au:=
 (sg ko 10 (kj 9) iD 10 (fE l7 (.qG 0 (.get 3 fS l7 .an)) (AM 3 fS l7 (fC p8 (fx 6 7) (Ad 2 10)))) (r_ g_ 1 8 7 1 6 (fx 6 11)))
def R7:au:=
 (kg wL 6 nA 4 Jf 6 4 8 (jO 204 (ff 8 8 8 8) iD (kj 9) R6) (.ret iC))
def aa4:au:=
 (y7 CV 3 dU bR 3 5 (kq 203 (yH 0 0 0 1 0 2 0 3 (uJ 0 4 0 5 (o5 0 6))) cS (.nt cK (jP (o5 0 6) cS 7 (jO 164 (kM 7 7) h_ (kj 8) R5)) (zd 4))) (p5 2 (o5 0 6) bW 2 5 5 R7))
def Vs:au:=
 (wC 7 (y9 dU aa4))
def ax0:bG Z2 (dr [aP 0 160 14 [12,52] [(2,0)],aP 0 160 3 [22] [(1,0)],aP 0 160 17 [60],aP 0 160 7 [36] [(1,0)]]) 160=Vs:=kr
def arH:au:=
 (zb (uH 6 2 cw (tJ 115 (eB 2 2 2 2 2 2) cw (fE (wW 2 4) C5 (.nt (Er 4 2) (AG 116 bR (kT (tI 4 0) (FD 4)) C5 (.nr cS)) AK)))))
def aB4:bG Z2 (dr []) 97=arH:=kr
def agr:au:=
 (sg (yL 4) 4 (.len wM) wM 4 (BX cK .geq cK (mY (yP 3) .lss cK (yP 3) (Lg 4 (FD 3) cK 4 7 (jH 4 56 5 4 (ff 7 7 7 7) (vf 8))) vh) vh) I4)
def arI:au:=
 (nB 2 6 (ik 2 (tJ 115 (eB 1 1 1 1 1 1) bW (fE (wW 2 3) wM (fE (Er 3 2) (.len wM) agr)))))
def aB5:bG Z2 (dr [aP 0 98 4 [10,23] [(3,3),(3,0)]]) 98=arI:=kr
def al2:au:=
 (nB 2 6 (pY bW bW wN (sh lH bW lH wN (oz .lss 1 0 wN (sh du kf du wN (qb kf 3 (oA 33 3 3 3 3 3 3 4 (qx 1 vi bW (pY cS cS wN (sh qU cS qU wN (mY (tG 1 4) .lss bW (tG 1 4) (yY 1 (o5 1 4) bW 6 (jP cT cS 7 (adY (kM 7 7) cK fX))) (jP cT cS 6 (adZ (kM 6 6) fX)))))))))))))
def ax1:bG Z2 (dr []) 115=al2:=kr
def aa5:au:=
 (qP ko 3 dQ 3 bS 3 (zf 3 4 9 4 kf (qX (iX 1) yX (iX 1) (kq 93 AT bW (.nt cS MA nz)) nz) nz) AK)
def al3:au:=
 (Jc 2 1 (y9 dQ aa5))
def ax2:bG Z2 (dr [aP 1 116010 2 [8]]) 116=al3:=kr
def R8:au:=
 (sg (p_ 3) 6 (kj 5) cS 6 (fE h_ (.qG 0 (.get 3 iC h_ .an)) (AM 3 iC h_ (.test lG (fx 6 7) (pf 3 iC h_ .an (fx 6 10))))) (wS 7))
def R9:au:=
 (xx (p_ 3) 3 4 (GJ 4) (yU 0 4 4 6 (p7 166 (ft 6 6 6) 7 eu (CN 6 0 1 (fx 4 5) (rA .neq 6 0 4 bJ (qx 4 (vT 6) bB (wP 4 8 .neq 8 1 bJ (qx 4 (vT 6) bB (uH 4 9 (.qG 0 (.get 3 ej tL .an)) (AM 3 ej tL (.test lF bJ (pf 3 ej tL .an (fx 4 11)))))))))))) eM)
def aa6:au:=
 (kg CV 2 dU 2 bR 2 2 4 (jO 164 (kM 4 4) cS (kj 5) R8) (.aQ (GJ 4) R9))
def al4:au:=
 (qV 6 (y8 33 0 0 0 0 0 0 bR dU aa6))
def ax3:bG Z2 (dr [aP 0 101 3 [14] [(1,0)],aP 0 101 12 [33] [(1,0)],aP 0 101 6 [21] [(1,0)]]) 101=al4:=kr
def ajB:au:=
 (qT gv 3 gv 4 bW 3 4 4 (kq 185 Qg (ff 4 4 4 4) (.aQ (.dec 11 ej fX) (tP 3))) (.ret Qg))
def ajC:au:=
 (.loop .an (fE (.rw pn) (.sub 1 MN (.len MN) bB) (wO 184 1 1 1 1 2 ajB)))
def aIO:au:=
 (qT gv 3 gv 4 bW 3 4 4 (kq 185 Qg (ff 4 4 4 4) (.aQ (.dec 11 ej fX) nz)) (.ret Qg))
def ags:au:=
 (I1 4 1 .eql kf 1 ajC (wO 184 1 1 1 1 2 aIO))
def arJ:(RT Z2 (Qp [aP 0 185 5 [6]]) 400 1 185).jq=ags:=kr
def aH1:au:=
 (qT dQ 1 dQ 4 bS 1 4 2 (kq 185 Qg (ff 2 2 2 2) (.aQ (.dec 11 kO fX) sa)) wG)
def Yc:au:=
 (ik 0 aH1)
def arK:fM Z2 (Qp [aP 0 140 3 [4]]) 400 ab 140=Yc:=kr
def aHf:au:=
 (mL 1 dQ 1 dQ (vq 4 bS 1 4 3 (.rws gV) (yV 491 gV (ff 3 3 3 3) (wT 4))) r9)
def Ye:au:=
 (ik 0 aHf)
def arL:fM Z2 (dr [aP 0 140 3 [3,4] [(0,0)]]) 400 af 140=Ye:=kr
def aoh:aj Nat:=zh++[257,72,26,71,137,70,139,225,145,183,75,76,186,140,224,138,185,9,28,27,143,77,142,141,74,144,73,146,78,39,154,268,227,192,280]
def aoi:aj Nat:=[]
def aoj:aj Nat:=[201]
def aok:aj Nat:=[185,247,209]
def Vt(l:aj Hint):fz:=⟨aoh,aoi,aoj,l++[],aok⟩
def agt:au:=
 (Aa bS .leq 5 (l5 97) bS (MF 5 bS (l5 122) (IX 1) (MF 5 (l5 65) bS (MF 5 bS (l5 90) MP (CS 5 ME MP (FR 5 (l5 48) bS (FR 5 bS (l5 57) (IX 4))))) (CS 5 ME MP (FR 5 (l5 48) bS (FR 5 bS (l5 57) (IX 4)))))) (MF 5 (l5 65) bS (MF 5 bS (l5 90) MP (CS 5 ME MP (FR 5 (l5 48) bS (FR 5 bS (l5 57) (IX 4))))) (CS 5 ME MP (FR 5 (l5 48) bS (FR 5 bS (l5 57) (IX 4))))))
def ax4:bG Z2 (Vt []) 227=agt:=kr
def agu:au:=
 (Aa bS .eql 9 bS (.s [99,111,110,115,116,114,97,105,110,116]) eM (Mz 9 (.s [116,114,117,101]) eM 9 (.s [102,97,105,108]) eM (Mz 9 (.s [105,115]) eM 9 (.s [105,110,116]) eM (CS 9 (.s [103,114,111,117,110,100]) eM bJ))))
def ax5:bG Z2 (Vt []) 192=agu:=kr
def aol:au:=
 (.loop (kI (.tp (kT gV bB))) (.test (.dec 0 MO Je) (.bind (.tp (kT MO (.dec 2 MO Je))) (Hw .gtr 21 (.dec 1 MO Je) (.k .i32 122) (Fw 4 fX fX (vp Je bB (Ep 192 bS 5 (MG cS)) bJ) (wH 0 4)) (.aQ (.ok (.cv 21 5 (.dec 1 MO Je))) (jO 227 (.ok (.cv 21 5 (.dec 1 MO Je))) cS (Da .and 223 cS 7) (Aa (Da .eql 223 (Da .and 223 cS 7) 0) .eql 4 (Da .eql 223 (Da .and 223 cS 7) 0) fX (vp Je bB (Ep 192 bS 6 (MG cK)) bJ) (wH 0 4)))))) (vp qQ bB (Ep 192 bS 4 (MG cT)) bJ)))
def aec:au:=
 (Aa bS .eql 9 bS vS bJ (AX yO yO 40 (.aQ (Qe bB) (jO 227 (Qe bB) bR (Da .and 223 bR 1) (Fw 223 (Da .and 223 bR 1) (l5 0) bJ (.bind (.N2 bS gM yO) (.aQ (.xl gV) aol)))))))
def aB6:bG Z2 (Vt [aP 3 154005023008 2 [] [(0,0)]]) 154=aec:=kr
def agv:au:=
 (CM yO (wK yO gM (kq 280 (.s [43,45,42,47,37]) bS (.nr bR)) bJ))
def ax6:bG Z2 (Vt []) 268=agv:=kr
def arM:aj Nat:=zh++[257,72,26,71,137,70,139,225,145,183,75,76,186,140,224,138,185,9,28,27,143,77,142,141,74,144,73,146,78,39,154,268]
def arN:aj Nat:=[]
def arO:aj Nat:=[201]
def arP:aj Nat:=[185,247,209]
def Vu(l:aj Hint):fz:=⟨arM,arN,arO,l++[],arP⟩
def agw:au:=
 (uH 4 1 bW (pY (wE 0 1) (wE 0 1) vt (vp bW gM vt (oz .eql 1 0 (rA .geq 1 1 (-2147483648) (rA .leq 1 1 2147483648 (ad0 9 1 2 (fE lH (wY 1 3) (TO (wY 1 3) 0 1)) vt) vt) vt) (vc 1 0 1 (oz .geq 1 1 (rA .leq 1 1 1048576 (ad0 9 1 2 (fE lH (wY 1 3) (TO (wY 1 3) 0 1)) vt) vt) vt) 1 0 2 (oz .neq 1 1 vt (CP lH lH 6 vt (kc 154 Jg 3 cw (tN 268 Jg cT (fE lH (ad1 1 3 2) (fC (ad1 1 3 2) vt (AE .sub bW 1 (qW 821 (kI (kI (wE 0 1))) 1 3 (kI (qy .sub bW 1)) (I5 5 (Vh (qS 5) (Ae 5 1 0))))))) vt) (AE .sub bW 1 (qW 821 (kI (kI (wE 0 1))) 1 3 (kI (qy .sub bW 1)) (I5 4 (Vh (qS 4) (Ae 4 1 0)))))))) vt)))))
def ax7:z_ Z2 (Vu []) 400 [1] 247=agw:=kr
def ajD:au:=
 (kg (p_ 0) 3 dU 4 bR 3 4 5 (vj 859 (kI (o7 4)) (ff 5 5 5 5) bW (I5 6 (fC (qS 6) (Vh eY (Ae 6 1 0)) (sb 0 3 (Ae 6 1 0))))) (IY fX (o7 4)))
def agx:au:=
 (yW bR bW dU ajD)
def ax8:z_ Z2 (Vu [aP 1 209 2 [10] [(0,0)]]) 400 [1] 209=agx:=kr
def al5:au:=
 (za (tN 154 jt bR (yK du .leq du 6 (qW 821 C3 0 1 I8 (I7 2)) bJ) bJ))
def aB7:bG Z2 (Vu []) 194=al5:=kr
def agy:au:=
 (y_ (tb 3 0) jt (tN 154 eh bR (yK gL .leq gL 6 (qW 821 C3 0 2 I8 (I7 2)) bJ) bJ) (vc 0 0 1 (I2 .gtr 0 (rA .leq 0 0 12 (C8 1 (y_ gL gL (qW 821 C3 0 2 I8 (I7 1)) bJ)) bJ)) 0 0 2 (I2 .gtr 0 (rA .leq 0 0 12 (C8 1 (y_ gL gL (qW 821 C3 0 2 I8 (I7 1)) bJ)) bJ)) (vc 0 0 11 (I2 .gtr 0 (rA .leq 0 0 12 (C8 1 (yK gL .eql gL 1 (qW 821 C3 0 2 I8 (I7 1)) bJ)) bJ)) 0 0 12 (I2 .gtr 0 (rA .leq 0 0 12 (C8 1 (yK gL .eql gL 1 (qW 821 C3 0 2 I8 (I7 1)) bJ)) bJ)) (I2 .gtr 0 (rA .leq 0 0 12 (C8 1 (yK gL .eql gL 2 (qW 821 C3 0 2 I8 (I7 1)) bJ)) bJ)))))
def ax9:bG Z2 (Vu []) 166=agy:=kr
def arQ:aj Nat:=zh++[257,72,26,71,137,70,139,225,145,183,75,76,186,140,224,226,138,185,9,28,27,143,77,142,141,74,144,73,146,78,39]
def arR:aj Nat:=Ir++[234]
def arS:aj Nat:=[201]
def arT:aj Nat:=[185]
def ia(l:aj Hint):fz:=⟨arQ,arR,arS,l++[],arT⟩
def aom:au:=
 (qT du 2 du 6 eh 2 6 3 (kq 28 jt (eB 3 3 3 3 3 3) (AY cT 38 cT (BV gV cT) (tP 2))) (Qd bB))
def aon:au:=
 (qT iA 1 iA 2 jt 1 2 2 (kc 26 ny 3 cw (MK 7) (oz .lss 2 1 (MK 9) (rA .gtr 2 1 6 (MK 9) (yR 2 jt bB CT (qW 27 fS 2 0 (Fy 2) (.nt cS (MK 8) sa)))))) (CP du du 40 (MK 6) aom))
def aed:au:=
 (yM 2 iA (wF .gtr iA (.i 30) (MK 6) aon))
def aB8:bG Z2 (ia [aP 0 9 16 [6],aP 0 9 4 [4]]) 9=aed:=kr
def al6:au:=
 (ik 0 (tN 70 bS bR (.aQ (Qe bB) (tN 71 (Qe bB) bW (Ep 72 bS 3 (MG cw)) bJ)) bJ))
def aB9:bG Z2 (ia []) 26=al6:=kr
def ajE:au:=
 (lZ yO 1 yO (.aQ wI (kc 71 wI 2 bW (.aQ wI (kc 137 wI 3 cw (Aa wI .lss 5 wI (l5 48) (ad5 wI 5 wI ME bJ sa) (Aa wI .gtr 5 wI (l5 57) (ad5 wI 5 wI ME bJ sa) sa)) sa)) sa)) (yK yO .geq yO 1 (.aQ yO (.nr (Di yO 40))) bJ))
def agz:au:=
 (ik 0 ajE)
def ax_:bG Z2 (ia [aP 0 70 2 [3]]) 70=agz:=kr
def agA:au:=
 (Aa bS .geq 5 bS (l5 97) (.nr (Da .leq 5 bS 122)) bJ)
def aya:bG Z2 (ia []) 71=agA:=kr
def agB:au:=
 (Aa bS .geq 5 bS (l5 65) (.nr (Da .leq 5 bS 90)) bJ)
def ayb:bG Z2 (ia []) 137=agB:=kr
def agC:au:=
 (Aa bS .eql 9 bS (.s [99,111,110,115,116,114,97,105,110,116]) eM (Mz 9 (.s [116,114,117,101]) eM 9 (.s [102,97,105,108]) eM (Mz 9 (.s [105,115]) eM 9 (.s [105,110,116]) eM (.nr (T4 .eql 9 bS (.s [103,114,111,117,110,100]))))))
def ayc:bG Z2 (ia []) 72=agC:=kr
def aa7:au:=
 (yZ 3 (my 2 bS 3 (zf 2 4 9 4 bR (my 2 bS 3 (qX (tb 2 5) Jf bW eM nz)) nz)) bJ)
def al7:au:=
 (kP (ik 2 aa7))
def aB_:bG Z2 (ia [aP 0 27 2 [7]]) 27=al7:=kr
def aoo:au:=
 (lZ ek 7 ek (vd cK 7 (mY h_ .neq h_ iC vg (Ad 2 7))) (mY ek .neq (wJ 1) ek vg (X5 .neq 9 1 0 vS (kc 26 kf 8 h_ (kN 7) (kq 78 bS (eB 1 1 1 1 1 1) (.nr iD))) (kq 78 bS (eB 1 1 1 1 1 1) (.nr h_)))))
def aop:au:=
 (qT js 5 js 3 cw 5 3 6 (kc 76 (ft 6 6 6) 7 eu vg (tP 5)) (oA 77 1 1 1 1 1 1 6 aoo))
def aoq:au:=
 (qT gv 4 gv 2 bW 4 2 5 (kc 75 (kM 5 5) 6 cK vg oB) aop)
def al8:au:=
 (Jc 6 1 (oA 73 1 1 1 1 1 1 2 (y8 74 1 1 1 1 1 1 cw gv (wK gv bB (kN 6) (CP gv gv 4 (kN 6) (CP lH lH 12 (kN 6) (CP (tG 1 4) (tG 1 4) 12 (kN 6) aoq)))))))
def aCa:bG Z2 (ia [aP 0 28 17 [10],aP 0 28 11 [8],aP 0 28 6 [7]]) 28=al8:=kr
def agD:au:=
 (qV 6 (GI 2 40 sf eh (pH 2 40 1 fN r9)))
def ayd:bG Z2 (ia []) 73=agD:=kr
def agE:au:=
 (qV 6 (GI 3 48 pj AP (pH 3 48 1 (o5 0 4) r9)))
def aye:bG Z2 (ia []) 74=agE:=kr
def al9:au:=
 (za (tN 26 jt bR (yK du .leq du 6 (Ab 138 eh (.nr bW)) bJ) bJ))
def aCb:bG Z2 (ia []) 75=al9:=kr
def aIz:au:=
 (Dd bB dQ 1 dQ (jG 4 bS 1 4 3 (p7 183 (ff 3 3 3 3) 4 cT (jG 4 bS 1 4 5 (jO 136 (ff 5 5 5 5) cK (FN cK) (sb 0 1 (FN cK)))))) (.nr (IZ .leq 2 200)))
def agF:au:=
 (ik 0 aIz)
def ayf:bG Z2 (ia [aP 0 138 3 [3,4]]) 138=agF:=kr
def agG:au:=
 (qV 4 (tN 224 (ff 0 0 0 0) bR (Ab 136 (ff 0 0 0 0) (yK bW .leq bW 200 (wO 225 0 0 0 0 3 (.nr (Di cw 20))) bJ)) bJ))
def ayg:bG Z2 (ia []) 183=agG:=kr
def Jk:au:=
 (lZ fw 3 fw (CO 4 0 3 3 4 4 (p7 224 (ff 4 4 4 4) 5 cS nz)) eM)
def Ou:au:=
 (lZ fw 2 fw (CO 4 0 3 2 4 3 (p7 224 (ff 3 3 3 3) 4 cT mM)) eM)
def aHu:au:=
 (lZ fw 3 fw (CO 4 0 3 3 4 4 (p7 224 (ff 4 4 4 4) 5 cS nz)) eM)
def agH:au:=
 (y_ (tb 4 0) jt (rA .geq 0 1 (-2147483648) (rA .leq 0 1 2147483648 (C8 2 (FH (.nr (FE fw 0)))) bJ) bJ) (vc 0 0 1 (alF 1 (rA .leq 0 1 1048576 (C8 2 (FH (.nr (FE fw 0)))) bJ)) 0 0 2 (tN 257 fN bR (fE fw (FE fw 2) (oz .neq 0 1 bJ (fC (FE fw 2) (p7 26 fN 2 bW (AX fw fw 6 Jk)) Ou))) (oz .neq 0 1 bJ (p7 26 fN 2 bW (AX fw fw 6 aHu)))) bJ))
def ayh:bG Z2 (ia [aP 0 224 11 [4]]) 224=agH:=kr
def agI:au:=
 (Aa bS .eql 9 bS (.s [43]) eM (Mz 9 (.s [45]) eM 9 (.s [42]) eM (CS 9 (.s [47]) eM (.nr (T4 .eql 9 bS (.s [37]))))))
def ayi:bG Z2 (ia []) 257=agI:=kr
def ae8:au:=
 (Dd bB dU 2 dU (jG 4 bR 2 4 4 (jO 225 (ff 4 4 4 4) cS (FB (.mx ab kO cS)) (sb 0 2 (FB (.mx ab kO cS))))) (.nr (IZ .add 3 1)))
def agJ:au:=
 (qV 4 (wO 184 0 0 0 0 1 ae8))
def ayj:bG Z2 (ia [aP 0 225 4 [3,5]]) 225=agJ:=kr
def agK:au:=
 (y_ (tb 3 0) jt (Ab 75 (RV 0 1 0 2) (.nr bR)) (C8 1 (jO 139 jt bR gL (wK bR gL (Ab 138 fN (.nr bW)) bJ))))
def ayk:bG Z2 (ia []) 76=agK:=kr
def agL:au:=
 (yK bS .eql bS 1 qR (Mz 3 (.i 2) qR 3 (.i 11) (kN 1) (CS 3 (.i 12) (kN 1) (wF .gtr bS (.i 2) (vp bS (.i 11) vg AK) AK))))
def ayl:bG Z2 (ia []) 139=agL:=kr
def ajF:au:=
 (uI (p_ 3) qU 5 qU (jG 3 cT 5 3 7 (pH 4 56 6 (vT 7) (fx 5 8))) (nP 140 (o7 6) (.nr eu)))
def ajG:au:=
 (mL 4 dU 2 dU (jG 2 bR 2 2 4 (pH 4 56 3 yX (wS 5))) (oA 74 0 0 0 0 0 0 4 ajF))
def agM:au:=
 (qV 6 (oA 73 0 0 0 0 0 0 1 ajG))
def aym:bG Z2 (ia [aP 0 77 9 [3,7] [(1,3),(1,0)],aP 0 77 4 [3,5] [(1,3),(1,0)]]) 77=agM:=kr
def ajH:au:=
 (mL 1 dQ 1 dQ (vq 4 bS 1 4 3 (.rws gV) (yV 491 gV (ff 3 3 3 3) (wT 4))) r9)
def Qq:au:=
 (ik 0 ajH)
def ayn:bG Z2 (ia [aP 0 140 3 [3,4] [(0,0)]]) 140=Qq:=kr
def ajI:au:=
 (lZ (kj 11) 12 (kj 11) (pZ l7 12 13 (p6 146 h_ AV 14 (fC Jh (kN 17) (Ad 4 12)))) (Ad 3 9))
def ajJ:au:=
 (lZ lH 9 lH (yU 1 3 9 10 (Ep 145 (ft 10 10 10) 11 ajI)) qR)
def ajK:au:=
 (lZ (tG 1 4) 7 (tG 1 4) (yU 1 4 7 8 (tN 143 (lV 8) iD (kN 10) (Ad 2 7))) (oA 144 1 1 1 1 1 1 8 ajJ))
def ajL:au:=
 (lZ lH 6 lH (yU 1 3 6 7 (kc 143 (lV 7) 8 h_ (my 3 vi 6 (wP 3 9 .neq 9 1 (kN 10) (tP 6))) (tP 6))) ajK)
def ajM:au:=
 (qT gv 3 gv 2 bW 3 2 4 (my 2 bW 3 (Vf 2 5 5 (o6 141 (uG bS 4 0 (kI nA)) (AY cK 38 cK (.ret cK) nz)))) (oA 74 1 1 1 1 1 1 4 (kq 142 bS cT (AY cS 38 cS (.ret cS) ajL))))
def agN:au:=
 (Jc 6 1 (oA 73 1 1 1 1 1 1 2 ajM))
def ayo:bG Z2 (ia [aP 0 78 23 [12],aP 0 78 27 [14],aP 0 78 17 [10],aP 0 78 12 [9],aP 0 78 3 [6]]) 78=agN:=kr
def aIj:au:=
 (Dd (.i 7) dQ 3 dQ (my 2 bS 3 (zf 2 5 9 5 bR (Ql 3 (Mu 9)) (zd 4))) (AG 27 bS bR bW (.nt cS qR FF)))
def agO:au:=
 (kP (ik 2 aIj))
def ayp:bG Z2 (ia [aP 0 141 3 [7,8]]) 141=agO:=kr
def aIe:au:=
 (lZ dU 2 dU (my 3 bR 2 (BX (tb 3 3) .neq (lV 3) mM (jG 3 bR 2 3 4 (vq 3 bR 2 3 5 I_ (o6 141 (uG bS 4 1 (kI I_)) (AY cK 38 cK (.ret cK) mM)))))) qR)
def agP:au:=
 (kP aIe)
def ayq:bG Z2 (ia [aP 0 142 2 [5]]) 142=agP:=kr
def agQ:au:=
 (yK bS .geq bS 5 (.nr (Di bS 12)) bJ)
def ayr:bG Z2 (ia []) 143=agQ:=kr
def ajN:au:=
 (mL 4 dU 2 dU (jG 2 bR 2 2 4 (pH 4 56 3 yX (wS 5))) (nP 140 (o7 3) (.nr cT)))
def agR:au:=
 (qV 6 (oA 73 0 0 0 0 0 0 1 ajN))
def ays:bG Z2 (ia [aP 0 144 4 [3,5] [(1,3),(1,0)]]) 144=agR:=kr
def al_:au:=
 (qV 3 (Ab 140 fN (.nr bR)))
def aCc:bG Z2 (ia []) 145=al_:=kr
def aHQ:au:=
 (yZ 2 (vd bS 2 (qX cw cw bR eM mM)) bJ)
def agS:au:=
 (kP aHQ)
def ayt:bG Z2 (ia [aP 0 146 2 [5]]) 146=agS:=kr
def ama:au:=
 (qV 6 (GI 2 40 sf eh (pH 2 40 1 fN r9)))
def aCd:bG Z2 (ia []) 39=ama:=kr
def amb:au:=
 (yM 4 (.rws AF) (yV 491 AF (ff 0 0 0 0) (.ret CT)))
def aCe:bG Z2 (ia []) 186=amb:=kr
def Qr:aj Nat:=zh++[257,72,26,71,137,70,139,225,145,183,75,76,186,140,224,138,185,9,28,27,143,77,142,141,74,144,73,146,78,39]
def arU:aj Nat:=[226]
def arV:aj Nat:=[201]
def arW:aj Nat:=[185]
def ayu(l:aj Hint):fz:=⟨Qr,arU,arV,l++[],arW⟩
def aJa:au:=
 (lZ (o8 0) 2 (o8 0) (qX (.idx 1 (.var 0) gV) (.mG 1 (.var 0) gV 0) pn (.next 0 (kI fX)) (tP 2)) (.next 0 (kI eY)))
def aKA:au:=
 (uI (p_ 3) qU 5 qU (vq 4 cT 5 4 7 (.rws g_) (yV 491 g_ (ff 7 7 7 7) (CK 5 8))) (.ret (.rws g_)))
def aeI:au:=
 (uI (p_ 0) js 4 js (vq 4 cw 4 4 6 (.rws ej) (yV 491 ej (ff 6 6 6 6) (vf 7))) (.ret (.rws ej)))
def ajO:au:=
 (.qH aJa 1 (fC gV (tH pn (jH 1 8 0 1 pn (wO 184 1 1 1 1 4 aKA))) (wO 184 1 1 1 1 3 aeI)))
def aIX:au:=
 (uI (p_ 0) gv 3 gv (vq 4 bW 3 4 5 (.rws fS) (yV 491 fS (ff 5 5 5 5) (zd 6))) (.ret (.rws fS)))
def agT:au:=
 (I1 4 1 .eql kf 1 ajO (wO 184 1 1 1 1 2 aIX))
def ayv:DH Z2 (ayu [aP 0 185 5 [6] [(0,3),(0,0)] [21,11],aP 0 185 1000014 [14],aP 1 185015 2 [5]]) 400 1 185=agT:=kr
end Go.Proofs.YtabefplkfkfdfaaGreat
namespace Go.Ev
def qJ{A:Type}(n:Nat)(e:Nat->A->aj IV)(μ:Nat->A->Prop)(i:Nat)(vs:aj IV):Prop:=∃a',vs=e (i+1) a'/\i+1<=n/\μ (i+1) a'
variable{vs O:aj IV}{C:Cr}{K:aj (aj IV->Prop)}{P:Program}{Q:IV->Prop}{body:au}
def qJ.mk{A:Type}{n:Nat}{e:Nat->A->aj IV}{μ:Nat->A->Prop}{i:Nat}(a':A)(h1:vs=e (i+1) a')(h2:i+1<=n)(h3:μ (i+1) a'):qJ n e μ i vs:=⟨a',h1,h2,h3⟩
variable{init:SE}
def aJ{A:Type}(n:Nat)(e:Nat->A->aj IV)(μ:Nat->A->Prop)(a0:A)(IP:lA P O init=aa (e 0 a0))(h0:μ 0 a0)
 (h:∀i a,i<=n->μ i a->body.sat P C Q (K++[qJ n e μ i]) (O++e i a)):(au.loop init body).sat P C Q K O:=
 gK n e μ a0 IP h0 h
def GK{A:Type}(e:A->aj IV)(μ:A->Prop)(I:A->Nat)(a:A)(vs:aj IV):Prop:=∃a',vs=e a'/\μ a'/\I a'<I a
def GK.mk{A:Type}{e:A->aj IV}{μ:A->Prop}{I:A->Nat}{a:A}(a':A)(h1:vs=e a')(h2:μ a')(h3:I a'<I a):GK e μ I a vs:=⟨a',h1,h2,h3⟩
def fg{A:Type}(e:A->aj IV)(μ:A->Prop)(I:A->Nat)(a0:A)(IP:lA P O init=aa (e a0))(h0:μ a0)
 (h:∀a,μ a->body.sat P C Q (K++[GK e μ I a]) (O++e a)):(au.loop init body).sat P C Q K O:=
 Lc e μ I a0 IP h0 h
def GL(p:aj IV->Prop)(vs:aj IV):Prop:=p vs
def jI{a b:au}{m:Nat}(p:aj IV->Prop)(h:a.sat P C Q (K++[GL p]) O)(hb:∀vs,p vs->vs.length=m/\b.sat P C Q K (O++vs)):(au.qH a m b).sat P C Q K O:=
 an9 p h hb
def noTwo:au->Bool
 |.pick .. |.uniq .. =>af
 |.test _ a b|.qH a _ b=>noTwo a&&noTwo b
 |.bind _ k|.aQ _ k|.call _ _ _ k|.loop _ k|.same _ _ k=>noTwo k
 |_=>ab
def ExK(Q:IV->Prop)(K:aj (aj IV->Prop))(Kz:IV->aj (aj IV->Prop)):Prop:=
 (∀z,(Kz z).length=K.length)/\∀(lv:Nat) (p:aj IV->Prop) (vs:aj IV),K[lv]?=aa p->p vs->∃z,Q z/\∃p':aj IV->Prop,(Kz z)[lv]?=aa p'/\p' vs
variable{Kz:IV->aj (aj IV->Prop)}
def ExK.snoc{p:aj IV->Prop}{q:IV->aj IV->Prop}(h:ExK Q K Kz)(hp:∀vs,p vs->∃z,Q z/\q z vs):ExK Q (K++[p]) (λz=>Kz z++[q z]):=by
 refine⟨λz=>by simp[h.1 z],λlv r vs hr fk=>?_⟩;by_cases hl:lv<K.length
 .rw[VJ hl]at hr;have⟨z,h1,p',h2,h3⟩:=h.2 lv r vs hr fk
  grind
 .have aq:=(Z5.1 hr).1;simp at aq;have:lv=K.length:=ak;subst this;simp at hr;subst hr;have⟨z,h1,h2⟩:=hp vs fk;exact⟨z,h1,q z,by simp[<-h.1 z],h2⟩
def wj:∀(dO:au),noTwo dO=ab->∀{K:aj (aj IV->Prop)} {Kz:IV->aj (aj IV->Prop)} {O:aj IV},ExK Q K Kz->dO.sat P C Q K O->∃z,Q z/\dO.sat P C (·=z) (Kz z) O
 |.fail _,_,_,_,_,_,h=>h.elim
 |.bad ..,_,_,_,_,_,h=>h.elim
 |.pick ..,hn,_,_,_,_,_=>by cases hn
 |.uniq ..,hn,_,_,_,_,_=>by cases hn
 |.same es x k,hn,_,_,_,hK,h=>by
  have⟨ds,r,h1,h2,h3⟩:=h;have⟨z,g1,g2⟩:=wj k hn hK h3;exact⟨z,g1,ds,r,h1,h2,g2⟩
 |.ret e,_,_,_,_,_,h=>by
  have⟨z,h1,h2⟩:=h
  simp_all
 |.test e a b,hn,_,_,_,hK,h=>by
  simp only[noTwo,VM]at hn;rcases h with⟨h1,h2⟩|⟨h1,h2⟩
  .have⟨z,g1,g2⟩:=wj a hn.1 hK h2;exact⟨z,g1,.inl ⟨h1,g2⟩⟩
  .have⟨z,g1,g2⟩:=wj b hn.2 hK h2;exact⟨z,g1,.inr ⟨h1,g2⟩⟩
 |.bind e k,hn,_,_,_,hK,h=>by
  have⟨y,h1,h2⟩:=h;have⟨z,g1,g2⟩:=wj k hn hK h2;exact⟨z,g1,y,h1,g2⟩
 |.aQ e k,hn,_,_,_,hK,h=>by
  have⟨z,g1,g2⟩:=wj k hn hK h.2;exact⟨z,g1,h.1,g2⟩
 |.call f aH e k,hn,_,_,_,hK,h=>by
  have⟨xs,y,h1,h2,h3⟩:=h;have⟨z,g1,g2⟩:=wj k hn hK h3;exact⟨z,g1,xs,y,h1,h2,g2⟩
 |.next lv e,_,K,Kz,_,hK,h=>by
  have⟨vs,p,h1,h2,h3⟩:=h;have⟨z,g1,p',g2,g3⟩:=hK.2 lv p vs h2 h3;exact⟨z,g1,vs,p',h1,g2,g3⟩
 |.qH a m b,hn,K,Kz,O,hK,h=>by
  simp only[noTwo,VM]at hn
  exact wj a hn.1 (Kz:=λz=>Kz z++[λvs=>vs.length=m/\b.sat P C (·=z) (Kz z) (O++vs)]) (hK.snoc λvs fk=>by
   have⟨z,g1,g2⟩:=wj b hn.2 hK fk.2
   grind) h
 |.loop i b,hn,K,Kz,O,hK,h=>by
  have⟨vs,h1,m,hm⟩:=h
  have key:∀(m:Nat) (vs:aj IV),(WN (motive:=λ_=>aj IV->Prop) (λ_=>False) (λ_ ih vs=>b.sat P C Q (K++[ih]) (O++vs)) m) vs->
   ∃z,Q z/\(WN (motive:=λ_=>aj IV->Prop) (λ_=>False) (λ_ ih vs=>b.sat P C (·=z) (Kz z++[ih]) (O++vs)) m) vs:=by
   intro m;induction m with
   |zero=>intro vs h;cases h
   |succ m ih=>
    intro vs h;exact wj b hn (Kz:=λz=>Kz z++[WN (motive:=λ_=>aj IV->Prop) (λ_=>False) (λ_ ih vs=>b.sat P C (·=z) (Kz z++[ih]) (O++vs)) m]) (hK.snoc ih) h
  have⟨z,g1,g2⟩:=key m vs hm;exact⟨z,g1,vs,h1,m,g2⟩
def Ov{dO:au}(hn:noTwo dO=ab)(h:dO.sat P C Q [] O):∃z,Q z/\dO.sat P C (·=z) [] O:=
 wj dO hn (Kz:=λ_=>[]) ⟨λ_=>rfl,λ_ _ _ h=>aI⟩ h
end Go.Ev
namespace Go.Proofs.YtabefplkfkfdfaaGreat
open Go Go.Ev
variable{aH:Bool}{av:aj IV}{cfg:fz}{dO:au}{f:V4}{i:Nat}
section
variable{n:Nat}
def CC.tot{Q:IV->Prop}(he:jc Z2 cfg n aH f=dO)(hl:(Z2.funcs[f]?).map (·.params.size)=aa av.length)(ht:∀z,Q z->pU Z2 f z=ab)(hp:∀x∈av,Pure x)(hz:∀z,Q z->Pure z)(hn:noTwo dO=ab)
 (hs:StQ dO Q [] av):∃z,Q z/\CC f aH av z:=by
 obtain⟨z,h1,h2⟩:=Ov hn hs;exact⟨z,h1,CC.of he hl (ht z h1) hp (hz z h1) h2⟩
def Ah(p:Bool->Prop)(z:IV):Prop:=∃b:Bool,z=iB b/\p b
@[simp] theorem aEE(p:Bool->Prop)(b:Bool):Ah p (iB b)↔p b:=⟨λ⟨b',h1,h2⟩=>by cases h1;exact h2,λh=>⟨b,rfl,h⟩⟩
def CC.Vv(p:Bool->Prop)(he:jc Z2 cfg n aH f=dO)(hl:(Z2.funcs[f]?).map (·.params.size)=aa av.length)(ht:∀z,pU Z2 f z=ab)(hp:∀x∈av,Pure x)(hn:noTwo dO=ab)
 (hs:StQ dO (Ah p) [] av):∃b,p b/\CC f aH av (iB b):=by
 obtain⟨z,⟨b,rfl,hb⟩,h2⟩:=CC.tot he hl (λz _=>ht z) hp (by rintro _ ⟨b,rfl,_⟩;exact .raw _) hn hs;exact⟨b,hb,h2⟩
abbrev uL(c:Int):IV:=.raw (.int .u8 c)
@[simp] theorem aFa(t:VK)(a b:Int):dN Z2 .lss t (uL a) (uL b)=aa (iB (decide (a<b))):=rfl
@[simp] theorem aFb(t:VK)(a b:Int):dN Z2 .gtr t (uL a) (uL b)=aa (iB (decide (a>b))):=rfl
@[simp] theorem aFc(t:VK)(a b:Int):dN Z2 .leq t (uL a) (uL b)=aa (iB (decide (a<=b))):=rfl
@[simp] theorem aFd(t:VK)(a b:Int):dN Z2 .geq t (uL a) (uL b)=aa (iB (decide (a≥b))):=rfl
@[simp] theorem aFe(t:VK)(a b:Int):dN Z2 .neq t (uL a) (uL b)=aa (iB (a !=b)):=rfl
@[simp] theorem aFf(t:VK)(a b:aj UInt8):dN Z2 .eql t (iS a) (iS b)=aa (iB (a==b)):=by
  show aa (IV.bool (a.toArray.toList==b.toArray.toList))=_;simp
@[simp] theorem arX(l:aj UInt8):DC (iS l)=aa (iI l.length):=by
  simp[DC,JZ]
end
def Jl(n:Int):aj Int->Nat->Int
 |[],_=> -1
 |x::l,i=>if n=x then i else Jl n l (i+1)
def aHl(n:Int):∀(l:aj Int) (i:Nat),decide (0<=Jl n l i)=l.contains n
 |[],_=>rfl
 |x::l,i=>by
  by_cases h:n=x
  .simp[Jl,h]
  .have:=aHl n l (i+1);simp[Jl,h]at this⊢;exact this
def aCf(l:aj Int)(n:Int)(hl:Sm l):CC 162 af [iL l,iI n] (iI (Jl n l 0)):=by
 refine CC.of axy kr kr az az ?_;simp[agc,UU];refine gK l.length (λi (_:Unit)=>[iI i]) (λi _=>Jl n l 0=Jl n (l.drop i) i) () ?_ ?_ λi _ hi hI=>?_
 .simp[UU]
 .simp
 by_cases aq:i<l.length
 .rw[UQ aq]at hI;have hw:=aS aq hl;simp[UU,aq,hw];by_cases h:n=l[i]
  .left;exact⟨h,by rw[hI];simp[Jl,h]⟩
  .right;simp[h,hI,Jl];omega
 .simp[UU,aq];rw[hI,ZX ak];rfl
def Tm.k:Tm->Int|.mk k _ _ _=>k
def Tm.n:Tm->Int|.mk _ n _ _=>n
def Tm.s:Tm->aj UInt8|.mk _ _ s _=>s
def Tm.ts:Tm->aj Tm|.mk _ _ _ ts=>ts
def bL(t:Tm):eo t=.agg [iI t.k,iI t.n,iS t.s,iT t.ts]:=by cases t;exact Ag _ _ _ _
def rk(k:Int):Int:=if k=1 then 0 else if k=0 then 1 else if k=2 then 2 else 3
mutual
def sS:Tm->Prop
 |.mk _ _ _ ts=>Sm ts/\Yq ts
def Yq:aj Tm->Prop
 |[]=>True
 |t::l=>sS t/\Yq l
end
def aHw:∀l:aj Tm,Yq l↔∀t∈l,sS t
 |[]=>by simp[Yq]
 |t::l=>by simp[Yq,aHw l]
def vu(t:Tm):sS t↔Sm t.ts/\∀u∈t.ts,sS u:=by cases t;simp[sS,aHw,Tm.ts]
variable{l:aj Tm}
def aCg{l:aj At}(h:i<l.length):cu 2 (db l) (iI (i:Nat))=aa (c_ l[i]):=cM (by simp[h]) rfl
def iJ(h:i<l.length):cu 4 (iT l) (iI (i:Nat))=aa (eo l[i]):=cM (by simp[h]) (by rw[bL];rfl)
def cN(t:Tm):aj Tm:=if t.k=2 then t.ts else[]
def Wi(t:Tm):CC 184 af [eo t] (iT (cN t)):=by
 refine CC.of axz kr kr (by simp[mZ]) az ?_;simp[agd,UU,bL,aw,cN];by_cases h:t.k=2
 .left;simp[h]
 .right;simp[h]
mutual
def vv:Tm->Int
 |.mk k _ _ ts=>if k=2 then zi 1 ts else 1
def zi:Int->aj Tm->Int
 |ax,[]=>ax
 |ax,t::l=>zi (QY.wrap (ax+vv t)) l
end
def aGw(t:Tm):vv t=zi 1 (cN t):=by
 obtain⟨k,n,s,ts⟩:=t;show vv (.mk k n s ts)=zi 1 (if k=2 then ts else[]);by_cases hk:k=2<;>simp[vv,hk,zi]
variable{t u:Tm}{xs:aj IV}
def rR(h:u∈cN t):u∈t.ts:=by
 unfold cN at h;split at h
 .exact h
 .simp at h
def f158(t:Tm)(hl:Sm t.ts)(hc:∀u∈t.ts,CC 136 af [eo u] (iI (vv u))):CC 136 af [eo t] (iI (vv t)):=by
 refine CC.of axA kr kr (by simp[mZ]) az ?_;have h:=Wi t;rw[bL]at h;simp[age,UU,bL,aw];exists _,h;simp[UU];have eG:(cN t).length<=9223372036854775807:=by unfold cN;split<;>simp_all
 refine gK (cN t).length (λi (a:Int)=>[iI i,iI a]) (λi a=>vv t=zi a ((cN t).drop i)) 1 ?_ ?_ λi a hi hI=>?_
 .simp[UU]
 .simp[aGw]
 by_cases aq:i<(cN t).length
 .rw[UQ aq,zi]at hI;have hw:=aS aq eG;have hm:(cN t)[i]∈t.ts:=rR (Z4 aq);have h3:=hc _ hm;rw[bL]at h3;simp[UU,aq,hw,iJ aq,bL,aw];exists _,h3;simp[UU,hw];exact⟨ak,hI⟩
 .simp[UU,aq];rw[hI,ZX ak,zi]
def WM:∀t:Tm,sS t->CC 136 af [eo t] (iI (vv t))
 |.mk k n s ts,hw=>f158 _ ((vu _).1 hw).1 λu hu=>WM u (((vu _).1 hw).2 u hu)
 decreasing_by simp[Tm.ts]at hu;have:=Xf hu;simp;omega
def Qs:Int->aj Tm->Bool
 |_,[]=>ab
 |ax,t::l=>if 60<QY.wrap (ax+vv t)then af else Qs (QY.wrap (ax+vv t)) l
def FU(l:aj Tm):Bool:=if 8<l.length then af else Qs 0 l
def arY(l:aj Tm)(hw:∀t∈l,sS t):CC 69 af [iT l] (iB (FU l)):=by
 refine CC.of axB kr kr az az ?_;simp[agf,UU];by_cases h8:8<l.length
 .left;exact⟨ak,by simp[FU,h8]⟩
 right;exists ak;refine gK l.length (λi (a:Int)=>[iI i,iI a]) (λi a=>FU l=Qs a (l.drop i)) 0 ?_ ?_ λi a hi hI=>?_
 .simp[UU]
 .simp[FU,h8]
 by_cases aq:i<l.length
 .rw[UQ aq,Qs]at hI;have nC:=aS aq ak;have h3:=WM l[i] (hw _ (Z4 aq));rw[bL]at h3;simp[UU,aq,nC,iJ aq,bL,aw];exists _,h3;simp[UU,nC];by_cases hs:60<QY.wrap (a+vv l[i])
  .left;exact⟨hs,by rw[hI,aW hs]⟩
  .right;exact⟨ak,ak,by rw[hI,aY hs]⟩
 .simp[UU,aq];rw[hI,ZX ak,Qs]
mutual
def oM:Tm->Prop
 |.mk _ _ s ts=>Sm s/\Sm ts/\Yt ts
def Yt:aj Tm->Prop
 |[]=>True
 |t::l=>oM t/\Yt l
end
def adb:∀l:aj Tm,Yt l↔∀t∈l,oM t
 |[]=>by simp[Yt]
 |t::l=>by simp[Yt,adb l]
def rB(t:Tm):oM t↔Sm t.s/\Sm t.ts/\∀u∈t.ts,oM u:=by cases t;simp[oM,adb,Tm.ts,Tm.s]
def oM.wf:∀t:Tm,oM t->sS t
 |.mk k n s ts,h=>(vu _).2 ⟨((rB _).1 h).2.1,λu hu=>oM.wf u (((rB _).1 h).2.2 u hu)⟩
 decreasing_by simp[Tm.ts]at hu;have:=Xf hu;simp;omega
mutual
def eH:Tm->Prop
 |.mk k n _ ts=>(k=1->0<=n/\n<=1048576)/\(k=2->Lh ts)
def Lh:aj Tm->Prop
 |[]=>True
 |t::l=>eH t/\Lh l
end
def aiz:∀l:aj Tm,Lh l↔∀t∈l,eH t
 |[]=>by simp[Lh]
 |t::l=>by simp[Lh,aiz l]
def FV(t:Tm):eH t↔(t.k=1->0<=t.n/\t.n<=1048576)/\(t.k=2->∀u∈t.ts,eH u):=by cases t;simp[eH,aiz,Tm.ts,Tm.k,Tm.n]
def agU(h:eH t)(hu:u∈cN t):eH u:=by
 unfold cN at hu;split at hu
 .exact((FV t).1 h).2 ES u hu
 .simp at hu
def bN{B:Type}{p:B->Prop}{l:aj B}(h:i<l.length)(h1:∀u∈l.take i,p u)(h2:p l[i]):∀u∈l.take (i+1),p u:=by
 intro u hu;rw[ZN h]at hu;rcases ZV.1 hu with hu|hu
 .exact h1 u hu
 .simp at hu;subst hu;exact h2
def cb{B:Type}{p:B->Prop}{l:aj B}(h:¬i<l.length)(h1:∀u∈l.take i,p u):∀u∈l,p u:=by
 rwa[Wg ak]at h1
structure Gl where
 op:Int
 s:aj UInt8
 ts:aj Tm
structure Rl where
 name:aj UInt8
 aA:aj At
 aC:aj At
 aL:aj Gl
 bC:aj Gl
 vars:Int
abbrev Rl.hsQ(r:Rl):aj At:=r.aA++r.aC
structure De where
 s:aj UInt8
 n:Int
structure Pg where
 bU:aj De
 aX:aj Rl
def il(g:Gl):IV:=.agg [iI g.op,iS g.s,iT g.ts]
abbrev gw(l:aj Gl):IV:=.tree 3 (l.map il)
def cy(r:Rl):IV:=.agg [iS r.name,db r.aA,db r.aC,gw r.aL,gw r.bC,iI r.vars]
abbrev FW(l:aj Rl):IV:=.tree 6 (l.map cy)
def uM(d:De):IV:=.agg [iS d.s,iI d.n]
abbrev rC(l:aj De):IV:=.tree 2 (l.map uM)
def bc(p:Pg):IV:=.agg [rC p.bU,FW p.aX]
def FX(a:Gl):Pure (il a):=.agg _ az
@[simp] theorem aCh(l:aj Gl):Pure (gw l):=lS 3 il (λa=>⟨_,rfl,az⟩) l
def fO(a:Rl):Pure (cy a):=.agg _ az
@[simp] theorem aCi(l:aj Rl):Pure (FW l):=lS 6 cy (λa=>⟨_,rfl,az⟩) l
@[simp] theorem Ow(l:aj De):Pure (rC l):=lS 2 uM (λa=>⟨_,rfl,az⟩) l
def cz(a:Pg):Pure (bc a):=.agg _ az
def vI(a:At):Prop:=Sm a.s/\Sm a.ts/\∀t∈a.ts,oM t
def tR(a:Gl):Prop:=Sm a.s/\Sm a.ts/\∀t∈a.ts,oM t
def mh(op:Int):Int:=if op=1\/op=2 then 0 else if op=11\/op=12 then 1 else if 2<op/\op<11 then 2 else-1
def aCj(op:Int):CC 139 af [iI op] (iI (mh op)):=by
 refine CC.of ayl kr kr az az ?_;simp[agL,UU,mh]
 grind
def R_{l:aj De}(h:i<l.length):cu 2 (rC l) (iI (i:Nat))=aa (.agg [iS l[i].s,iI l[i].n]):=cM (by simp[h,uM]) rfl
def sj{l:aj Gl}(h:i<l.length):cu 3 (gw l) (iI (i:Nat))=aa (.agg [iI l[i].op,iS l[i].s,iT l[i].ts]):=cM (by simp[h,il]) rfl
def gk:Z2.funcs.size=306:=kr
open Go.Shelf
def Tryz.aGo:Go.Shelf.Ren:=⟨λ|144=>280|143=>281|219=>282|217=>283|225=>284|224=>285|267=>286|266=>287|314=>288|n=>n,λ|9=>9|4=>4|3=>3|5=>5|46=>33|146=>298|51=>267|n=>n,λ|1=>0|n=>n⟩
def Tryz.lays144:aK2 Z2 Tryz.aGo:={
 mixed:=by kernel_rfl
 f143:=Tryz.func281.trans (congrArg aa (by kernel_rfl))
 f144:=Tryz.func280.trans (congrArg aa (by kernel_rfl))
 f217:=Tryz.func283.trans (congrArg aa (by kernel_rfl))
 f219:=Tryz.func282.trans (congrArg aa (by kernel_rfl))
 f224:=Tryz.func285.trans (congrArg aa (by kernel_rfl))
 f225:=Tryz.func284.trans (congrArg aa (by kernel_rfl))
 f266:=Tryz.func287.trans (congrArg aa (by kernel_rfl))
 f267:=Tryz.func286.trans (congrArg aa (by kernel_rfl))
 f314:=Tryz.func288.trans (congrArg aa (by kernel_rfl))
 t3:=Tryz.underlying3
 a3:=Tryz.isAgg3
 z3:=Tryz.sizeOf3
 v3:=Tryz.zeroValue3
 t4:=Tryz.underlying4
 a4:=Tryz.isAgg4
 z4:=Tryz.sizeOf4
 v4:=Tryz.zeroValue4
 t5:=Tryz.underlying5
 a5:=Tryz.isAgg5
 z5:=Tryz.sizeOf5
 v5:=Tryz.zeroValue5
 t9:=Tryz.underlying9
 a9:=Tryz.isAgg9
 z9:=Tryz.sizeOf9
 v9:=Tryz.zeroValue9
 t46:=Tryz.underlying33
 a46:=Tryz.isAgg33
 z46:=Tryz.sizeOf33
 v46:=Tryz.zeroValue33
 t51:=Tryz.underlying267
 a51:=Tryz.isAgg267
 z51:=Tryz.sizeOf267
 v51:=Tryz.zeroValue267
 t146:=Tryz.underlying298
 a146:=Tryz.isAgg298
 z146:=Tryz.sizeOf298
 v146:=Tryz.zeroValue298
 g1:=by kernel_rfl}
open Go.RowKit Go.Lib in
theorem Tryz.strings_Contains_one(s:ByteArray)(c:UInt8)(w:World):
 Calls Z2 280 #[.string s,.string ⟨#[c]⟩] w λe w'=>e=.returned (.bool (decide (0<=YP s.data.toList c)))/\w'=w:=Any.strings_Contains_one Tryz.lays144 s c w
open Go.Ev in
def aCk(s:aj UInt8)(c:UInt8):fe Z2 af af 280 [.raw (.string ⟨s.toArray⟩),.raw (.string ⟨#[c]⟩)] (.raw (.bool (decide (0<=YP s c)))):=by
 intro M w us hM vC
 have aCl:us=[.string ⟨s.toArray⟩,.string ⟨#[c]⟩]:=by
  obtain⟨hl,hr⟩:=vC
  match us,hl with
  |[a,b],_=>
   have h1:=hr 0 _ a rfl rfl;have h2:=hr 1 _ b rfl rfl;cases h1;cases h2;rfl
 subst aCl;refine(callsIn_wide.2 (Tryz.strings_Contains_one ⟨s.toArray⟩ c w)).mono ?_;rintro e w' ⟨rfl,rfl⟩;exact⟨rfl,M,hM,λb c h=>.inl ⟨rfl,h⟩,λ_ b c h=>h,.raw _,rfl,rfl,rfl,XS _,λ_ _=>rfl⟩
open Go Go.Ev
@[simp] theorem aFg(t:VK)(a b:Int):dN Z2 .eql t (uL a) (uL b)=aa (iB (a==b)):=rfl
@[simp] theorem aFh(t:VK)(a b:Int):dN Z2 .gtr t (.raw (.int .i32 a)) (.raw (.int .i32 b))=aa (iB (decide (a>b))):=rfl
@[simp] theorem aFi(g:Int):Py Z2 21 5 (.raw (.int .i32 g))=aa (uL (aKT.wrap g)):=by kernel_rfl
@[simp] theorem aFj(l:aj UInt8)(p:Nat):kS 0 (iS l) (iI (p:Nat))=aa (iB (decide (p<l.length))):=by simp[kS,JZ]
@[simp] theorem aFk(l:aj UInt8)(p:Nat):kS 1 (iS l) (iI (p:Nat))=aa (.raw (.int .i32 (Nf ⟨l.toArray⟩ p).1)):=by simp[kS]
@[simp] theorem aFl(l:aj UInt8)(p:Nat):kS 2 (iS l) (iI (p:Nat))=aa (iI ((p+(Nf ⟨l.toArray⟩ p).2:Nat):Int)):=by simp[kS]
section
variable{n:Nat}
def CC.dB{s:Bool}(he:jc Z2 cfg n aH f=dO)(hl:(Z2.funcs[f]?).map (·.params.size)=aa av.length)(ht:∀z,pU Z2 f z=ab)(hp:∀x∈av,Pure x)(hn:noTwo dO=ab)
 (hs:StQ dO (Ah (·=s)) [] av):CC f aH av (iB s):=by
 obtain⟨b,rfl,h⟩:=CC.Vv (·=s) he hl ht hp hn hs;exact h
def vU(c:Int):Bool:=decide (97<=c/\c<=122)
def Jm(c:Int):Bool:=decide (65<=c/\c<=90)
def so(c:Int):Bool:=vU c||Jm c||decide (48<=c/\c<=57)||decide (c=95)
def Li(s:aj UInt8):Bool:=s==[99,111,110,115,116,114,97,105,110,116]||s==[116,114,117,101]||s==[102,97,105,108]||s==[105,115]||s==[105,110,116]||s==[103,114,111,117,110,100]
def wZ(s:aj UInt8):Bool:=s==[43]||s==[45]||s==[42]||s==[47]||s==[37]
def AZ(s:aj UInt8):Bool:=s.all (λc=>so c.toNat)&&(decide (1<=s.length)&&decide (s.length<=40))
def ic(s:aj UInt8):Bool:=AZ s&&vU ((s.headD 0).toNat:Int)&& !Li s
def v148(c:Int):CC 71 af [uL c] (iB (vU c)):=by
 refine CC.dB aya kr (λ_=>kr) az cE ?_;simp[agA,UU,vU];omega
def v198(c:Int):CC 137 af [uL c] (iB (Jm c)):=by
 refine CC.dB ayb kr (λ_=>kr) az cE ?_;simp[agB,UU,Jm];omega
def aCm(c:aj UInt8):CC 72 af [iS c] (iB (Li c)):=by
 refine CC.dB ayc kr (λ_=>kr) az cE ?_;simp[agC,UU,Li]
 grind
def aCn(c:aj UInt8):CC 257 af [iS c] (iB (wZ c)):=by
 refine CC.dB ayi kr (λ_=>kr) az cE ?_;simp[agI,UU,wZ]
 grind
def aor(c:Int):so c=ab↔vU c=ab\/Jm c=ab\/(48<=c/\c<=57)\/c=95:=by simp[so,or_assoc]
def aCo(c:aj UInt8)(hc:Sm c):CC 70 af [iS c] (iB (AZ c)):=by
 refine CC.dB ax_ kr (λ_=>kr) az cE ?_;simp[agz,UU];refine gK c.length (λi (_:Unit)=>[iI i]) (λi _=>∀u∈c.take i,so u.toNat=ab) () ?_ ?_ λi _ hi hI=>?_
 .rfl
 .simp
 by_cases aq:i<c.length
 .have hw:=aS aq hc;have h1:=v148 c[i].toNat;have h2:=v198 c[i].toNat
  have dw:¬so c[i].toNat=ab->AZ c=af:=λh=>by
   grind [AZ]
  have QL:=λh=>bN (p:=λu:UInt8=>so u.toNat=ab) aq hI h;rw[aor]at dw QL;simp[UU,aq];exists _,h1;cases dL:vU c[i].toNat with
  |true=>simp;grind
  |false=>
   simp;exists _,h2;cases fD:Jm c[i].toNat with
   |true=>simp;grind
   |false=>
    simp at QL dw⊢
    grind
 .have:=cb aq hI;simp[UU,AZ]
  grind
def agV{c:aj UInt8}(h:AZ c=ab):0<c.length:=by
 grind [AZ]
def v89(c:aj UInt8)(hc:Sm c):CC 26 af [iS c] (iB (ic c)):=by
 refine CC.dB aB9 kr (λ_=>kr) az cE ?_;have h1:=aCo c hc;have h3:=aCm c;simp[al6,UU];exists _,h1;cases hw:AZ c with
 |false=>simp[ic,hw]
 |true=>
  have hl:=agV hw;have h2:=v148 c[0].toNat;have h0:c.headD 0=c[0]:=by cases c with|nil=>grind|cons=>rfl
  have hn:ic c=(AZ c&&vU c[0].toNat&& !Li c):=by rw[<-h0];rfl
  rw[hn];simp[hl];exists _,h2;cases hb:vU c[0].toNat with
  |false=>simp
  |true=>
   simp;exact⟨_,h3,by simp[hw]⟩
def aCp(s:aj UInt8):CC 192 af [iS s] (iB (Li s)):=by
 refine CC.dB ax5 kr (λ_=>kr) az cE ?_;simp[agu,UU,Li]
 grind (splits:=40)
def Jn(c:Int):Int:=if vU c then 1 else if Jm c||decide (c=95)then 2 else if decide (48<=c/\c<=57)then 4 else 0
def arZ(c:Int):CC 227 af [uL c] (uL (Jn c)):=by
 refine CC.of ax4 kr kr az az ?_;simp[agt,UU,Jn,vU,Jm]
 grind (splits:=40)
def aCq(s:aj UInt8):CC 268 af [iS s] (iB (wZ s)):=by
 refine CC.dB ax6 kr (λ_=>kr) az cE ?_;simp[agv,UU]
 match s with
 |[c]=>
  have hb:CC 280 af [iS [43,45,42,47,37],iS [c]] (.raw (.bool (decide (0<=YP [43,45,42,47,37] c)))):=CC.plain (by simp_all[gk]) (aCk _ c) (.raw _) kr;left;exists az,_,hb;have i43:=Lib.indexByte_ge;simp[wZ,YP]
  grind
 |[]=>simp_all[wZ]
 |_::_::_=>grind [wZ]
def aos(c:Int):dN Z2 .and 223 (uL (Jn c)) (uL 7)=aa (uL (Jn c)):=by
 unfold Jn;split
 .rfl
 split
 .rfl
 split<;>rfl
def ajP(c:Int):dN Z2 .and 223 (uL (Jn c)) (uL 1)=aa (uL (if vU c then 1 else 0)):=by
 unfold Jn;split
 .rfl
 split
 .rfl
 split<;>rfl
def ayw(c:Int):Jn c=0↔so c=af:=by
 grind [Jn,so]
def aGC(c:UInt8)(s:aj UInt8):ic (c::s)=(vU c.toNat&&decide (s.length<=39)&&s.all (λc=>so c.toNat)&& !Li (c::s)):=by
 unfold ic AZ;cases h:vU c.toNat with
 |false=>grind
 |true=>
  have:so c.toNat=ab:=by simp[so,h]
  grind
def v83(s:aj UInt8):CC 154 af [iS s] (iB (ic s)):=by
 refine CC.dB aB6 kr (λ_=>kr) az cE ?_;have hr:=aCp s;cases s with
 |nil=>simp[aec,UU];rfl
 |cons c s'=>
  have ha:=arZ (c.toNat:Int);simp[aec,UU];by_cases h1:(40:Int)<s'.length+1
  .left;exists h1;rw[aGC];simp;omega
  right;exists ak,_,ha;simp[ajP];have hl:(decide (s'.length<=39))=ab:=eE;rw[aGC,hl];cases h2:vU c.toNat with
  |false=>simp
  |true=>
  simp;refine⟨iS s',?_,⟨_,arX s'⟩,?_⟩
  .have e1:((s'.length:Int)+1).toNat- 1=s'.length:=ak;simp[lz,JZ,e1];omega
  refine Lc (λp:Nat=>[.aU [iS s',iI p]]) (λp=>p<=s'.length/\∀u∈s'.take p,so u.toNat=ab) (λp=>s'.length- p) 0 ?_ az λp ⟨hp0,hI⟩=>?_
  .simp[UU]
  by_cases hp:p<s'.length
  .have nf:p<(⟨s'.toArray⟩:ByteArray).size:=by simpa[JZ]using hp
   have td:((⟨s'.toArray⟩:ByteArray)[p]'nf)=s'[p]:=by simp[aK_]
   have hn:¬((p:Int)<0):=ak;have dw:so s'[p].toNat=af->(∀x∈s',so x.toNat=ab)->Li (c::s')=ab:=λh ha=>bH (ha _ (Z4 hp)) (by simp[h]);by_cases ajQ:s'[p].toNat<128
   .have Jo:=decode_ascii ⟨s'.toArray⟩ p nf (by rw[td];exact ajQ);rw[td]at Jo;have Cp:=arZ (s'[p].toNat:Int)
    have nC:aKT.wrap (s'[p].toNat:Int)=s'[p].toNat:=by
     simp only[IntKind.wrap,IntKind.bits];simp;omega
    simp[UU,hp,Jo,hn,nC];by_cases Xw:122<(s'[p].toNat:Int)
    .left;exact⟨Xw,dw (by simp[so,vU,Jm];omega)⟩
    right;exists ak,_,Cp;simp[aos,ayw];cases hc:so s'[p].toNat with
    |false=>simp;exact dw hc
    |true=>simp;exact⟨p+1,ak,⟨ak,bN (p:=λu:UInt8=>so u.toNat=ab) hp hI hc⟩,ak⟩
   .have⟨A_,uc⟩:=decode_high ⟨s'.toArray⟩ p nf (by rw[td];omega);generalize Jo:Nf ⟨s'.toArray⟩ p=dd at A_ uc;have⟨rn,w⟩:=dd;simp[UU,hp,Jo,hn];left;exact⟨ak,dw (by simp[so,vU,Jm];omega)⟩
  .have:=cb hp hI;have ha:(s'.all λc=>so c.toNat)=ab:=by simpa using this
   simp[UU,hp];exact⟨_,hr,by simp[ha]⟩
end
mutual
def fy:Tm->Bool
 |.mk k n s ts=>if k=0 then decide (-2147483648<=n)&&decide (n<=2147483648)&&s.isEmpty&&ts.isEmpty
  else if k=1 then decide (0<=n)&&decide (n<=1048576)&&s.isEmpty&&ts.isEmpty
  else if k=2 then decide (n=0)&&((wZ s&&decide (ts.length=2))||(ic s&&decide (ts.length<=6)))&&Hy ts
  else af
def Hy:aj Tm->Bool
 |[]=>ab
 |t::l=>fy t&&Hy l
end
def Dk:∀l:aj Tm,Hy l=l.all fy
 |[]=>rfl
 |t::l=>by simp[Hy,Dk l]
def aa8(h:t.k=0):fy t=(decide (-2147483648<=t.n)&&decide (t.n<=2147483648)&&t.s.isEmpty&&t.ts.isEmpty):=by
 cases t;simp[Tm.k]at h;subst h;simp[fy,Tm.n,Tm.s,Tm.ts];rfl
def Sa(h:t.k=1):fy t=(decide (0<=t.n)&&decide (t.n<=1048576)&&t.s.isEmpty&&t.ts.isEmpty):=by
 cases t;simp[Tm.k]at h;subst h;simp[fy,Tm.n,Tm.s,Tm.ts];rfl
def Sc(h:t.k=2):fy t=(decide (t.n=0)&&((wZ t.s&&decide (t.ts.length=2))||(ic t.s&&decide (t.ts.length<=6)))&&t.ts.all fy):=by
 cases t;simp[Tm.k]at h;subst h;simp[fy,Tm.n,Tm.s,Tm.ts,Dk];rfl
def aa9(h0:t.k≠0)(h1:t.k≠1)(h2:t.k≠2):fy t=af:=by
 cases t;simp[Tm.k]at h0 h1 h2;simp[fy,h0,h1,h2]
def Yv{B:Type}{p:B->Bool}{l:aj B}(h:i<l.length)(hp:p l[i]=af):l.all p=af:=List.all_eq_false.2 ⟨l[i],Z4 h,by simp[hp]⟩
def ayx(t:Tm)(hs:Sm t.s)(hl:Sm t.ts)(ih:∀u∈t.ts,CC 224 af [eo u] (iB (fy u))):CC 224 af [eo t] (iB (fy t)):=by
 refine CC.dB ayh kr (λ_=>kr) (by simpa using mZ t) cE ?_;rw[bL];have h1:=aCn t.s;have h2:=v89 t.s hs
 have l2:∀b,b=t.ts.all fy->∀x y,StQ Jk (Ah (·=b)) [] [.agg [iI t.k,iI t.n,iS t.s,iT t.ts],x,y]:=λb hb x y=>by
  unfold Jk;refine gK t.ts.length (λi (_:Unit)=>[iI i]) (λi _=>∀u∈t.ts.take i,fy u=ab) () ?_ ?_ λi _ hi hI=>?_
  .simp[UU]
  .simp
  by_cases aq:i<t.ts.length
  .have hw:=aS aq hl;have hb:=ih t.ts[i] (Z4 aq);rw[bL]at hb;simp only[Ot,aI9,acy,aGs,aaO,aI1];simp[UU,aq,hw,iJ aq,bL,aw];exists _,hb;cases hf:fy t.ts[i]<;>simp
   .subst b;exact Yv aq hf
   .exact⟨ak,bN (p:=λu=>fy u=ab) aq hI hf⟩
  .have:=cb aq hI;simp[UU,aq];subst b;simpa using this
 have l1:∀b,b=t.ts.all fy->∀x,StQ Ou (Ah (·=b)) [] [.agg [iI t.k,iI t.n,iS t.s,iT t.ts],x]:=λb hb x=>by
  unfold Ou;refine gK t.ts.length (λi (_:Unit)=>[iI i]) (λi _=>∀u∈t.ts.take i,fy u=ab) () ?_ ?_ λi _ hi hI=>?_
  .simp[UU]
  .simp
  by_cases aq:i<t.ts.length
  .have hw:=aS aq hl;have hb:=ih t.ts[i] (Z4 aq);rw[bL]at hb;simp only[Ot,aI9,acy,aGs,aaO,aI1];simp[UU,aq,hw,iJ aq,bL,aw];exists _,hb;cases hf:fy t.ts[i]<;>simp
   .subst b;exact Yv aq hf
   .exact⟨ak,bN (p:=λu=>fy u=ab) aq hI hf⟩
  .have:=cb aq hI;simp[UU,aq];subst b;simpa using this
 have e02:aHu=Jk:=rfl;simp[agH,UU,e02,aw];have ee:∀l:aj Tm,l.isEmpty=decide (l.length=0):=λl=>by cases l<;>simp
 have em:=aKg (t.s=[]);by_cases k0:t.k=0
 .left;exists k0;rw[aa8 k0];simp;grind
 right;exists k0;by_cases k1:t.k=1
 .left;exists k1;rw[Sa k1];simp;grind
 right;exists k1;by_cases k2:t.k=2
 .left;exists k2,_,h1;rw[Sc k2];by_cases n0:t.n=0
  .cases b1:wZ t.s with
   |true=>
    simp[n0];by_cases jL:(t.ts.length:Int)=2
    .right;exists ak;have DV:t.ts.length=2:=ak;exact n0▸l1 _ (by simp[DV]) _
    .left;have DV:¬t.ts.length=2:=ak;exists ak,_,h2;cases b2:ic t.s<;>simp[DV];by_cases h6:6<(t.ts.length:Int)
     .left;exact⟨h6,λ_=>ak⟩
     .right;exact⟨ak,n0▸l2 _ eE _ _⟩
   |false=>
    simp[n0];exists _,h2;cases b2:ic t.s<;>simp;by_cases h6:6<(t.ts.length:Int)
    .left;exact⟨h6,λ_=>ak⟩
    .right;exact⟨ak,n0▸l2 _ eE _ _⟩
  .cases b1:wZ t.s<;>simp[n0]
 .right;exact⟨k2,aa9 k0 k1 k2⟩
def ar0:∀t:Tm,oM t->CC 224 af [eo t] (iB (fy t))
 |.mk k n s ts,h=>ayx _ ((rB _).1 h).1 ((rB _).1 h).2.1 λu hu=>ar0 u (((rB _).1 h).2.2 u hu)
 decreasing_by simp[Tm.ts]at hu;have:=Xf hu;simp;omega
mutual
def mj:Tm->Nat
 |.mk k _ _ ts=>if k=2 then eC ts+1 else 1
def eC:aj Tm->Nat
 |[]=>0
 |t::l=>mj t+eC l
end
mutual
def Ct:Tm->Nat
 |.mk k _ _ ts=>if k=2 then kU ts+1 else 1
def kU:aj Tm->Nat
 |[]=>0
 |t::l=>max (Ct t) (kU l)
end
def wk(t:Tm):mj t=eC (cN t)+1:=by
 obtain⟨k,n,s,ts⟩:=t;show mj (.mk k n s ts)=eC (if k=2 then ts else[])+1;by_cases hk:k=2<;>simp[mj,hk,eC]
def Lj(t:Tm):Ct t=kU (cN t)+1:=by
 obtain⟨k,n,s,ts⟩:=t;show Ct (.mk k n s ts)=kU (if k=2 then ts else[])+1;by_cases hk:k=2<;>simp[Ct,hk,kU]
def A4(a b:aj Tm):eC (a++b)=eC a+eC b:=by
 induction a with
 |nil=>simp[eC]
 |cons t l ih=>simp[eC,ih];omega
def aGl(a b:aj Tm):kU (a++b)=max (kU a) (kU b):=by
 induction a with
 |nil=>simp[kU]
 |cons t l ih=>simp[kU,ih]
def Jp(h:t∈l):mj t<=eC l:=by
 induction l with
 |nil=>cases h
 |cons u l ih=>rcases ZP.1 h with rfl|h
               .simp[eC]
               .have:=ih h;simp[eC];omega
def Ox(h:t∈l):Ct t<=kU l:=by
 induction l with
 |nil=>cases h
 |cons u l ih=>rcases ZP.1 h with rfl|h
               .simp[kU];omega
               .have:=ih h;simp[kU];omega
def aa_(t:Tm):1<=mj t:=by rw[wk];omega
def aot(t:Tm):1<=Ct t:=by rw[Lj];omega
def aou(h:u∈cN t):mj u<mj t:=by
 have:=Jp h;rw[wk t];omega
def aba(l:aj Tm)(h:∀t∈l,Ct t<=mj t):kU l<=eC l:=by
 induction l with
 |nil=>simp[kU]
 |cons t l ih=>have:=h t az;have:=ih λu hu=>h u (by simp[hu]);simp[kU,eC];omega
def agW:∀t:Tm,Ct t<=mj t
 |.mk k n s ts=>by
  have h:=aba (cN (.mk k n s ts)) λu hu=>agW u;rw[wk,Lj];omega
 decreasing_by have:=rR hu;simp[Tm.ts]at this;have:=Xf this;simp;omega
def aIZ:∀(l:aj Tm) (ax:Nat),(∀t∈l,vv t=mj t)->ax+eC l<=1000000000000->zi ax l=((ax+eC l:Nat):Int)
 |[],ax,_,_=>by simp[zi,eC]
 |t::l,ax,h,hb=>by
  simp only[eC]at hb⊢;rw[zi,h t az,eU ak ak];have:=aIZ l (ax+mj t) (λu hu=>h u (by simp[hu])) ak;rw[show((ax:Int)+(mj t:Int))=((ax+mj t:Nat):Int) by simp,this]
  congr 1;omega
def Lk:∀t:Tm,mj t<=1000000000000->vv t=mj t
 |.mk k n s ts,hb=>by
  have h:=aIZ (cN (.mk k n s ts)) 1 (λu hu=>Lk u (by have:=aou hu;omega)) (by rw[wk]at hb;omega);rw[aGw,wk,show(1:Int)=((1:Nat):Int)from rfl,h]
  congr 1;omega
 decreasing_by have:=rR hu;simp[Tm.ts]at this;have:=Xf this;simp;omega
def Yx(a b:Int):QW Z2 [iI a,iI b]=aa (iI (if b>a then b else a)):=rfl
def Ll(h:i<l.length):kU (l.take (i+1))=max (kU (l.take i)) (Ct l[i]):=by
 rw[ZN h,aGl];simp[kU]
def Lm(h:i<l.length):eC (l.take (i+1))=eC (l.take i)+mj l[i]:=by
 rw[ZN h,A4];simp[eC]
def aHB(l:aj Tm)(i:Nat):eC (l.take i)<=eC l:=by
 have:=A4 (l.take i) (l.drop i);rw[List.take_append_drop]at this;omega
def BT(t:Tm):Prop:=oM t/\mj t<=1000000000000
def Qv(l:aj Tm):Prop:=Sm l/\(∀t∈l,oM t)/\eC l<=1000000000000
theorem Qv.at(h:Qv l)(ht:t∈l):BT t:=⟨h.2.1 t ht,by have:=Jp ht;have:=h.2.2;omega⟩
def BT.args(h:BT t):Qv (cN t):=by
 have h1:=(rB t).1 h.1;have h2:=wk t;refine⟨?_,λu hu=>h1.2.2 u (rR hu),by have:=h.2;omega⟩;unfold cN;split
 .exact h1.2.1
 .simp
def ayy(t:Tm)(h:BT t)(ih:∀u∈cN t,CC 225 af [eo u] (iI (Ct u))):CC 225 af [eo t] (iI (Ct t)):=by
 refine CC.of ayj kr kr (by simpa using mZ t) az ?_;have GM:=Wi t;rw[bL]at GM⊢;simp[agJ,ae8,UU,aw];exists _,GM;have eG:(cN t).length<=9223372036854775807:=h.args.1;have Yy:kU (cN t)<=1000000000000:=Nat.le_trans (aba _ λu _=>agW u) h.args.2.2;exists az;refine gK (cN t).length (λi (a:Int)=>[iI i,iI a]) (λi a=>a=kU ((cN t).take i)) 0 ?_ ?_ λi a hi ha=>?_
 .simp[UU]
 .simp[kU]
 by_cases aq:i<(cN t).length
 .have hw:=aS aq eG;have hb:=ih (cN t)[i] (Z4 aq);rw[bL]at hb;simp[UU,aq,hw,iJ aq,bL,aw];exists _,hb;simp[UU,Yx,aZ,hw];have g1:=Ll aq;refine⟨?_,ak⟩;rw[g1,ha];split<;>omega
 .have:(cN t).take i=cN t:=Wg ak;rw[this]at ha;have nC:QY.wrap (a+1)=a+1:=eU ak ak;simp[UU,aq,nC];rw[Lj,ha];simp
def ar1:∀t:Tm,BT t->CC 225 af [eo t] (iI (Ct t))
 |.mk k n s ts,h=>ayy _ h λu hu=>ar1 u (h.args.at hu)
 decreasing_by have:=rR hu;simp[Tm.ts]at this;have:=Xf this;simp;omega
def o9(t:Tm):Bool:=fy t&&decide (mj t<=200)&&decide (Ct t<=20)
def nW(l:aj Tm):Bool:=l.all fy&&decide (eC l<=200)&&decide (kU l<=20)
def kJ(a:At):Bool:=ic a.s&&decide (a.ts.length<=6)&&nW a.ts
def fF(g:Gl):Bool:=if g.op=0 then kJ ⟨g.s,g.ts⟩else g.s.isEmpty&&decide (mh g.op=g.ts.length)&&nW g.ts
def aCr(t:Tm)(h:BT t):CC 183 af [eo t] (iB (o9 t)):=by
 refine CC.dB ayg kr (λ_=>kr) (by simpa using mZ t) cE ?_;have h1:=ar0 t h.1;have h2:=WM t h.1.wf;have h3:=ar1 t h;rw[Lk t h.2]at h2;rw[bL]at h1 h2 h3⊢;simp[agG,UU,aw];exists _,h1;cases hf:fy t<;>simp[o9,hf];exists _,h2;simp;by_cases hs:mj t<=200
 .left;exact⟨ak,_,h3,by simp[hs];omega⟩
 .right;exact⟨ak,λh=>bH h hs⟩
def agX(h:i<l.length)(hp:o9 l[i]=af):nW l=af:=by
 have hm:=Z4 h;have h1:=Jp hm;have h2:=Ox hm;cases hf:fy l[i]with
 |false=>simp[nW,Yv h hf]
 |true=>
  simp[o9,hf]at hp;simp[nW];intro _ _;have:=hp;omega
def v107(l:aj Tm)(h:Qv l):CC 138 af [iT l] (iB (nW l)):=by
 refine CC.dB ayf kr (λ_=>kr) az cE ?_;simp[agF,aIz,UU,aw];refine gK l.length (λi (a:Int)=>[iI i,iI a]) (λi a=>a=eC (l.take i)/\(∀u∈l.take i,fy u=ab)/\kU (l.take i)<=20) 0 ?_ ?_ λi a hi hI=>?_
 .simp[UU]
 .simp[eC,kU]
 by_cases aq:i<l.length
 .have hw:=aS aq h.1;have hm:=Z4 aq;have hb:=aCr l[i] (h.at hm);have h2:=WM l[i] (h.at hm).1.wf;rw[Lk _ (h.at hm).2]at h2;rw[bL]at hb h2;simp[UU,aq,hw,iJ aq,bL,aw];exists _,hb;cases hr:o9 l[i]<;>simp
  .exact agX aq hr
  exists _,h2;have tn:=hr;simp[o9]at tn;have g1:=Lm aq;have g2:=aHB l (i+1);have g3:=h.2.2;have nC:QY.wrap (a+mj l[i])=a+mj l[i]:=by rw[hI.1];exact eU ak ak
  simp[hw,nC];exists ak,by rw[g1,hI.1];simp,bN (p:=λu=>fy u=ab) aq hI.2.1 tn.1.1;rw[Ll aq];have:=hI.2.2;omega
 .have ht:l.take i=l:=Wg ak;rw[ht]at hI;obtain⟨h1,h2,h3⟩:=hI;have we:l.all fy=ab:=by simpa using h2
  simp[UU,aq,nW,we,h3];subst a;by_cases hs:eC l<=200<;>simp[hs]
  .omega
  .omega
def v49(a:At)(hs:Sm a.s)(h:Qv a.ts):CC 75 af [.agg [iS a.s,iT a.ts]] (iB (kJ a)):=by
 refine CC.dB aCb kr (λ_=>kr) (by intro x hx;obtain rfl:=Z3.1 hx;exact xR a) cE ?_;have h1:=v89 a.s hs;have h2:=v107 a.ts h;simp[al9,UU,aw];exists _,h1;cases hn:ic a.s<;>simp[kJ,hn];by_cases hs:a.ts.length<=6
 .left;exact⟨ak,_,h2,by simp[hs]⟩
 .right;exact⟨ak,λh=>bH h hs⟩
def v152(g:Gl)(hs:Sm g.s)(h:Qv g.ts):CC 76 af [.agg [iI g.op,iS g.s,iT g.ts]] (iB (fF g)):=by
 refine CC.dB ayk kr (λ_=>kr) (by intro x hx;obtain rfl:=Z3.1 hx;exact FX g) cE ?_;have h1:=v49 ⟨g.s,g.ts⟩ hs h;have h2:=v107 g.ts h;have h3:=aCj g.op;simp[agK,UU,aw];by_cases k0:g.op=0
 .left;exact⟨k0,_,h1,by simp[fF,k0]⟩
 right;exists k0;by_cases ks:g.s=[]
 .left;exists ks,_,h3;simp;by_cases ka:mh g.op=g.ts.length
  .left;exact⟨ka,_,h2,by simp[fF,k0,ka,ks]⟩
  .right;exact⟨ka,by simp[fF,k0,ka]⟩
 .right;exact⟨ks,by simp[fF,k0,ks]⟩
def amc(p:Bool->Int->Prop)(z:IV):Prop:=∃(b:Bool) (n:Int),z=.aU [iB b,.agg [iI n]]/\p b n
@[simp] theorem aEF(p:Bool->Int->Prop)(b:Bool)(n:Int):amc p (.aU [iB b,.agg [iI n]])↔p b n:=
  ⟨λ⟨b',n',h1,h2⟩=>aI,λh=>⟨b,n,rfl,h⟩⟩
def CC.abb{n:Nat}{f:Nat}{m:Int}{s:Bool}{r:Int}(he:z_ Z2 cfg n [1] f=dO)(hl:(Z2.funcs[f]?).map (·.params.size)=aa (1+xs.length))(hn:noTwo dO=ab)
 (hs:dO.sat Z2 CC (amc λb k=>b=s/\(b=ab->k=r)) [] (iI m::xs)):∃k:Int,(s=ab->k=r)/\CC (612+f) ab (.agg [.agg [iI m]]::xs) (.aU [iB s,.agg [iI k]]):=by
 obtain⟨z,⟨b,k,rfl,rfl,hb⟩,h2⟩:=Ov hn hs;refine⟨k,hb,?_⟩;have h:=CC.alL (aH:=ab) (ins:=[[iI m]]) (outs:=[[iI k]]) (xs:=xs) (z:=iB b) (cfg:=cfg) (n:=n) (f:=f) he hl rfl (by simp[aw]) h2
 simp_all[gk]
def vJ(t:Tm)(n d:Int):Bool:=fy t&&decide ((mj t:Int)<=n)&&decide ((Ct t:Int)<=d)
def FY(l:aj Tm)(n d:Int):Bool:=l.all fy&&decide ((eC l:Int)<=n)&&decide ((kU l:Int)<=d)
def ar2{n d:Int}(h:i<l.length)(hp:vJ l[i] (n- eC (l.take i)) d=af):FY l n d=af:=by
 have hm:=Z4 h;have h2:=Ox hm;have g1:=Lm h;have g2:=aHB l (i+1);cases hf:fy l[i]with
 |false=>grind [FY]
 |true=>
  simp[vJ]at hp
  grind [FY]
def amd(l:aj Tm)(hl:Sm l)(d:Int)(hd:0<=d)(ih:∀u∈l,∀n:Int,0<=n->n<=1000->∃k:Int,(vJ u n d=ab->k=n- mj u)/\CC 859 ab [.agg [.agg [iI n]],eo u,iI d] (.aU [iB (vJ u n d),.agg [iI k]]))(n:Int)(hn:0<=n)(fY:n<=1000):
 ∃k:Int,(FY l n d=ab->k=n- eC l)/\CC 821 ab [.agg [.agg [iI n]],iT l,iI d] (.aU [iB (FY l n d),.agg [iI k]]):=by
 refine CC.abb (f:=209) (xs:=[iT l,iI d]) ax8 kr cE ?_;simp[agx,UU];refine aJ l.length (λi (a:Int)=>[iI i,iI a]) (λi a=>a=n- eC (l.take i)/\0<=a/\(∀u∈l.take i,fy u=ab)/\(kU (l.take i):Int)<=d) n ?_ (by simp[eC,kU,hn,hd]) λi a hi hI=>?_
 .rfl
 by_cases aq:i<l.length
 .have hw:=aS aq hl;have⟨iE,gx,sU,hI4⟩:=hI;have⟨k,hp,hb⟩:=ih l[i] (Z4 aq) a gx ak;rw[bL]at hb;simp[UU,aq,hw,iJ aq,bL,aw];exists _,hb;cases hr:vJ l[i] a d<;>simp[aZ]
  .exact ar2 aq (iE▸hr)
  .have tn:=hr;simp[vJ]at tn;have g1:=Lm aq;have g2:=Ll aq;have hk:=hp hr;exact .mk k rfl ak ⟨ak,ak,bN (p:=λu=>fy u=ab) aq sU tn.1.1,ak⟩
 .have ht:l.take i=l:=Wg ak;rw[ht]at hI;have⟨h1,h2,h3,h4⟩:=hI;have PC:l.all fy=ab:=aI;simp[UU,aZ]
  simp_all[FY]
def Sd(h:t.k=2):cN t=t.ts:=by simp[cN,h]
def Se(h:t.k≠2):cN t=[]:=by simp[cN,h]
def sz1(h:t.k≠2):mj t=1:=by simp[wk,Se h,eC]
def dp1(h:t.k≠2):Ct t=1:=by simp[Lj,Se h,kU]
def QU(h:t.k≠2)(n d:Int)(h1:1<=n)(h2:1<=d):vJ t n d=fy t:=by
 have e1:decide (((1:Nat):Int)<=n)=ab:=aI;have e2:decide (((1:Nat):Int)<=d)=ab:=aI;rw[vJ,sz1 h,dp1 h,e1,e2];simp
def ayz(h:t.k=2)(n d:Int):vJ t n d=(decide (t.n=0)&&((wZ t.s&&decide (t.ts.length=2))||(ic t.s&&decide (t.ts.length<=6)))&&FY t.ts (n- 1) (d- 1)):=by
 have e1:decide ((mj t:Int)<=n)=decide ((eC t.ts:Int)<=n- 1):=by rw[wk,Sd h];grind
 have e2:decide ((Ct t:Int)<=d)=decide ((kU t.ts:Int)<=d- 1):=by rw[Lj,Sd h];grind
 rw[vJ,e1,e2,Sc h,FY]
 grind
def ayA(t:Tm)(hs:Sm t.s)(hl:Sm t.ts)(d:Int)(ih:1<=d->∀u∈t.ts,∀n:Int,0<=n->n<=1000->∃k:Int,(vJ u n (d- 1)=ab->k=n- mj u)/\CC 859 ab [.agg [.agg [iI n]],eo u,iI (d- 1)] (.aU [iB (vJ u n (d- 1)),.agg [iI k]]))(n:Int)(hn:0<=n)(fY:n<=1000)(E5:0<=d)(M8:d<=1000):
 ∃k:Int,(vJ t n d=ab->k=n- mj t)/\CC 859 ab [.agg [.agg [iI n]],eo t,iI d] (.aU [iB (vJ t n d),.agg [iI k]]):=by
 refine CC.abb (f:=247) (xs:=[eo t,iI d]) ax7 kr cE ?_;rw[bL];have h1:=v83 t.s;have h2:=aCq t.s;have w1:QY.wrap (n- 1)=n- 1:=eU ak ak;have w2:QY.wrap (d- 1)=d- 1:=eU ak ak;simp[agw,UU,aw,aZ,w1,w2];have hz:=aa_ t;have hq:=aot t;by_cases y0:n- 1<0
 .grind [vJ]
 right;exists ak;by_cases y1:d<1
 .grind [vJ]
 right;exists ak;have⟨k3,hp3,h3⟩:=amd t.ts hl (d- 1) ak (ih ak) (n- 1) ak ak;have ee:t.ts.isEmpty=decide (t.ts.length=0):=aI;have es:t.s.isEmpty=decide (t.s=[]):=aI;have em:=aKg (t.s=[]);by_cases k0:t.k=0
 .left;exists k0;have k2:t.k≠2:=ak;rw[QU k2 n d ak ak,aa8 k0,sz1 k2]
  grind
 right;exists k0;by_cases k1:t.k=1
 .left;exists k1;have k2:t.k≠2:=ak;rw[QU k2 n d ak ak,Sa k1,sz1 k2]
  grind
 right;exists k1;by_cases k2:t.k=2
 rotate_left
 .right;exists k2;rw[QU k2 n d ak ak,aa9 k0 k1 k2]
 left;exists k2
 have NT:∀b:Bool,vJ t n d=(b&&FY t.ts (n- 1) (d- 1))->b=ab->FY t.ts (n- 1) (d- 1)=vJ t n d/\(FY t.ts (n- 1) (d- 1)=ab->k3=n- mj t):=λb e1 e2=>by
  refine⟨aI,λh=>?_⟩;rw[hp3 h,wk,Sd k2];omega
 rw[ayz k2]at NT⊢;by_cases n0:t.n=0
 rotate_left
 .grind
 right;exists n0;by_cases z6:(6:Int)<t.ts.length
 .grind
 have z6':t.ts.length<=6:=ak;right;exists ak,_,h1;cases b1:ic t.s with
 |true=>
  simp at NT⊢;exact⟨_,h3,jw⟩
 |false=>
  simp;exists _,h2;cases b2:wZ t.s with
  |false=>simp
  |true=>
   simp;by_cases z2':t.ts.length=2
   .simp[z2']at NT⊢;exact⟨_,h3,jw⟩
   omega
def v159:∀t:Tm,oM t->∀n d:Int,0<=n->n<=1000->0<=d->d<=1000->∃k:Int,(vJ t n d=ab->k=n- mj t)/\CC 859 ab [.agg [.agg [iI n]],eo t,iI d] (.aU [iB (vJ t n d),.agg [iI k]])
 |.mk k n s ts,h=>λn d h1 h2 h3 h4=>by
  exact ayA _ ((rB _).1 h).1 ((rB _).1 h).2.1 d (λhd u hu n a b=>v159 u (((rB _).1 h).2.2 u hu) n (d- 1) a b ak ak) n h1 h2 h3 h4
 decreasing_by simp[Tm.ts]at hu;have:=Xf hu;grind
def ar3(l:aj Tm)(hl:Sm l)(h:∀t∈l,oM t)(n d:Int)(h1:0<=n)(h2:n<=1000)(h3:0<=d)(h4:d<=1000):
 ∃k:Int,CC 821 ab [.agg [.agg [iI n]],iT l,iI d] (.aU [iB (FY l n d),.agg [iI k]]):=by
 have⟨k,_,h⟩:=amd l hl d h3 (λu hu n a b=>v159 u (h u hu) n d a b h3 h4) n h1 h2
 grind
def ae1(l:aj Tm):FY l 200 20=nW l:=by
 have e1:∀a b:Nat,decide ((a:Int)<=b)=decide (a<=b):=λa b=>by simp
 rw[FY,nW,show(200:Int)=((200:Nat):Int)from rfl,show(20:Int)=((20:Nat):Int)from rfl,e1,e1]
def v45(a:At)(h:vI a):CC 194 af [.agg [iS a.s,iT a.ts]] (iB (kJ a)):=by
 refine CC.dB aB7 kr (λ_=>kr) (by intro x hx;obtain rfl:=Z3.1 hx;exact xR a) cE ?_;have h1:=v83 a.s;have⟨k2,h2⟩:=ar3 a.ts h.2.1 h.2.2 200 20 ak ak ak ak;rw[ae1]at h2;simp[al5,UU,aw];exists _,h1;cases hn:ic a.s<;>simp[kJ,hn];by_cases hs:a.ts.length<=6
 .left;exact⟨ak,_,h2,by simp[hs]⟩
 .right;exact⟨ak,λh=>bH h hs⟩
def v138(g:Gl)(h:tR g):CC 166 af [.agg [iI g.op,iS g.s,iT g.ts]] (iB (fF g)):=by
 refine CC.dB ax9 kr (λ_=>kr) (by intro x hx;obtain rfl:=Z3.1 hx;exact FX g) cE ?_;have h1:=v83 g.s;have⟨k2,h2⟩:=ar3 g.ts h.2.1 h.2.2 200 20 ak ak ak ak;rw[ae1]at h2;have es:g.s.isEmpty=decide (g.s=[]):=by cases g.s<;>simp
 have ez:(g.ts=[])=(g.ts.length=0):=by cases g.ts<;>simp
 simp[agy,UU,aw];by_cases k0:g.op=0
 .left;exists k0,_,h1;cases hn:ic g.s<;>simp[fF,k0,kJ,hn];by_cases h6:g.ts.length<=6
  .left;exact⟨ak,_,h2,by simp[aw,h6]⟩
  .right;exact⟨ak,λh=>bH h h6⟩
 right;exists k0;have hG:∀A:Int,mh g.op=A->fF g=(decide (g.s=[])&&decide (A=g.ts.length)&&nW g.ts):=λA e=>by simp only[fF,k0,if_false,es,e]
 by_cases k1:g.op=1
 .left;exists k1;left;exists ak;left;exists ak;have gA:=hG 0 (by simp[mh,k1]);by_cases ks:g.s=[]
  .left;exists ks;by_cases kt:g.ts=[]
   .left;exact⟨kt,_,h2,by simp[aw,gA,ks,kt]⟩
   .right;exact⟨kt,by rw[gA];have:¬(0:Int)=g.ts.length:=λe=>kt (Kp ak);simp[this]⟩
  .right;exact⟨ks,by simp[gA,ks]⟩
 right;exists k1;by_cases k2:g.op=2
 .left;exists k2;left;exists ak;left;exists ak;have gA:=hG 0 (by simp[mh,k2]);by_cases ks:g.s=[]
  .left;exists ks;by_cases kt:g.ts=[]
   .left;exact⟨kt,_,h2,by simp[gA,ks,kt]⟩
   .right;exact⟨kt,by rw[gA];have:¬(0:Int)=g.ts.length:=λe=>kt (Kp ak);simp[this]⟩
  .right;exact⟨ks,by simp[gA,ks]⟩
 right;exists k2;by_cases Lo:g.op=11
 .left;exists Lo;left;exists ak;left;exists ak;have gA:=hG 1 (by simp[mh,Lo]);by_cases ks:g.s=[]
  .left;exists ks;by_cases kt:(g.ts.length:Int)=1
   .left;exact⟨kt,_,h2,by simp[gA,ks,kt]⟩
   .right;exact⟨kt,by rw[gA];simp;omega⟩
  .right;exact⟨ks,by simp[gA,ks]⟩
 right;exists Lo;by_cases Qw:g.op=12
 .left;exists Qw;left;exists ak;left;exists ak;have gA:=hG 1 (by simp[mh,Qw]);by_cases ks:g.s=[]
  .left;exists ks;by_cases kt:(g.ts.length:Int)=1
   .left;exact⟨kt,_,h2,by simp[gA,ks,kt]⟩
   .right;exact⟨kt,by rw[gA];simp;omega⟩
  .right;exact⟨ks,by simp[gA,ks]⟩
 right;exists Qw;by_cases p0:0<g.op
 rotate_left
 .right;exists ak;have:¬(2<g.op/\g.op<11):=ak;rw[hG (-1) (by simp[mh,k1,k2,Lo,Qw,this])];simp;try omega
 left;exists p0;by_cases p12:g.op<=12
 rotate_left
 .right;exists ak;have:¬(2<g.op/\g.op<11):=ak;rw[hG (-1) (by simp[mh,k1,k2,Lo,Qw,this])];simp;try omega
 left;exists p12;have hp:2<g.op/\g.op<11:=ak;have gA:=hG 2 (by simp[mh,k1,k2,Lo,Qw,hp]);by_cases ks:g.s=[]
 .left;exists ks;by_cases kt:(g.ts.length:Int)=2
  .left;exact⟨kt,_,h2,by simp[gA,ks,kt]⟩
  .right;exact⟨kt,by rw[gA];simp;omega⟩
 .right;exact⟨ks,by simp[gA,ks]⟩
def Vr(l:aj Int):Prop:=l.Nodup/\∀x∈l,0<=x/\x<=1048576
def agY:∀(N:Nat) (l:aj Int),l.Nodup->(∀x∈l,0<=x/\x<N)->l.length<=N
 |0,[],_,_=>by simp
 |0,x::l,_,h=>by have:=h x az;omega
 |N+1,l,hn,h=>by
  have ih:=agY N (l.erase (N:Int)) (hn.erase _) λx hx=>by
   have h1:=h x (List.mem_of_mem_erase hx);have h2:x≠(N:Int):=λhe=>by rw[hn.mem_erase_iff]at hx;exact hx.1 he
   omega
  rw[List.length_erase]at ih;split at ih<;>omega
variable{l a b:aj Int}
theorem Vr.len(h:Vr l):l.length<=1048577:=agY 1048577 l h.1 λx hx=>by have:=h.2 x hx;omega
def Vr.nil:Vr []:=⟨az,az⟩
def Vr.snoc{n:Int}(h:Vr l)(h1:n∉l)(h2:0<=n/\n<=1048576):Vr (l++[n]):=by
 refine⟨?_,λx hx=>?_⟩
 .rw[List.nodup_append];exact⟨h.1,az,λa ha b hb=>by simp at hb;subst hb;exactλhe=>h1 (he▸ha)⟩
 .rcases ZV.1 hx with hx|hx
  .exact h.2 x hx
  .simp at hx;subst hx;exact h2
def ayB:Z2.funcs.size=306:=kr
def Ai(p:aj Int->Prop)(z:IV):Prop:=∃l:aj Int,z=iL l/\p l
def ar4(h:iL a=iL b):a=b:=by
 injection h with _ h2
 exact(List.map_inj_right λx y hh=>by injection hh with hh;injection hh).1 h2
@[simp] theorem Sg(p:aj Int->Prop)(l:aj Int):Ai p (iL l)↔p l:=⟨λ⟨b',h1,h2⟩=>by rw[ar4 h1];exact h2,λh=>⟨l,rfl,h⟩⟩
def CC.ar5{n:Nat}(p:aj Int->Prop)(he:DH Z2 cfg n 1 f=dO)(hl:(Z2.funcs[f]?).map (·.params.size)=aa (xs.length+1))(hn:noTwo dO=ab)
 (hs:dO.sat Z2 CC (Ai p) [] (iL l::xs)):∃l',p l'/\CC (306+f) aH (iL l::xs) (iL l'):=by
 obtain⟨z,⟨l',rfl,hp⟩,h2⟩:=Ov hn hs;refine⟨l',hp,?_⟩;rw[<-ayB];exact CC.ofRow he hl h2
def CC.aCs{n:Nat}(p:aj Int->Prop)(he:jc Z2 cfg n aH f=dO)(hl:(Z2.funcs[f]?).map (·.params.size)=aa av.length)(ht:∀z,pU Z2 f z=ab)(hp:∀x∈av,Pure x)(hn:noTwo dO=ab)
 (hs:StQ dO (Ai p) [] av):∃l',p l'/\CC f aH av (iL l'):=by
 obtain⟨z,⟨l',rfl,hb⟩,h2⟩:=CC.tot he hl (λz _=>ht z) hp (by rintro _ ⟨b,rfl,_⟩;exact Hx b) hn hs;exact⟨l',hb,h2⟩
def ar6:jc Z2 (ia [aP 0 140 3 [3,4] [(0,0)]]) 400 ab 140=Qq:=kr
def lI{l:aj At}(h:i<l.length):cu 2 (db l) (iI (i:Nat))=aa (.agg [iS l[i].s,iT l[i].ts]):=aCg h
def MQ{a b:aj At}(h:a.length+b.length<=1000):dG 2 40 (db a) (db b)=aa (db (a++b)):=by
 have h2:jo 2 (b.map c_)=ab:=by
  unfold jo;rw[US];intro e he;obtain⟨x,_,rfl⟩:=Z6.1 he;rfl
 simp[dG,h2];omega
def Dl{B:Type}{s:Nat}{enc:B->IV}(h:∀a,∃cs,enc a=.agg cs/\cs.length=s/\cs.all aw=ab)(l:aj B):jo s (l.map enc)=ab:=by
 unfold jo;rw[US];intro e he;obtain⟨x,_,rfl⟩:=Z6.1 he;obtain⟨cs,h1,h2,h3⟩:=h x;rw[h1];simp only[aD,VM,beq_iff_eq];exact⟨h2,h3⟩
section sorting
variable{B:Type}{lt:B->B->Bool}
end sorting
def ame{a b:aj Gl}(h:a.length+b.length<=1000):dG 3 48 (gw a) (gw b)=aa (gw (a++b)):=by
 have h2:=Dl (s:=3) (enc:=il) (λx=>⟨_,rfl,rfl,rfl⟩) b;simp[dG,h2];omega
def bQ(r:Rl):cy r=.agg [iS r.name,db r.aA,db r.aC,gw r.aL,gw r.bC,iI r.vars]:=rfl
def Xx(r:Rl)(h:r.aA.length+r.aC.length<=1000):CC 73 af [cy r] (db (r.aA++r.aC)):=by
 refine CC.of ayd kr kr (by simpa using fO r) az ?_;have h1:=MQ (a:=[]) (b:=r.aA) eE;have h2:=MQ h;simp only[Qy,Wk]at h1;rw[bQ];simp[agD,UU,aw];exact⟨_,h1,h2⟩
def Nv(r:Rl)(h:r.aA.length+r.aC.length<=1000):CC 39 af [cy r] (db (r.aA++r.aC)):=by
 refine CC.of aCd kr kr (by simpa using fO r) az ?_;have h1:=MQ (a:=[]) (b:=r.aA) eE;have h2:=MQ h;simp only[Qy,Wk]at h1;rw[bQ];simp[ama,UU,aw];exact⟨_,h1,h2⟩
def ajR(r:Rl)(h:r.aL.length+r.bC.length<=1000):CC 74 af [cy r] (gw (r.aL++r.bC)):=by
 refine CC.of aye kr kr (by simpa using fO r) az ?_;have h1:=ame (a:=[]) (b:=r.aL) eE;have h2:=ame h;simp only[Qy,Wk]at h1;rw[bQ];simp[agE,UU,aw];exact⟨_,h1,h2⟩
def aov(x:Tm):∃cs,eo x=.agg cs/\cs.length=4/\cs.all aw=ab:=⟨_,bL x,rfl,rfl⟩
def FZ{a b:aj Tm}(h:a.length+b.length<=1000):dG 4 56 (iT a) (iT b)=aa (iT (a++b)):=by
 have h2:=Dl (s:=4) (enc:=eo) aov b;simp[dG,h2];omega
def nQ{l:aj Rl}(h:i<l.length):cu 6 (FW l) (iI (i:Nat))=aa (.agg [iS l[i].name,db l[i].aA,db l[i].aC,gw l[i].aL,gw l[i].bC,iI l[i].vars]):=cM (by simp[h,cy]) rfl
def jf(h:i<l.length):cu 1 (iL l) (iI (i:Nat))=aa (iI l[i]):=Qo (by simp[h])
structure iF(r:Rl):Prop where
 h:r.aA.length+r.aC.length<=3
 g:r.aL.length<=6
 b:r.bC.length<=6
 hs:∀a∈r.aA++r.aC,a.ts.length<=8
 gs:∀a∈r.aL++r.bC,a.ts.length<=8
structure pB(r:Rl):Prop where
 n:Sm r.name
 hs:∀a∈r.aA++r.aC,vI a
 gs:∀a∈r.aL++r.bC,tR a
def WF(t:Tm):Prop:=sS t/\eH t
structure gy(r:Rl):Prop where
 hs:∀a∈r.aA++r.aC,∀t∈a.ts,WF t
 gs:∀a∈r.aL++r.bC,(a.op≠0->mh a.op=a.ts.length)/\∀t∈a.ts,WF t
def Sh(a b:Int):dN Z2 .neq 38 (iI a) (iI b)=aa (iB (a !=b)):=rfl
def UK(p:Int->Prop)(z:IV):Prop:=∃b:Int,z=iI b/\p b
@[simp] theorem aEG(p:Int->Prop)(b:Int):UK p (iI b)↔p b:=⟨λ⟨b',h1,h2⟩=>by cases h1;exact h2,λh=>⟨b,rfl,h⟩⟩
def CC.Si{n:Nat}(p:Int->Prop)(he:jc Z2 cfg n aH f=dO)(hl:(Z2.funcs[f]?).map (·.params.size)=aa av.length)(ht:∀z,pU Z2 f z=ab)(hp:∀x∈av,Pure x)(hn:noTwo dO=ab)
 (hs:StQ dO (UK p) [] av):∃b,p b/\CC f aH av (iI b):=by
 obtain⟨z,⟨b,rfl,hb⟩,h2⟩:=CC.tot he hl (λz _=>ht z) hp (by rintro _ ⟨b,rfl,_⟩;exact .raw _) hn hs;exact⟨b,hb,h2⟩
def ar7(p:Int->Prop)(z:IV):Prop:=∃a b:Int,z=.aU [iI a,iI b]/\p b
@[simp] theorem aEH(p:Int->Prop)(a b:Int):ar7 p (.aU [iI a,iI b])↔p b:=⟨λ⟨a',b',h1,h2⟩=>by cases h1;exact h2,λh=>⟨a,b,rfl,h⟩⟩
def CC.ar8{n:Nat}(p:Int->Prop)(he:jc Z2 cfg n aH f=dO)(hl:(Z2.funcs[f]?).map (·.params.size)=aa av.length)(ht:∀a b,pU Z2 f (.aU [iI a,iI b])=ab)(hp:∀x∈av,Pure x)(hn:noTwo dO=ab)
 (hs:StQ dO (ar7 p) [] av):∃a b,p b/\CC f aH av (.aU [iI a,iI b]):=by
 obtain⟨z,⟨a,b,rfl,hb⟩,h2⟩:=CC.tot he hl (by rintro _ ⟨a,b,rfl,_⟩;exact ht a b) hp (by rintro _ ⟨a,b,rfl,_⟩;exact .aU _ az) hn hs;exact⟨a,b,hb,h2⟩
def pB.for{r:Rl}(hn:pB r)(h1:∀a∈r.aA++r.aC,∀t∈a.ts,eH t)(h2:∀a∈r.aL++r.bC,(a.op≠0->mh a.op=a.ts.length)/\∀t∈a.ts,eH t):gy r:=
 ⟨λa ha t ht=>⟨((hn.hs a ha).2.2 t ht).wf,h1 a ha t ht⟩,λa ha=>⟨(h2 a ha).1,λt ht=>⟨((hn.gs a ha).2.2 t ht).wf,(h2 a ha).2 t ht⟩⟩⟩
def ar9:aj Nat:=Qr
def ar_:aj Nat:=Ir++[226]
def asa:aj Nat:=[201]
def asb:aj Nat:=[185]
def ayC(l:aj Hint):fz:=⟨ar9,ar_,asa,l++[],asb⟩
def aIv:au:=
 (yZ 3 (my 2 bS 3 (zf 2 4 9 4 bR (my 2 bS 3 (qX (tb 2 5) Jf bW (wB fX) nz)) nz)) Qm)
def agZ:au:=
 (kP (ik 2 aIv))
def ayD:jc Z2 (ayC [aP 0 27 2 [7]]) 400 ab 27=agZ:=kr
structure f_(p:Pg):Prop where
 d:p.bU.length<=12
 r:p.aX.length<=8
 dn:∀d∈p.bU,Sm d.s
 rs:∀r∈p.aX,iF r
 rn:∀r∈p.aX,pB r
def ayE{L:aj De}{l:Nat}(h1:l<=L.length):wi 2 (rC L) (iI 0) (iI (l:Nat))=aa (rC (L.take l)):=by
 simp[wi,lz,h1,List.map_take]
def t34(a b:Int):pU Z2 9 (.aU [iI a,iI b])=ab:=kr
def By(h:a.length+b.length<=1000000000):dG 1 8 (iL a) (iL b)=aa (iL (a++b)):=by
 have h2:jo 1 (b.map iI)=ab:=by
  unfold jo;rw[US];intro e he;obtain⟨x,_,rfl⟩:=Z6.1 he;rfl
 simp[dG,h2];omega
section rule
end rule
def SZ:Z2.underlying 3=aa (.int .i64):=kr
def asd:aj Nat:=Qr
def ase:aj Nat:=Ir
def asf:aj Nat:=[201]
def ash:aj Nat:=[185]
def amf(l:aj Hint):fz:=⟨asd,ase,asf,l++[],ash⟩
def abc:au:=
 (qT dQ 2 dQ 3 bS 2 3 3 (p7 69 (vT 3) 4 cT mM) eM)
def amg:au:=
 (kP (mY dQ .gtr dQ bR bJ abc))
def aCt:bG Z2 (amf [aP 0 25 4 [5]]) 25=amg:=kr
def aG2:au:=
 (lZ du 1 du (my 6 eh 1 (Vf 6 2 2 (Mv .gtr (iX 2) (.i 3) (AX (mN 2) (mN 2) 3 (fE (iX 2) (mN 2) (AX (CZ 2 2) (CZ 2 2) 3 (AX FJ FJ 6 (AX (tG 2 4) (tG 2 4) 6 (p7 24 vl 3 cw (p7 24 AH 4 cT (p6 25 (CY 2) (.i 6) 5 (jr cS (p6 25 (o5 2 4) (.i 6) 6 (jr cK sa)))))))))))))) eM)
def YB:au:=
 (yM 2 iA (Mv .gtr iA (.i 12) (AX du du 8 aG2)))
def ayF:bG Z2 (amf [aP 0 7 4 [3]]) 7=YB:=kr
def amh{l:aj Tm}(h:FU l=ab):l.length<=8:=by
 unfold FU at h;split at h
 .cases h
 .omega
def e79(l:aj Gl)(n:Int)(hl:Sm l)(hw:∀g∈l,tR g):∃b,(b=ab->l.length<=n/\∀g∈l,g.ts.length<=8)/\CC 25 af [gw l,iI n] (iB b):=by
 refine CC.Vv _ aCt kr (λ_=>kr) az cE ?_;simp[amg,UU,aw];by_cases z:n<l.length
 .left;exact z
 right;exists ak;unfold abc;refine aJ l.length (λi (_:Unit)=>[iI i]) (λi _=>∀g∈l.take i,g.ts.length<=8) () ?_ az λi _ hi hI=>?_
 .simp[UU]
 by_cases aq:i<l.length
 .have nC:=aS aq hl;have hg:=hw _ (Z4 aq);have ajS:=arY l[i].ts λt ht=>(hg.2.2 t ht).wf;simp[UU,aq,nC,sj aq,aw];exists _,ajS;cases ht:FU l[i].ts<;>simp;exact .mk () rfl ak (bN aq hI (amh ht))
 .simp[UU,aq];exact⟨ak,cb aq hI⟩
def e44(l:aj At)(hl:Sm l)(hw:∀g∈l,vI g):∃b,(b=ab->∀g∈l,g.ts.length<=8)/\CC 24 af [db l] (iB b):=by
 refine CC.Vv _ aBN kr (λ_=>kr) az cE ?_;simp[alK,UU,aw];refine aJ l.length (λi (_:Unit)=>[iI i]) (λi _=>∀g∈l.take i,g.ts.length<=8) () ?_ az λi _ hi hI=>?_
 .simp[UU]
 by_cases aq:i<l.length
 .have nC:=aS aq hl;have hg:=hw _ (Z4 aq);have ajS:=arY l[i].ts λt ht=>(hg.2.2 t ht).wf;simp[UU,aq,nC,lI aq,aw];exists _,ajS;cases ht:FU l[i].ts<;>simp;exact .mk () rfl ak (bN aq hI (amh ht))
 .simp[UU,aq];exact cb aq hI
structure NmP(p:Pg):Prop where
 sd:Sm p.bU
 sr:Sm p.aX
 d:∀d∈p.bU,Sm d.s
 r:∀r∈p.aX,pB r/\Sm r.aA/\Sm r.aC/\Sm r.aL/\Sm r.bC
def e30(p:Pg)(h:NmP p):∃b,(b=ab->f_ p)/\CC 7 af [bc p] (iB b):=by
 refine CC.Vv _ ayF kr (λ_=>kr) (by simpa using cz p) cE ?_;obtain⟨ds,rs⟩:=p;obtain⟨sd,sr,hd,hr⟩:=h;simp only at*
 show YB.sat _ _ _ _ [.agg [rC ds,FW rs]];simp[YB,UU,aw];by_cases z:12<ds.length
 .left;omega
 right;exists ak;by_cases z:8<rs.length
 .left;omega
 right;exists ak;unfold aG2;refine aJ rs.length (λi (_:Unit)=>[iI i]) (λi _=>∀r∈rs.take i,iF r) () ?_ az λi _ hi hI=>?_
 .simp[UU]
 by_cases aq:i<rs.length
 .have nC:=aS aq sr;obtain⟨gq,s1,s2,s3,s4⟩:=hr _ (Z4 aq);obtain⟨b1,f1,h1⟩:=e44 rs[i].aA s1 λa ha=>gq.hs a (YR _ ha);obtain⟨b2,f2,h2⟩:=e44 rs[i].aC s2 λa ha=>gq.hs a (JU _ ha);obtain⟨b3,f3,h3⟩:=e79 rs[i].aL 6 s3 λa ha=>gq.gs a (YR _ ha);obtain⟨b4,f4,h4⟩:=e79 rs[i].bC 6 s4 λa ha=>gq.gs a (JU _ ha);simp[UU,aq,nC,nQ aq,aw];by_cases y1:3<rs[i].aA.length
  .left;omega
  right;exists ak;by_cases y2:3<rs[i].aC.length
  .left;omega
  right;exists ak;have hwl:QY.wrap ((rs[i].aA.length:Int)+(rs[i].aC.length:Int))=rs[i].aA.length+rs[i].aC.length:=eU ak ak;simp[hwl];by_cases y3:(3:Int)<rs[i].aA.length+rs[i].aC.length
  .left;exact y3
  right;exists ak;by_cases y4:6<rs[i].aL.length
  .left;omega
  right;exists ak;by_cases y5:6<rs[i].bC.length
  .left;omega
  right;exists ak;exists _,h1;cases b1<;>simp;exists _,h2;cases b2<;>simp;exists _,h3;cases b3<;>simp;exists _,h4;cases b4<;>simp;refine .mk () rfl ak (bN aq hI ⟨ak,ak,ak,λa ha=>?_,λa ha=>?_⟩)
  .rcases ZV.1 ha with ha|ha
   .exact f1 rfl a ha
   .exact f2 rfl a ha
  .rcases ZV.1 ha with ha|ha
   .exact(f3 rfl).2 a ha
   .exact(f4 rfl).2 a ha
 .simp[UU,aq];exact⟨eE,eE,hd,cb aq hI,λr tn=>(hr r tn).1⟩
end Go.Proofs.YtabefplkfkfdfaaGreat

