/- Lemmas over the model, without conditions of their own: calls that catch; cells and rows. -/
import Derived.Test.YtpfogalbnijcoaaGreatEvO
import Derived.Test.YtpfogalbnijcoaaGreatEvP
open Go.Fence renaming wide->asB
open Classical renaming propDecidable->axI
open Nat renaming le_refl->ar8,zero_le->asT,beq->asc,eq_of_beq_eq_true->asb
open Option renaming isSome_some->awj
open Bool renaming and_self->avY,and_eq_true->ar4
open Array renaming any_toList->awy
open Option.some renaming injEq->ar6
open List renaming getElem?_eq_some_iff->ar3,getElem?_eq_getElem->ar2
open Option renaming some->aa,none->ah
open Bool renaming true->ab,false->af
set_option linter.all false
namespace Go.Ev
variable{P:Program}{N:Nat}{σ ao:St}{e:Env}{df:List Df}{ι:Io}{w:World}
def xo(P:Program)(N:Nat)(c:Code)(e:Env)(df:List Df)(σ:St)(CD:Ex->Env->List Df->St->Prop):Prop:=
 ∀F ι a w Q,kr F ah ι->Inv N ι σ w->c9 ι e a.tmps->jX ι df a.defers->(∀ex e' Mr ao,CD ex e' Mr ao->ny N 0 ι w σ ⟨ex,e',Mr,ao⟩ Q)->c.wpIn F 0 P Q a w
variable{CD:Ex->Env->List Df->St->Prop}
theorem xo.Da{c:Code}{CW:jS}(h:dF P N ah c e df σ CW)(hc:∀ex e' ao,CW ex e' ao->CD ex e' df ao):xo P N c e df σ CD:=
 λF ι a w Q hF hi he hd hQ=>h F ι a w Q hF hi he hd λex e' ao h1=>hQ ex e' df ao (hc _ _ _ h1)
theorem xo.Iw{c:Code}{fn:FuncId}{cr:CR}(h:fC P 0 ah fn c e df σ cr)(hn:cr.σ.n<=N)(hc:CD cr.ex cr.e cr.df cr.σ):xo P N c e df σ CD:=
 λ_ _ _ _ _ hF hi he hd hQ=>h.wp hn hF hi he hd (hQ _ _ _ _ hc)
theorem xo.seq{x y:Code}(h:xo P N x e df σ (λex e1 wB aq=>aq.n<=N/\(ex=.normal->xo P N y e1 wB aq CD)/\(ex≠.normal->CD ex e1 wB aq))):xo P N (.seq x y) e df σ CD:=by
 intro F ι a w Q hF hi he hd hQ;refine wpIn_seq (h F ι a w _ hF hi he hd λex e1 wB aq hc=>?_);obtain⟨hn,h1,h2⟩:=hc;intro a1 w1 cm eS i1 l1 cY d1 p1;cases ex with
 |normal=>exact h1 rfl F cm a1 w1 Q (hF.mono l1.ext) i1 cY d1 λex e' Mr ao hc=>(hQ ex e' Mr ao hc).from hi l1 hn
 |exit id=>exact hQ _ _ _ _ (h2 (by simp)) a1 w1 cm eS i1 l1 cY d1 p1
 |goto l=>exact hQ _ _ _ _ (h2 (by simp)) a1 w1 cm eS i1 l1 cY d1 p1
 |ret=>exact hQ _ _ _ _ (h2 (by simp)) a1 w1 cm eS i1 l1 cY d1 p1
 |bY v=>exact hQ _ _ _ _ (h2 (by simp)) a1 w1 cm eS i1 l1 cY d1 p1
theorem dL.aj3{f:FuncId}{fn:Func}{c:Code}{args:List IV}{RW:IV->St->Prop}(bT:P.funcs[f]?=aa fn)(hb:fn.body=aa c)(hlen:args.length<=fn.ntmps)
 (h:xo P N c (cJ args fn.ntmps) [] σ (λex e1 wB aq=>∃S mi dm v,eu P S/\bF S/\(((ex=.normal\/ex=.ret)/\mi=ah)\/∃u,ex=.bY u/\mi=aa u)/\fV S 0 wB mi aq=aa (ah,dm)/\dm.n<=N/\bJ P fn e1 dm=aa v/\RW v dm)):dL P N f args σ RW:=by
 intro ι us w hi hr;refine callsIn_of_wp_marks bT hb trivial ?_;refine h asB ι {tmps:=us.toArray++Array.replicate (fn.ntmps- us.toArray.size) Go.undef,defers:=[]} w _ (.inl ⟨rfl,rfl⟩) hi (ya hr hlen) trivial λex e1 wB aq hc=>?_;obtain⟨S,mi,dm,v,hC,hk,hex,fP,hn,hv,q7⟩:=hc;have dJ:aq.n<=N:=Nat.le_trans (kc hk fP) hn;intro a1 w1 cm eS i1 l1 cY d1 p1
 have:∀u,oK cm mi u->LeavesInM asB 0 P fn a1.tmps (λed w'=>∃v ao,RW v ao/\wL N 0 ι w σ v ao ed w') a1.defers u w1:=λu hu=>
  rR hC hk fP d1 hu i1 hn λw2 oD u2 i2 l2 q0=>by
   rw[show u2=_ from q0];obtain⟨u,k1,k2⟩:=s9 hv i2 (cY.mono l2.ext);exact⟨u,k1,v,dm,q7,oD,k2,i2,Le.then hi dJ l1 l2⟩
 rcases hex with⟨rfl|rfl,rfl⟩|⟨u,rfl,rfl⟩
 ·exact this _ rfl
 ·exact this _ rfl
 ·obtain⟨x,rfl,hx⟩:=p1;exact this _ ⟨x,rfl,hx⟩
noncomputable def oA(c:Code)(e:Env)(σ:St)(cr:CR):Self:=
 ⟨λro rd _ c' e' Mr ao=> @ite _ (ro=0/\rd=ah/\c'=c/\e'=e/\Mr=[]/\ao=σ) (axI _) (aa cr) ah,λ_ _ _ _=>ah,λ_ _ _ _=>ah,λ_ _ _ _ _=>ah⟩
theorem WH{c:Code}{cr:CR}(h:∀fn,fC P 0 ah fn c e [] σ cr):(∃m,hZ P (oA c e σ cr) m)/\eu P (oA c e σ cr)/\bX (oA c e σ cr)/\bF (oA c e σ cr):=by
 obtain⟨hle,m0,hm⟩:=h 0;refine⟨⟨m0,?_⟩,⟨λ_ _ _ _ _ _ _ h=>(by cases h),λ_ _ _ _ _ _ _ h=>(by cases h),λ_ _ _ _ _ _ _ _ h=>(by cases h),λ_ _ _ _ _ _ _ h=>(by cases h)⟩,?_,⟨λ_ _ _ _ _ _ h=>(by cases h),λ_ _ _ _ _ _ h=>(by cases h),λ_ _ _ _ _ _ _ h=>(by cases h)⟩⟩
 ·intro N ro rd fn c' e' Mr ao cr' hc;simp only[oA]at hc;split at hc
  ·rename_i hh;obtain⟨rfl,rfl,rfl,rfl,rfl,rfl⟩:=hh;cases hc;exactλhN F ι a w Q hF hi he hd hQ=>hm m0 (ar8 _) N hN F ι a w Q hF hi he hd hQ
  ·cases hc
 ·intro ro rd fn c' e' Mr ao cr' hc;simp only[oA]at hc;split at hc
  ·rename_i hh;obtain⟨_,_,_,_,_,rfl⟩:=hh;cases hc;exact hle
  ·cases hc
theorem Ms{h:FuncId}{fh:Func}{qU:Nat}{A:Array Oper}{X:Code}{args:List IV}{mo:Option IV}{e1 e2:Env}{v:IV}(bT:P.funcs[h]?=aa fh)(hb:fh.body=aa (.seq (.region qU A af) X))(lj:(fh.name != "runtime.NumGoroutine")=ab)
 (hlen:args.length<=fh.ntmps)(BC:A.any mU=ab)(aon:nU P 0 A A.toList (cJ args fh.ntmps) mo σ=aa (e1,ah,σ))(hX:∀fn,fC P 0 ah fn X e1 [] σ ⟨.normal,e2,[],ao⟩)
 (hsh:∀S m,yZ P S 0 h X e1 m σ=(match S.code 0 ah h X e1 [] σ with|some r=>aa (r,m)|none=>ah))(er:bJ P fh e2 ao=aa v):
 ∃S,eu P S/\bF S/\fV S 0 [.call h args] mo σ=aa (ah,ao):=by
 obtain⟨⟨m,hS⟩,hC,hm,hk⟩:=WH hX;refine⟨lB P (oA X e1 σ ⟨.normal,e2,[],ao⟩),J8 hS hC hm hk,DJ hm hk,?_⟩;have nO:(oA X e1 σ ⟨.normal,e2,[],ao⟩).code 0 ah h X e1 [] σ=aa ⟨.normal,e2,[],ao⟩:=by simp[oA]
 have hd:Bu P (oA X e1 σ ⟨.normal,e2,[],ao⟩) 0 h args mo σ=aa (ah,ao):=by
  unfold Bu;rw[bT];simp only[hb,awj,lj,avY,Bool.not_true,Bool.false_eq_true,if_false];rw[if_neg (by omega)];simp only[yZ,BC,Bool.not_false,avY,if_true];rw[show(List.foldl (λ(e:Env) (x:IV×Nat)=>e.put (aa x.snd) x.fst) ⟨fh.ntmps,.lf⟩ args.zipIdx)=cJ args fh.ntmps from rfl,aon];simp only;rw[hsh,nO];simp only[er]
 simp only[fV,lB,hd]
end Go.Ev
namespace Go.Ev
variable{P:Program}{N:Nat}{σ ao:St}{e:Env}{df:List Df}
structure l9(o:Oper)(op:Op)(dst:Option Nat):Prop where
 op:o.op=op
 dst:o.dst=dst
 guard:o.guard=ah
theorem l9.F3{o:Oper}{op:Op}{dst:Option Nat}(h:l9 o op dst)(ops:Array Oper)(e:Env):aO o ops e=ab:=by unfold aO;rw[h.guard]
theorem rU.qQ{o:Oper}{op:Op}{dst:Option Nat}{ops:Array Oper}{l:List Oper}{v:IV}{aq:St}{cr:CR}(ho:l9 o op dst)(hv:av P 0 (ax e) o σ=aa (.val v aq))(h:rU P 0 ah ops l (e.put dst v) df aq cr):rU P 0 ah ops (o::l) e df σ cr:=by
 refine .val (ho.F3 _ _) hv ?_;rw[ho.dst];exact h
theorem dp.qQ{rd:Option Nat}{o:Oper}{op:Op}{dst:Option Nat}{ops:Array Oper}{l:List Oper}{v:IV}{aq:St}{CW:jS}(ho:l9 o op dst)(hv:av P 0 (ax e) o σ=aa (.val v aq))(hn:aq.n<=N)(h:dp P N rd ops l (e.put dst v) df aq CW):dp P N rd ops (o::l) e df σ CW:=by
 refine .val (ho.F3 _ _) hv hn ?_;rw[ho.dst];exact h
theorem Mu{fn:FuncId}{i:Nat}{A:Array Oper}{l:List Oper}{cr:CR}(hl:A.toList=l)(h:rU P 0 ah A l e df σ cr):fC P 0 ah fn (.region i A af) e df σ cr:=.region (by rw[hl];exact h)
theorem Qb{t:TypeId}{x:IV}(ha:qF P t=aa af)(hs:aN P t=aa 1):partOf P t [x] 0=aa x:=by simp[partOf,ha,hs]
structure pL(P:Program)(g h:FuncId)(t et T y:TypeId)(f0 f1:Func)(A0 A1 A2 A3 B0 B3 B4 B5 B6 B7:Array Oper)(a0 a1 a2 a3 a4 a5 b0 b3 b4 b5 b6 b7 b8 b9 c0 c1 c2:Oper)(i0 i1 i2 i3 j0 j3 j4 j5 j6 j7:Nat)(Z:Code)(x3:TypeId)(bS:Array Field):Prop where
 fn:P.funcs[g]?=aa f0
 fh:P.funcs[h]?=aa f1
 fb:f0.body=aa (.seq (.region i0 A0 af) (.seq (.region i1 A1 af) (.seq (.region i2 A2 af) (.seq (.region i3 A3 af) .ret))))
 hb:f1.body=aa (.seq (.region j0 B0 af) (.block 0 (.seq (.region j3 B3 af) (.cond (.tmp 6) (.region j4 B4 af) (.seq (.region j5 B5 af) (.cond (.tmp 8) (.seq (.region j6 B6 af) (.region j7 B7 af)) Z))))))
 nt:f0.ntmps=6
 nh:f1.ntmps=12
 name:(f1.name != "runtime.NumGoroutine")=ab
 res:f0.results.toList=[.cell 2 et]
 resh:f1.results.toList=[]
 lA0:A0.toList=[a0]
 lA1:A1.toList=[a1,a2]
 lA2:A2.toList=[a3,a4]
 lA3:A3.toList=[a5]
 lB0:B0.toList=[b0]
 lB3:B3.toList=[b3]
 lB4:B4.toList=[b4]
 lB5:B5.toList=[b5,b6,b7]
 lB6:B6.toList=[b8,b9]
 lB7:B7.toList=[c0,c1,c2]
 oa0:l9 a0 (.alloc et) (aa 2)
 oa1:l9 a1 (.makeFunc (.func h) #[] #[.tmp 2]) (aa 3)
 oa2:l9 a2 (.defer {callee:=.value (.tmp 3),args:= #[],argTypes:= #[]}) ah
 oa3:l9 a3 (.move (.tmp 0)) (aa 4)
 oa4:l9 a4 (.call {callee:=.value (.tmp 4),args:= #[],argTypes:= #[]}) (aa 5)
 oa5:l9 a5 (.store et (.tmp 2) (.const (.int .i64 0))) ah
 ob0:l9 b0 (.call {callee:=.builtin .recover,args:= #[],argTypes:= #[]}) (aa 4)
 ob3:l9 b3 (.binOp .eql T (.tmp 4) (.const .nilIface) x3) (aa 6)
 ob4:l9 b4 (.assign (.tmp 4)) (aa 1)
 ob5:l9 b5 (.typeAssert (.tmp 4) y t ab) (aa 7)
 ob6:l9 b6 (.extract (.tmp 7) 1) (aa 8)
 ob7:l9 b7 (.extract (.tmp 7) 0) (aa 9)
 ob8:l9 b8 (.alloc t) (aa 2)
 ob9:l9 b9 (.store t (.tmp 2) (.tmp 9)) ah
 oc0:l9 c0 (.fieldAddr t (.tmp 2) 0) (aa 10)
 oc1:l9 c1 (.load et (.tmp 10)) (aa 11)
 oc2:l9 c2 (.store et (.tmp 0) (.tmp 11)) ah
 ze:cw P et=aa (.int .i64 0)
 se:aN P et=aa 1
 ae:qF P et=aa af
 zt:cw P t=aa (.agg #[.int .i64 0])
 st:aN P t=aa 1
 ut:P.underlying t=aa (.struct bS)
 fl:bS[0]?=aa bS[0]! /\bS[0]!.type=et/\bS[0]!.offset=0
 eq0:pf P .eql T (.tmp 4) (.const .nilIface) (.raw .nilIface) (.raw .nilIface)=aa (.bool ab)
 eq1:∀u,pf P .eql T (.tmp 4) (.const .nilIface) (.di t (.agg [.raw u])) (.raw .nilIface)=aa (.bool af)
variable{g h:FuncId}{t et T y:TypeId}{f0 f1:Func}{A0 A1 A2 A3 B0 B3 B4 B5 B6 B7:Array Oper}{a0 a1 a2 a3 a4 a5 b0 b3 b4 b5 b6 b7 b8 b9 c0 c1 c2:Oper}{i0 i1 i2 i3 j0 j3 j4 j5 j6 j7:Nat}{Z:Code}{x3:TypeId}{bS:Array Field}
theorem pL.agF(H:pL P g h t et T y f0 f1 A0 A1 A2 A3 B0 B3 B4 B5 B6 B7 a0 a1 a2 a3 a4 a5 b0 b3 b4 b5 b6 b7 b8 b9 c0 c1 c2 i0 i1 i2 i3 j0 j3 j4 j5 j6 j7 Z x3 bS)(p:IV)(σ:St):
 ∃S,eu P S/\bF S/\fV S 0 [.call h [p]] ah σ=aa (ah,σ):=by
 have P5:(cJ [p] f1.ntmps).n=12:=by rw[(cP (t:=0) (by rw[H.nh];simp)).1,H.nh]
 refine Ms (e1:=(cJ [p] f1.ntmps).put (aa 4) (.raw .nilIface)) (e2:=(((cJ [p] f1.ntmps).put (aa 4) (.raw .nilIface)).put (aa 6) (.bool ab)).put (aa 1) (.raw .nilIface)) (v:=.az []) H.fh H.hb H.name (by rw[H.nh];simp) ?_ ?_ (λfn=>?_) (λS m=>rfl) ?_
 ·rw[<-awy,H.lB0];simp[mU,H.ob0.op]
 ·rw[H.lB0];have:aO b0 B0 (cJ [p] f1.ntmps)=ab:=H.ob0.F3 _ _;simp[nU,this,mU,H.ob0.op,H.ob0.dst]
 ·refine .LH (.seq (aq:=σ) (wB:=[]) (Mu H.lB3 (.qQ H.ob3 (v:=.bool ab) ?_ .nil)) (.cond (t:=ab) ?_ ?_)) (by simp)
  ·simp only[av,H.ob3.op,ax,lift];rw[dN (by rw[P5];decide),H.eq0];rfl
  ·simp only[ax];rw[dN (by rw[eP,P5];decide)]
  ·rw[if_pos rfl];refine Mu H.lB4 (.qQ H.ob4 (v:=.raw .nilIface) ?_ .nil);simp only[av,H.ob4.op,ax];rw[ft (by decide),dN (by rw[P5];decide)];rfl
 ·simp[bJ,H.resh]
theorem pL.agG(H:pL P g h t et T y f0 f1 A0 A1 A2 A3 B0 B3 B4 B5 B6 B7 a0 a1 a2 a3 a4 a5 b0 b3 b4 b5 b6 b7 b8 b9 c0 c1 c2 i0 i1 i2 i3 j0 j3 j4 j5 j6 j7 Z x3 bS)(id:Nat)(u:Value)(hu:aj (.raw u)=ab)(σ:St)(hid:id<σ.n)(aE:σ.at id=aa (.cells [.int 0] 0 0)):
 ∃S,eu P S/\bF S/\fV S 0 [.call h [.ptr id 0 0 1]] (aa (.di t (.agg [.raw u]))) σ=aa (ah,xz σ id (.raw u)):=by
 have hn:(cJ [.ptr id 0 0 1] f1.ntmps).n=12:=by rw[(cP (t:=0) (by rw[H.nh];simp)).1,H.nh]
 have h0:(cJ [.ptr id 0 0 1] f1.ntmps).at 0=.ptr id 0 0 1:=by rw[(cP (t:=0) (by rw[H.nh];simp)).2 (by simp)];rfl
 generalize hE:cJ [.ptr id 0 0 1] f1.ntmps=E0 at hn h0;obtain⟨e1,mh⟩:∃e1,e1=E0.put (aa 4) (.di t (.agg [.raw u])):=⟨_,rfl⟩;obtain⟨e2,C3⟩:∃e2,e2=e1.put (aa 6) (.bool af):=⟨_,rfl⟩;obtain⟨e3,S4⟩:∃e3,e3=e2.put (aa 7) (.az [.agg [.raw u],.bool ab]):=⟨_,rfl⟩;obtain⟨e4,GQ⟩:∃e4,e4=e3.put (aa 8) (.bool ab):=⟨_,rfl⟩;obtain⟨e5,YS⟩:∃e5,e5=e4.put (aa 9) (.agg [.raw u]):=⟨_,rfl⟩;obtain⟨e6,YT⟩:∃e6,e6=e5.put (aa 2) (.ptr σ.n 0 0 1):=⟨_,rfl⟩;obtain⟨e7,he7⟩:∃e7,e7=e6.put ah .undef:=⟨_,rfl⟩;obtain⟨e8,he8⟩:∃e8,e8=e7.put (aa 10) (.ptr σ.n 0 0 1):=⟨_,rfl⟩;obtain⟨e9,he9⟩:∃e9,e9=e8.put (aa 11) (.raw u):=⟨_,rfl⟩;have n1:e1.n=12:=by rw[mh,eP,hn]
 have n2:e2.n=12:=by rw[C3,eP,n1]
 have n3:e3.n=12:=by rw[S4,eP,n2]
 have n4:e4.n=12:=by rw[GQ,eP,n3]
 have n5:e5.n=12:=by rw[YS,eP,n4]
 have n6:e6.n=12:=by rw[YT,eP,n5]
 have n7:e7.n=12:=by rw[he7,eP,n6]
 have n8:e8.n=12:=by rw[he8,eP,n7]
 have lk:e1.at 4=.di t (.agg [.raw u]):=by rw[mh,dN (by rw[hn];decide)]
 have ek:e1.at 0=.ptr id 0 0 1:=by rw[mh,ft (by decide),h0]
 have x26:e2.at 6=.bool af:=by rw[C3,dN (by rw[n1];decide)]
 have Mv:e2.at 4=.di t (.agg [.raw u]):=by rw[C3,ft (by decide),lk]
 have x37:e3.at 7=.az [.agg [.raw u],.bool ab]:=by rw[S4,dN (by rw[n2];decide)]
 have x47:e4.at 7=.az [.agg [.raw u],.bool ab]:=by rw[GQ,ft (by decide),x37]
 have x58:e5.at 8=.bool ab:=by rw[YS,ft (by decide),GQ,dN (by rw[n3];decide)]
 have x69:e6.at 9=.agg [.raw u]:=by rw[YT,ft (by decide),YS,dN (by rw[n4];decide)]
 have x62:e6.at 2=.ptr σ.n 0 0 1:=by rw[YT,dN (by rw[n5];decide)]
 have x72:e7.at 2=.ptr σ.n 0 0 1:=by rw[he7];exact x62
 have x8:e8.at 10=.ptr σ.n 0 0 1:=by rw[he8,dN (by rw[n7];decide)]
 have x9:e9.at 11=.raw u:=by rw[he9,dN (by rw[n8];decide)]
 have x90:e9.at 0=.ptr id 0 0 1:=by
  rw[he9,ft (by decide),he8,ft (by decide),he7];show e6.at 0=_;rw[YT,ft (by decide),YS,ft (by decide),GQ,ft (by decide),S4,ft (by decide),C3,ft (by decide),ek]
 refine Ms (e1:=e1) (e2:=e9.put ah .undef) (v:=.az []) H.fh H.hb H.name (by rw[H.nh];simp) ?_ ?_ (λfn=>?_) (λS m=>rfl) ?_
 ·rw[<-awy,H.lB0];simp[mU,H.ob0.op]
 ·rw[H.lB0,hE];have:aO b0 B0 E0=ab:=H.ob0.F3 _ _;simp[nU,this,mU,H.ob0.op,H.ob0.dst,mh]
 ·refine .LH (.seq (e1:=e2) (aq:=σ) (wB:=[]) (Mu H.lB3 (.qQ H.ob3 (v:=.bool af) ?_ (by rw[<-C3];exact .nil))) (.cond (t:=af) (by simp only[ax];exact x26) ?_)) (by simp)
  ·simp only[av,H.ob3.op,ax,lift];rw[lk,H.eq1];rfl
  ·rw[if_neg (by decide)]
   refine .seq (e1:=e5) (aq:=σ) (wB:=[]) (Mu H.lB5 (.qQ H.ob5 (v:=.az [.agg [.raw u],.bool ab]) (aq:=σ) ?_ (by
    rw[<-S4]
    refine .qQ H.ob6 (v:=.bool ab) (aq:=σ) ?_ (by
     rw[<-GQ];refine .qQ H.ob7 (v:=.agg [.raw u]) (aq:=σ) ?_ (by rw[<-YS];exact .nil);simp only[av,H.ob7.op,ax,x47];rfl)
    simp only[av,H.ob6.op,ax,x37];rfl))) (.cond (t:=ab) (by simp only[ax];exact x58) ?_)
   ·simp only[av,H.ob5.op,ax,Mv,H.ut,H.zt];simp;rfl
   ·rw[if_pos rfl]
    refine .seq (e1:=e7) (aq:=(σ.add (.cells [.int 0] 0 0)).put σ.n (.cells [.raw u] 0 0)) (wB:=[]) (Mu H.lB6 (.qQ H.ob8 (v:=.ptr σ.n 0 0 1) (aq:=σ.add (.cells [.int 0] 0 0)) ?_ (by
     rw[<-YT];refine .qQ H.ob9 (v:=.undef) (aq:=(σ.add (.cells [.int 0] 0 0)).put σ.n (.cells [.raw u] 0 0)) ?_ (by rw[<-he7];exact .nil);simp only[av,H.ob9.op,ax,x62,x69,H.st,St.gW,if_true];rw[if_pos ⟨asT _,rfl,ar8 _,trivial,ar8 _,by simp[cellsOf,hu]⟩];rfl))) (Mu H.lB7 (.qQ H.oc0 (v:=.ptr σ.n 0 0 1) (aq:=(σ.add (.cells [.int 0] 0 0)).put σ.n (.cells [.raw u] 0 0)) ?_ (by
     rw[<-he8]
     refine .qQ H.oc1 (v:=.raw u) (aq:=(σ.add (.cells [.int 0] 0 0)).put σ.n (.cells [.raw u] 0 0)) ?_ (by
      rw[<-he9];refine .qQ H.oc2 (v:=.undef) (aq:=xz σ id (.raw u)) ?_ .nil;have aZ:¬σ.n=id:=by omega
      simp only[av,H.oc2.op,ax,x90,x9,H.se,St.cV,St.gW,aZ,if_false,aE];rw[if_pos ⟨asT _,rfl,ar8 _,trivial,ar8 _,by simp[cellsOf,hu]⟩];rfl)
     simp only[av,H.oc1.op,ax,x8,H.se,St.cV,if_true];rw[if_pos ⟨ar8 _,ar8 _,ar8 _⟩,Qb H.ae H.se];rfl)))
    ·simp only[av,H.ob8.op,H.zt];rfl
    ·simp only[av,H.oc0.op,ax,x72,H.ut,H.fl.1,H.fl.2.1,H.fl.2.2,H.se];rfl
 ·simp[bJ,H.resh]
theorem pL.Qc(H:pL P g h t et T y f0 f1 A0 A1 A2 A3 B0 B3 B4 B5 B6 B7 a0 a1 a2 a3 a4 a5 b0 b3 b4 b5 b6 b7 b8 b9 c0 c1 c2 i0 i1 i2 i3 j0 j3 j4 j5 j6 j7 Z x3 bS):D6 P g t:=by
 intro N cl f as σ RW PW Te iA hN hX hR hPa;have hn:(cJ [cl] f0.ntmps).n=6:=by rw[(cP (t:=0) (by rw[H.nt];simp)).1,H.nt]
 have h0:(cJ [cl] f0.ntmps).at 0=cl:=by rw[(cP (t:=0) (by rw[H.nt];simp)).2 (by simp)];rfl
 refine dL.aj3 H.fn H.fb (by rw[H.nt];simp) ?_;generalize hE:cJ [cl] f0.ntmps=E0 at hn h0;obtain⟨e1,mh⟩:∃e1,e1=E0.put (aa 2) (.ptr σ.n 0 0 1):=⟨_,rfl⟩;obtain⟨e2,C3⟩:∃e2,e2=(e1.put (aa 3) (.fn (.func h) [] [.ptr σ.n 0 0 1])).put ah .undef:=⟨_,rfl⟩;obtain⟨e4,GQ⟩:∃e4,e4=e2.put (aa 4) cl:=⟨_,rfl⟩;have n1:e1.n=6:=by rw[mh,eP,hn]
 have n2:e2.n=6:=by rw[C3,eP,eP,n1]
 have n4:e4.n=6:=by rw[GQ,eP,n2]
 have iU:e1.at 2=.ptr σ.n 0 0 1:=by rw[mh,dN (by rw[hn];decide)]
 have Mw:(e1.put (aa 3) (.fn (.func h) [] [.ptr σ.n 0 0 1])).at 3=.fn (.func h) [] [.ptr σ.n 0 0 1]:=dN (by rw[n1];decide);have Mx:e2.at 2=.ptr σ.n 0 0 1:=by rw[C3];show(e1.put (aa 3) _).at 2=_;rw[ft (by decide),iU]
 have EH:e2.at 0=cl:=by rw[C3];show(e1.put (aa 3) _).at 0=_;rw[ft (by decide),mh,ft (by decide),h0]
 have x44:e4.at 4=cl:=by rw[GQ,dN (by rw[n2];decide)]
 have x42:e4.at 2=.ptr σ.n 0 0 1:=by rw[GQ,ft (by decide),Mx]
 have aj4:gu P (.fn (.func h) [] [.ptr σ.n 0 0 1]) []=aa (.enter h [.ptr σ.n 0 0 1]):=by
  simp only[gu,H.fh,H.hb,awj,H.name,avY,if_true];rfl
 refine .seq (.Iw (fn:=0) (cr:=⟨.normal,e1,[],σ.add (.cells [.int 0] 0 0)⟩) (Mu H.lA0 (.qQ H.oa0 (v:=.ptr σ.n 0 0 1) ?_ (by rw[<-mh];exact .nil))) hN ⟨hN,λ_=>?_,λh=>absurd rfl h⟩)
 ·simp only[av,H.oa0.op,H.ze];rfl
 refine .seq (.Iw (fn:=0) (cr:=⟨.normal,e2,[.call h [.ptr σ.n 0 0 1]],σ.add (.cells [.int 0] 0 0)⟩) (Mu H.lA1 (.qQ (aq:=σ.add (.cells [.int 0] 0 0)) H.oa1 (v:=.fn (.func h) [] [.ptr σ.n 0 0 1]) ?_ ?_)) hN ⟨hN,λ_=>?_,λh=>absurd rfl h⟩)
 ·simp only[av,H.oa1.op];show ret (IV.fn _ [] [ax e1 (.tmp 2)]) _=_;simp only[ax,iU];rfl
 ·refine .defer (d:=.call h [.ptr σ.n 0 0 1]) (H.oa2.F3 _ _) ?_ (by rw[H.oa2.dst,<-C3];exact .nil);simp only[av,H.oa2.op,ax,Mw];show(match gu P _ []with|some (.enter f args)=>aa (eC.SP (.call f args))|_=>ah)=_;rw[aj4]
 have leave:∀{ex:Ex} {e5:Env} {mi:Option IV} {dm vN:St} {x:IV},e5.at 2=.ptr σ.n 0 0 1->(((ex=.normal\/ex=.ret)/\mi=ah)\/∃u,ex=.bY u/\mi=aa u)->
  (∃S,eu P S/\bF S/\fV S 0 [.call h [.ptr σ.n 0 0 1]] mi dm=aa (ah,vN))->vN.n<=N->vN.at σ.n=aa (.cells [x] 0 0)->Te x vN->
  ∃S mi WI v,eu P S/\bF S/\(((ex=.normal\/ex=.ret)/\mi=ah)\/∃u,ex=.bY u/\mi=aa u)/\fV S 0 [.call h [.ptr σ.n 0 0 1]] mi dm=aa (ah,WI)/\WI.n<=N/\bJ P f0 e5 WI=aa v/\Te v WI:=by
  intro ex e5 mi dm vN x h2 hex ⟨S,s1,s2,s3⟩ Ou aE q7;refine⟨S,mi,vN,x,s1,s2,hex,s3,Ou,?_,q7⟩;simp only[bJ,H.res,h2,H.se,aE];rw[if_pos ⟨ar8 _,ar8 _,ar8 _⟩,Qb H.ae H.se]
 refine .seq (.Da (CW:=λex e5 dm=>(∃v,ex=.normal/\e5=e4.put (aa 5) v/\RW v dm)\/∃v,ex=.bY v/\e5=e4/\PW v dm) (.region ?_) ?_)
 ·rw[H.lA2];refine .qQ (aq:=σ.add (.cells [.int 0] 0 0)) H.oa3 (v:=cl) ?_ hN ?_
  ·simp only[av,H.oa3.op,ax,EH];rfl
  ·rw[<-GQ];refine .VF (H.oa4.F3 _ _) (f:=f) (args:=as) ?_ hX (λv dm hv=>⟨(hR v dm hv).2.1,?_⟩) (λv dm hv=>.inr ⟨v,rfl,rfl,hv⟩)
   ·simp only[av,H.oa4.op,ax,x44];exact iA
   ·rw[H.oa4.dst];exact .nil (.inl ⟨v,rfl,rfl,hv⟩)
 ·intro ex e5 dm hc;rcases hc with⟨v,rfl,rfl,hv⟩|⟨v,rfl,rfl,hv⟩
  ·obtain⟨r1,r2,r3⟩:=hR v dm hv;have x52:(e4.put (aa 5) v).at 2=.ptr σ.n 0 0 1:=by rw[ft (by decide),x42]
   refine⟨r2,λ_=>?_,λh=>absurd rfl h⟩;refine .seq (.Da (CW:=λex e6 vN=>ex=.normal/\e6=(e4.put (aa 5) v).put ah .undef/\vN=dm.put σ.n (.cells [.int 0] 0 0)) (.region ?_) ?_)
   ·rw[H.lA3];refine .qQ H.oa5 (v:=.undef) (aq:=dm.put σ.n (.cells [.int 0] 0 0)) ?_ r2 (.nil ⟨rfl,rfl,rfl⟩);simp only[av,H.oa5.op,ax,x52,H.se,r1,lift];rw[if_pos ⟨asT _,rfl,ar8 _,trivial,ar8 _,rfl⟩];rfl
   ·rintro ex e6 vN ⟨rfl,rfl,rfl⟩;refine⟨r2,λ_=>.Da (.ret (CW:=λex e6 vN=>ex=.ret/\e6=(e4.put (aa 5) v).put ah .undef/\vN=dm.put σ.n (.cells [.int 0] 0 0)) ⟨rfl,rfl,rfl⟩) ?_,λh=>absurd rfl h⟩;rintro ex e6 vN ⟨rfl,rfl,rfl⟩;exact leave (by exact x52) (.inl ⟨.inr rfl,rfl⟩) (H.agF _ _) r2 (by simp) r3
  ·obtain⟨u,rfl,hu,r1,r2,r3,r4⟩:=hPa v dm hv;refine⟨by omega,λh=>absurd h (by simp),λ_=>?_⟩;exact leave x42 (.inr ⟨_,rfl,rfl⟩) (H.agG σ.n u hu dm r3 r1) r2 (by simp[xz]) r4
end Go.Ev
namespace Go.Ev
section run
variable(P:Program)(cfg:bg)
def xp(n:Nat)(nm:Bool)(f:FuncId):ak:=
 match P.funcs[f]? with
 |some fn=>match fn.body with
  |some c=>
   if Nat.ble fn.params.size fn.ntmps&&Nat.blt 0 (cK P f)then
    pz P 0 fn.params.toList<|exec P cfg n 0 f c ⟨setArgs 0 0 (du P 0 fn.params.toList),[],fn.params.size,0,fn.ntmps⟩ λex V=>match ex with
     |.exit _=>.fail 141
     |.bY _ _=>.fail 146
     |_=>match lx P 0 V fn.results.toList with
      |some [.one (.sr k)]=>match V.l[k]? with
       |some (.row s' af _ _ z)=>if !nm&&asc (cK P f) s' then .ret (.rws z)else .fail 146
       |_=>.fail 147
      |some [.one (.nl ab s')]=>if asc (cK P f) s' then .ret (.tr s' .an)else .fail 146
      |_=>.fail 148
   else .fail 143
  |none=>.fail 144
 |none=>.fail 145
end run
variable{P:Program}{N:Nat}{σ ao:St}{R R':Rs}{φ aL:Ph}{E:Nat->Env}{ν:List IV}{cfg:bg}{self:nB}
variable{C:Cr}{Q:IV->Prop}{K:List (List IV->Prop)}{V:SS}{d f0:Nat}{L:List (LO SE)}{Γ:Gm SE}
theorem jR.YU(eW:P.follows .mixedOrders=ab)(hC:jb P C){n:Nat}{nm:Bool}{f:FuncId}{cF:ak}{args es:List IV}(he:xp P cfg n nm f=cF)(hl:(P.funcs[f]?).map (·.params.size)=aa args.length)(hp:∀x∈args,Pure x)
 (bH:∀e∈es,(cellsOf e).length=cK P f)(bp:∀c∈flat es,(∃v,c=.raw v)/\aj c=ab)(aZ:nm=af->es≠[])
 (hs:cF.sat P C (·=.tree (cK P f) es) [] args):jR P (cK P f) f args es:=by
 subst he;unfold xp at hs;split at hs<;>first|(exact hs.elim)|skip
 rename_i fn bT;split at hs<;>first|(exact hs.elim)|skip
 rename_i c hb;split at hs<;>first|(exact hs.elim)|skip
 rename_i hle;simp only[ar4]at hle;have JY:fn.params.size<=fn.ntmps:=by simpa using hle.1
 have bE:0<cK P f:=by simpa using hle.2
 rw[bT]at hl;simp only[Option.map_some,ar6]at hl;obtain⟨hs,bz⟩:=v_ (R:=λ_=>ah) (φ:=λ_=>ah) (L:=[]) (σ:=⟨0,.lf⟩) hp hs (by simpa using hl);have hlen:args.length<=fn.ntmps:=by omega
 have hJ:J (au P args) (λ_=>ah) (λ_=>ah) (setArgs 0 0 (du P 0 fn.params.toList)) [] (λ_=>cJ args fn.ntmps) ⟨0,.lf⟩:=by
  refine⟨λd t pv hg=>?_,λk ob h=>(by simp at h),λk k' id h=>(by cases h),λk id h=>(by cases h),λid m h=>(by cases h),λid m cs ay mn h=>(by cases h),T.WF.lf,λid _=>rfl⟩;obtain⟨rfl,_,h3⟩:=fw (α:=IV) hg;rw[List.drop_zero]at bz;have ht:t<args.length:=by rw[bz.len];have:=(ar3.1 h3).1;simpa using this
  show VR _ _ _ _ _ ((cJ args fn.ntmps).at t) pv;rw[(cP hlen).2 ht,ar2 ht];exact bz.get (ar2 ht) (by simpa using h3)
 obtain⟨b,nO⟩:=uQ eW hC n 0 f c ⟨setArgs 0 0 (du P 0 fn.params.toList),[],fn.params.size,0,fn.ntmps⟩ _ args [] _ _ _ _
  (λN ex e1 aq=>(ex=.normal\/ex=.ret)/\aq.n<=N/\∃v,bJ P fn e1 aq=aa v/\HA (cK P f) es v aq) ah [] hs hJ hl.symm rfl (cP (t:=0) hlen).1 (by
   intro ex V' μ K' R' aL E' ao x0 hf iu bt
   have main:(match lx P 0 V' fn.results.toList with
    |some [.one (.sr k)]=>match V'.l[k]? with
     |some (.row s' af _ _ z)=>if !nm&&asc (cK P f) s' then ak.ret (.rws z)else .fail 146
     |_=>.fail 147
    |some [.one (.nl ab s')]=>if asc (cK P f) s' then .ret (.tr s' .an)else .fail 146
    |_=>.fail 148).sat P C (·=IV.tree (cK P f) es) K' (args++μ)->∃b,∀N,b<=N->ao.n<=N/\ao.n<=N/\∃v,bJ P fn (E' 0) ao=aa v/\HA (cK P f) es v ao:=by
    intro dK;split at dK<;>first|(exact dK.elim)|skip
    ·rename_i k hr;obtain⟨vs,h1,h2⟩:=lA hf.hJ hr;split at dK<;>first|(exact dK.elim)|skip
     rename_i s' cut fr z hk;split at dK<;>first|(exact dK.elim)|skip
     rename_i ir;simp only[ar4,Bool.not_eq_true']at ir;obtain⟨mG,ir⟩:=ir;have uP:=asb ir;subst uP;obtain⟨z',h5,rfl⟩:=dK;obtain⟨v,rfl,hv⟩:=kQ h2;have er:bJ P fn (E' 0) ao=aa v:=kB h1;obtain⟨s1,eT,c1,c2,c3⟩:=F0 h5;cases c2;obtain⟨m0,GP,m1,m2,m3⟩:=hf.hJ.obj k _ hk;have Jk:z.den P (args++μ)=aa (.tree (cK P f) GP):=m1;rw[c1]at Jk;cases Jk;refine⟨ao.n,λN hN=>⟨hN,hN,v,er,.inr ⟨aZ mG,?_⟩⟩⟩;obtain⟨s2,sE,r6,sF,z1,gS,b1,b2,b3⟩:=hv;rw[hk]at b1;cases b1;have pJ:z.den P (args++μ)=aa (.tree (cK P f) gS):=b2;rw[c1]at pJ;cases pJ;rcases b3 with⟨_,b4,_⟩|⟨id,cs,ay,mn,cap,d1,d2,d3,d4,d5,d6⟩
     ·exact absurd (List.eq_nil_of_length_eq_zero b4) (aZ mG)
     ·rcases m3 with⟨e1,_⟩|⟨bA,cx,iC,pw,e1,e2,e3,e4,e5,e6,e7⟩
      ·rw[d1]at e1;cases e1
      ·rw[d1]at e1;cases e1;rw[d2]at e2;cases e2;refine⟨id,cs,ay,mn,cap,d2,e3,by simpa using d3,e4,λq x hx=>?_⟩
       have hq:q<cs.length:=by
        have:=(ar3.1 hx).1;rw[sI bH]at this;omega
       obtain⟨u,rfl⟩:=(bp x (List.mem_of_getElem? hx)).1;have:=e7 q _ _ (ar2 hq) hx;exact⟨u,rfl,by rw[ar2 hq,bZ this]⟩
    ·rename_i s' hr;obtain⟨vs,h1,h2⟩:=lA hf.hJ hr;split at dK<;>first|(exact dK.elim)|skip
     rename_i ir;have uP:=asb ir;obtain⟨z',h5,rfl⟩:=dK;obtain⟨v,rfl,hv⟩:=kQ h2;have er:bJ P fn (E' 0) ao=aa v:=kB h1;obtain⟨_,rfl⟩:=hv;simp only[SE.den,Option.bind_some]at h5;split at h5<;>cases h5;exact⟨ao.n,λN hN=>⟨hN,hN,_,er,.inl ⟨rfl,rfl⟩⟩⟩
   cases ex with
   |exit i=>exact bt.elim
   |bY t pv=>exact bt.elim
   |normal=>
    obtain rfl:=iu;obtain⟨b,hb⟩:=main bt;exact⟨b,λN hN=>⟨(hb N hN).1,.inl rfl,(hb N hN).2⟩⟩
   |ret=>
    obtain rfl:=iu;obtain⟨b,hb⟩:=main bt;exact⟨b,λN hN=>⟨(hb N hN).1,.inr rfl,(hb N hN).2⟩⟩)
 exact jR.Da bE bH bp (dL.body (RW:=λv aq=>HA (cK P f) es v aq) bT hb hlen (nO b (ar8 _))) λv ao h=>h
end Go.Ev
