/- Lemmas over the model, without conditions of their own: calls that catch; cells and rows. -/
import Derived.Test.YtggffkaadeagbaaGreatEvO
import Derived.Test.YtggffkaadeagbaaGreatEvP
open Go.Fence renaming wide->asz
open Classical renaming propDecidable->axJ
open Nat renaming le_refl->ar9,zero_le->asT,beq->ase,eq_of_beq_eq_true->asd
open Option renaming isSome_some->awj
open Bool renaming and_self->avZ,and_eq_true->ar6
open Array renaming any_toList->awy
open Option.some renaming injEq->ar7
open List renaming getElem?_eq_some_iff->ar5,getElem?_eq_getElem->ar4
set_option linter.all false
namespace Go.Ev
variable{P:Program}{N:Nat}{σ ah:St}{e:Env}{df:List Df}{ι:Io}{w:World}
def wX(P:Program)(N:Nat)(c:Code)(e:Env)(df:List Df)(σ:St)(CD:Ex→Env→List Df→St→Prop):Prop:=
 ∀F ι a w Q,jS F none ι→Inv N ι σ w→cM ι e a.tmps→jC ι df a.defers→(∀ex e' Ls ah,CD ex e' Ls ah→mW N 0 ι w σ ⟨ex,e',Ls,ah⟩ Q)→c.wpIn F 0 P Q a w
variable{CD:Ex→Env→List Df→St→Prop}
theorem wX.CI{c:Code}{CW:jx}(h:cT P N none c e df σ CW)(hc:∀ex e' ah,CW ex e' ah→CD ex e' df ah):wX P N c e df σ CD:=
 fun F ι a w Q hF hi he hd hQ=>h F ι a w Q hF hi he hd fun ex e' ah h1=>hQ ex e' df ah (hc _ _ _ h1)
theorem wX.HK{c:Code}{fn:FuncId}{cr:CR}(h:bW P 0 none fn c e df σ cr)(hn:cr.σ.n≤N)(hc:CD cr.ex cr.e cr.df cr.σ):wX P N c e df σ CD:=
 fun _ _ _ _ _ hF hi he hd hQ=>h.wp hn hF hi he hd (hQ _ _ _ _ hc)
theorem wX.seq{x y:Code}(h:wX P N x e df σ (fun ex e1 p8 ai=>ai.n≤N∧(ex=.normal→wX P N y e1 p8 ai CD)∧(ex≠.normal→CD ex e1 p8 ai))):wX P N (.seq x y) e df σ CD:=by
 intro F ι a w Q hF hi he hd hQ;refine wpIn_seq (h F ι a w _ hF hi he hd fun ex e1 p8 ai hc=>?_);obtain⟨hn,h1,h2⟩:=hc;intro a1 w1 bN dU i1 l1 cg d1 p1;cases ex with
 |normal=>exact h1 rfl F bN a1 w1 Q (hF.mono l1.ext) i1 cg d1 fun ex e' Ls ah hc=>(hQ ex e' Ls ah hc).from hi l1 hn
 |exit id=>exact hQ _ _ _ _ (h2 (by simp)) a1 w1 bN dU i1 l1 cg d1 p1
 |goto l=>exact hQ _ _ _ _ (h2 (by simp)) a1 w1 bN dU i1 l1 cg d1 p1
 |ret=>exact hQ _ _ _ _ (h2 (by simp)) a1 w1 bN dU i1 l1 cg d1 p1
 |bC v=>exact hQ _ _ _ _ (h2 (by simp)) a1 w1 bN dU i1 l1 cg d1 p1
theorem dD.ajN{f:FuncId}{fn:Func}{c:Code}{args:List IV}{RW:IV→St→Prop}(bA:P.funcs[f]?=some fn)(hb:fn.body=some c)(hlen:args.length≤fn.ntmps)
 (h:wX P N c (bY args fn.ntmps) [] σ (fun ex e1 p8 ai=>∃S mi c7 v,dL P S∧br S∧(((ex=.normal∨ex=.ret)∧mi=none)∨∃u,ex=.bC u∧mi=some u)∧eM S 0 p8 mi ai=some (none,c7)∧c7.n≤N∧bt P fn e1 c7=some v∧RW v c7)):dD P N f args σ RW:=by
 intro ι us w hi hr;refine callsIn_of_wp_marks bA hb trivial ?_;refine h asz ι {tmps:=us.toArray++Array.replicate (fn.ntmps- us.toArray.size) Go.undef,defers:=[]} w _ (.inl ⟨rfl,rfl⟩) hi (ud hr hlen) trivial fun ex e1 p8 ai hc=>?_;obtain⟨S,mi,c7,v,hC,hk,hex,fN,hn,hv,qK⟩:=hc;have cX:ai.n≤N:=Nat.le_trans (fY hk fN) hn;intro a1 w1 bN dU i1 l1 cg d1 p1
 have:∀u,l_ bN mi u→LeavesInM asz 0 P fn a1.tmps (fun ed w'=>∃v ah,RW v ah∧wv N 0 ι w σ v ah ed w') a1.defers u w1:=fun u hu=>
  oY hC hk fN d1 hu i1 hn fun w2 mL u2 i2 l2 qF=>by
   rw[show u2=_ from qF];obtain⟨u,k1,k2⟩:=pK hv i2 (cg.mono l2.ext);exact⟨u,k1,v,c7,qK,mL,k2,i2,Le.then hi cX l1 l2⟩
 rcases hex with⟨rfl|rfl,rfl⟩|⟨u,rfl,rfl⟩
 ·exact this _ rfl
 ·exact this _ rfl
 ·obtain⟨x,rfl,hx⟩:=p1;exact this _ ⟨x,rfl,hx⟩
noncomputable def oh(c:Code)(e:Env)(σ:St)(cr:CR):Self:=
 ⟨fun ro rd _ c' e' Ls ah=> @ite _ (ro=0∧rd=none∧c'=c∧e'=e∧Ls=[]∧ah=σ) (axJ _) (some cr) none,fun _ _ _ _=>none,fun _ _ _ _=>none,fun _ _ _ _ _=>none⟩
theorem Vp{c:Code}{cr:CR}(h:∀fn,bW P 0 none fn c e [] σ cr):(∃m,gM P (oh c e σ cr) m)∧dL P (oh c e σ cr)∧bQ (oh c e σ cr)∧br (oh c e σ cr):=by
 obtain⟨hle,m0,hm⟩:=h 0;refine⟨⟨m0,?_⟩,⟨fun _ _ _ _ _ _ _ h=>(by cases h),fun _ _ _ _ _ _ _ h=>(by cases h),fun _ _ _ _ _ _ _ _ h=>(by cases h),fun _ _ _ _ _ _ _ h=>(by cases h)⟩,?_,⟨fun _ _ _ _ _ _ h=>(by cases h),fun _ _ _ _ _ _ h=>(by cases h),fun _ _ _ _ _ _ _ h=>(by cases h)⟩⟩
 ·intro N ro rd fn c' e' Ls ah cr' hc;simp only[oh]at hc;split at hc
  ·rename_i hh;obtain⟨rfl,rfl,rfl,rfl,rfl,rfl⟩:=hh;cases hc;exact fun hN F ι a w Q hF hi he hd hQ=>hm m0 (ar9 _) N hN F ι a w Q hF hi he hd hQ
  ·cases hc
 ·intro ro rd fn c' e' Ls ah cr' hc;simp only[oh]at hc;split at hc
  ·rename_i hh;obtain⟨_,_,_,_,_,rfl⟩:=hh;cases hc;exact hle
  ·cases hc
theorem Lt{h:FuncId}{fh:Func}{qz:Nat}{A:Array Oper}{X:Code}{args:List IV}{mo:Option IV}{e1 e2:Env}{v:IV}(bA:P.funcs[h]?=some fh)(hb:fh.body=some (.seq (.region qz A false) X))(kL:(fh.name != "runtime.NumGoroutine")=true)
 (hlen:args.length≤fh.ntmps)(Bf:A.any mK=true)(aoq:nE P 0 A A.toList (bY args fh.ntmps) mo σ=some (e1,none,σ))(hX:∀fn,bW P 0 none fn X e1 [] σ ⟨.normal,e2,[],ah⟩)
 (hsh:∀S m,yA P S 0 h X e1 m σ=(match S.code 0 none h X e1 [] σ with|some r=>some (r,m)|none=>none))(eo:bt P fh e2 ah=some v):
 ∃S,dL P S∧br S∧eM S 0 [.call h args] mo σ=some (none,ah):=by
 obtain⟨⟨m,hS⟩,hC,hm,hk⟩:=Vp hX;refine⟨lk P (oh X e1 σ ⟨.normal,e2,[],ah⟩),Ji hS hC hm hk,Dc hm hk,?_⟩;have nA:(oh X e1 σ ⟨.normal,e2,[],ah⟩).code 0 none h X e1 [] σ=some ⟨.normal,e2,[],ah⟩:=by simp[oh]
 have hd:A6 P (oh X e1 σ ⟨.normal,e2,[],ah⟩) 0 h args mo σ=some (none,ah):=by
  unfold A6;rw[bA];simp only[hb,awj,kL,avZ,Bool.not_true,Bool.false_eq_true,if_false];rw[if_neg (by omega)];simp only[yA,Bf,Bool.not_false,avZ,if_true];rw[show(List.foldl (fun(e:Env) (x:IV×Nat)=>e.put (some x.snd) x.fst) ⟨fh.ntmps,.lf⟩ args.zipIdx)=bY args fh.ntmps from rfl,aoq];simp only;rw[hsh,nA];simp only[eo]
 simp only[eM,lk,hd]
end Go.Ev
namespace Go.Ev
variable{P:Program}{N:Nat}{σ ah:St}{e:Env}{df:List Df}
structure lS(o:Oper)(op:Op)(dst:Option Nat):Prop where
 op:o.op=op
 dst:o.dst=dst
 guard:o.guard=none
theorem lS.Fi{o:Oper}{op:Op}{dst:Option Nat}(h:lS o op dst)(ops:Array Oper)(e:Env):aF o ops e=true:=by unfold aF;rw[h.guard]
theorem gZ.qx{o:Oper}{op:Op}{dst:Option Nat}{ops:Array Oper}{l:List Oper}{v:IV}{ai:St}{cr:CR}(ho:lS o op dst)(hv:ak P 0 (aq e) o σ=some (.val v ai))(h:gZ P 0 none ops l (e.put dst v) df ai cr):gZ P 0 none ops (o::l) e df σ cr:=by
 refine .val (ho.Fi _ _) hv ?_;rw[ho.dst];exact h
theorem c_.qx{rd:Option Nat}{o:Oper}{op:Op}{dst:Option Nat}{ops:Array Oper}{l:List Oper}{v:IV}{ai:St}{CW:jx}(ho:lS o op dst)(hv:ak P 0 (aq e) o σ=some (.val v ai))(hn:ai.n≤N)(h:c_ P N rd ops l (e.put dst v) df ai CW):c_ P N rd ops (o::l) e df σ CW:=by
 refine .val (ho.Fi _ _) hv hn ?_;rw[ho.dst];exact h
theorem Lu{fn:FuncId}{i:Nat}{A:Array Oper}{l:List Oper}{cr:CR}(hl:A.toList=l)(h:gZ P 0 none A l e df σ cr):bW P 0 none fn (.region i A false) e df σ cr:=.region (by rw[hl];exact h)
theorem O2{t:TypeId}{x:IV}(ha:qo P t=some false)(hs:aI P t=some 1):partOf P t [x] 0=some x:=by simp[partOf,ha,hs]
structure pw(P:Program)(g h:FuncId)(t et T y:TypeId)(f0 f1:Func)(A0 A1 A2 A3 B0 B3 B4 B5 B6 B7:Array Oper)(a0 a1 a2 a3 a4 a5 b0 b3 b4 b5 b6 b7 b8 b9 c0 c1 c2:Oper)(i0 i1 i2 i3 j0 j3 j4 j5 j6 j7:Nat)(Z:Code)(x3:TypeId)(bM:Array Field):Prop where
 fn:P.funcs[g]?=some f0
 fh:P.funcs[h]?=some f1
 fb:f0.body=some (.seq (.region i0 A0 false) (.seq (.region i1 A1 false) (.seq (.region i2 A2 false) (.seq (.region i3 A3 false) .ret))))
 hb:f1.body=some (.seq (.region j0 B0 false) (.block 0 (.seq (.region j3 B3 false) (.cond (.tmp 6) (.region j4 B4 false) (.seq (.region j5 B5 false) (.cond (.tmp 8) (.seq (.region j6 B6 false) (.region j7 B7 false)) Z))))))
 nt:f0.ntmps=6
 nh:f1.ntmps=12
 name:(f1.name != "runtime.NumGoroutine")=true
 res:f0.results.toList=[.cell 2 et]
 resh:f1.results.toList=[]
 lA0:A0.toList=[a0]
 lA1:A1.toList=[a1,a2]
 lA2:A2.toList=[a3,a4]
 lA3:A3.toList=[a5]
 lB0:B0.toList=[b0]
 lB3:B3.toList=[b3]
 lB4:B4.toList=[b4]
 lB5:B5.toList=[b5,b6,b7]
 lB6:B6.toList=[b8,b9]
 lB7:B7.toList=[c0,c1,c2]
 oa0:lS a0 (.alloc et) (some 2)
 oa1:lS a1 (.makeFunc (.func h) #[] #[.tmp 2]) (some 3)
 oa2:lS a2 (.defer {callee:=.value (.tmp 3),args:= #[],argTypes:= #[]}) none
 oa3:lS a3 (.move (.tmp 0)) (some 4)
 oa4:lS a4 (.call {callee:=.value (.tmp 4),args:= #[],argTypes:= #[]}) (some 5)
 oa5:lS a5 (.store et (.tmp 2) (.const (.int .i64 0))) none
 ob0:lS b0 (.call {callee:=.builtin .recover,args:= #[],argTypes:= #[]}) (some 4)
 ob3:lS b3 (.binOp .eql T (.tmp 4) (.const .nilIface) x3) (some 6)
 ob4:lS b4 (.assign (.tmp 4)) (some 1)
 ob5:lS b5 (.typeAssert (.tmp 4) y t true) (some 7)
 ob6:lS b6 (.extract (.tmp 7) 1) (some 8)
 ob7:lS b7 (.extract (.tmp 7) 0) (some 9)
 ob8:lS b8 (.alloc t) (some 2)
 ob9:lS b9 (.store t (.tmp 2) (.tmp 9)) none
 oc0:lS c0 (.fieldAddr t (.tmp 2) 0) (some 10)
 oc1:lS c1 (.load et (.tmp 10)) (some 11)
 oc2:lS c2 (.store et (.tmp 0) (.tmp 11)) none
 ze:cj P et=some (.int .i64 0)
 se:aI P et=some 1
 ae:qo P et=some false
 zt:cj P t=some (.agg #[.int .i64 0])
 st:aI P t=some 1
 ut:P.underlying t=some (.struct bM)
 fl:bM[0]?=some bM[0]! ∧bM[0]!.type=et∧bM[0]!.offset=0
 eq0:oT P .eql T (.tmp 4) (.const .nilIface) (.raw .nilIface) (.raw .nilIface)=some (.bool true)
 eq1:∀u,oT P .eql T (.tmp 4) (.const .nilIface) (.cY t (.agg [.raw u])) (.raw .nilIface)=some (.bool false)
variable{g h:FuncId}{t et T y:TypeId}{f0 f1:Func}{A0 A1 A2 A3 B0 B3 B4 B5 B6 B7:Array Oper}{a0 a1 a2 a3 a4 a5 b0 b3 b4 b5 b6 b7 b8 b9 c0 c1 c2:Oper}{i0 i1 i2 i3 j0 j3 j4 j5 j6 j7:Nat}{Z:Code}{x3:TypeId}{bM:Array Field}
theorem pw.afR(H:pw P g h t et T y f0 f1 A0 A1 A2 A3 B0 B3 B4 B5 B6 B7 a0 a1 a2 a3 a4 a5 b0 b3 b4 b5 b6 b7 b8 b9 c0 c1 c2 i0 i1 i2 i3 j0 j3 j4 j5 j6 j7 Z x3 bM)(p:IV)(σ:St):
 ∃S,dL P S∧br S∧eM S 0 [.call h [p]] none σ=some (none,σ):=by
 have OU:(bY [p] f1.ntmps).n=12:=by rw[(cC (t:=0) (by rw[H.nh];simp)).1,H.nh]
 refine Lt (e1:=(bY [p] f1.ntmps).put (some 4) (.raw .nilIface)) (e2:=(((bY [p] f1.ntmps).put (some 4) (.raw .nilIface)).put (some 6) (.bool true)).put (some 1) (.raw .nilIface)) (v:=.av []) H.fh H.hb H.name (by rw[H.nh];simp) ?_ ?_ (fun fn=>?_) (fun S m=>rfl) ?_
 ·rw[←awy,H.lB0];simp[mK,H.ob0.op]
 ·rw[H.lB0];have:aF b0 B0 (bY [p] f1.ntmps)=true:=H.ob0.Fi _ _;simp[nE,this,mK,H.ob0.op,H.ob0.dst]
 ·refine .KG (.seq (ai:=σ) (p8:=[]) (Lu H.lB3 (.qx H.ob3 (v:=.bool true) ?_ .nil)) (.cond (t:=true) ?_ ?_)) (by simp)
  ·simp only[ak,H.ob3.op,aq,lift];rw[dH (by rw[OU];decide),H.eq0];rfl
  ·simp only[aq];rw[dH (by rw[eL,OU];decide)]
  ·rw[if_pos rfl];refine Lu H.lB4 (.qx H.ob4 (v:=.raw .nilIface) ?_ .nil);simp only[ak,H.ob4.op,aq];rw[fk (by decide),dH (by rw[OU];decide)];rfl
 ·simp[bt,H.resh]
theorem pw.afS(H:pw P g h t et T y f0 f1 A0 A1 A2 A3 B0 B3 B4 B5 B6 B7 a0 a1 a2 a3 a4 a5 b0 b3 b4 b5 b6 b7 b8 b9 c0 c1 c2 i0 i1 i2 i3 j0 j3 j4 j5 j6 j7 Z x3 bM)(id:Nat)(u:Value)(hu:ab (.raw u)=true)(σ:St)(hid:id<σ.n)(az:σ.at id=some (.cells [.int 0] 0 0)):
 ∃S,dL P S∧br S∧eM S 0 [.call h [.ptr id 0 0 1]] (some (.cY t (.agg [.raw u]))) σ=some (none,xg σ id (.raw u)):=by
 have hn:(bY [.ptr id 0 0 1] f1.ntmps).n=12:=by rw[(cC (t:=0) (by rw[H.nh];simp)).1,H.nh]
 have h0:(bY [.ptr id 0 0 1] f1.ntmps).at 0=.ptr id 0 0 1:=by rw[(cC (t:=0) (by rw[H.nh];simp)).2 (by simp)];rfl
 generalize hE:bY [.ptr id 0 0 1] f1.ntmps=E0 at hn h0;obtain⟨e1,l5⟩:∃e1,e1=E0.put (some 4) (.cY t (.agg [.raw u])):=⟨_,rfl⟩;obtain⟨e2,Cx⟩:∃e2,e2=e1.put (some 6) (.bool false):=⟨_,rfl⟩;obtain⟨e3,RC⟩:∃e3,e3=e2.put (some 7) (.av [.agg [.raw u],.bool true]):=⟨_,rfl⟩;obtain⟨e4,FZ⟩:∃e4,e4=e3.put (some 8) (.bool true):=⟨_,rfl⟩;obtain⟨e5,XW⟩:∃e5,e5=e4.put (some 9) (.agg [.raw u]):=⟨_,rfl⟩;obtain⟨e6,XX⟩:∃e6,e6=e5.put (some 2) (.ptr σ.n 0 0 1):=⟨_,rfl⟩;obtain⟨e7,he7⟩:∃e7,e7=e6.put none .undef:=⟨_,rfl⟩;obtain⟨e8,he8⟩:∃e8,e8=e7.put (some 10) (.ptr σ.n 0 0 1):=⟨_,rfl⟩;obtain⟨e9,he9⟩:∃e9,e9=e8.put (some 11) (.raw u):=⟨_,rfl⟩;have n1:e1.n=12:=by rw[l5,eL,hn]
 have n2:e2.n=12:=by rw[Cx,eL,n1]
 have n3:e3.n=12:=by rw[RC,eL,n2]
 have n4:e4.n=12:=by rw[FZ,eL,n3]
 have n5:e5.n=12:=by rw[XW,eL,n4]
 have n6:e6.n=12:=by rw[XX,eL,n5]
 have n7:e7.n=12:=by rw[he7,eL,n6]
 have n8:e8.n=12:=by rw[he8,eL,n7]
 have mH:e1.at 4=.cY t (.agg [.raw u]):=by rw[l5,dH (by rw[hn];decide)]
 have eZ:e1.at 0=.ptr id 0 0 1:=by rw[l5,fk (by decide),h0]
 have x26:e2.at 6=.bool false:=by rw[Cx,dH (by rw[n1];decide)]
 have XY:e2.at 4=.cY t (.agg [.raw u]):=by rw[Cx,fk (by decide),mH]
 have x37:e3.at 7=.av [.agg [.raw u],.bool true]:=by rw[RC,dH (by rw[n2];decide)]
 have x47:e4.at 7=.av [.agg [.raw u],.bool true]:=by rw[FZ,fk (by decide),x37]
 have x58:e5.at 8=.bool true:=by rw[XW,fk (by decide),FZ,dH (by rw[n3];decide)]
 have x69:e6.at 9=.agg [.raw u]:=by rw[XX,fk (by decide),XW,dH (by rw[n4];decide)]
 have x62:e6.at 2=.ptr σ.n 0 0 1:=by rw[XX,dH (by rw[n5];decide)]
 have x72:e7.at 2=.ptr σ.n 0 0 1:=by rw[he7];exact x62
 have x8:e8.at 10=.ptr σ.n 0 0 1:=by rw[he8,dH (by rw[n7];decide)]
 have x9:e9.at 11=.raw u:=by rw[he9,dH (by rw[n8];decide)]
 have x90:e9.at 0=.ptr id 0 0 1:=by
  rw[he9,fk (by decide),he8,fk (by decide),he7];show e6.at 0=_;rw[XX,fk (by decide),XW,fk (by decide),FZ,fk (by decide),RC,fk (by decide),Cx,fk (by decide),eZ]
 refine Lt (e1:=e1) (e2:=e9.put none .undef) (v:=.av []) H.fh H.hb H.name (by rw[H.nh];simp) ?_ ?_ (fun fn=>?_) (fun S m=>rfl) ?_
 ·rw[←awy,H.lB0];simp[mK,H.ob0.op]
 ·rw[H.lB0,hE];have:aF b0 B0 E0=true:=H.ob0.Fi _ _;simp[nE,this,mK,H.ob0.op,H.ob0.dst,l5]
 ·refine .KG (.seq (e1:=e2) (ai:=σ) (p8:=[]) (Lu H.lB3 (.qx H.ob3 (v:=.bool false) ?_ (by rw[←Cx];exact .nil))) (.cond (t:=false) (by simp only[aq];exact x26) ?_)) (by simp)
  ·simp only[ak,H.ob3.op,aq,lift];rw[mH,H.eq1];rfl
  ·rw[if_neg (by decide)]
   refine .seq (e1:=e5) (ai:=σ) (p8:=[]) (Lu H.lB5 (.qx H.ob5 (v:=.av [.agg [.raw u],.bool true]) (ai:=σ) ?_ (by
    rw[←RC]
    refine .qx H.ob6 (v:=.bool true) (ai:=σ) ?_ (by
     rw[←FZ];refine .qx H.ob7 (v:=.agg [.raw u]) (ai:=σ) ?_ (by rw[←XW];exact .nil);simp only[ak,H.ob7.op,aq,x47];rfl)
    simp only[ak,H.ob6.op,aq,x37];rfl))) (.cond (t:=true) (by simp only[aq];exact x58) ?_)
   ·simp only[ak,H.ob5.op,aq,XY,H.ut,H.zt];simp;rfl
   ·rw[if_pos rfl]
    refine .seq (e1:=e7) (ai:=(σ.add (.cells [.int 0] 0 0)).put σ.n (.cells [.raw u] 0 0)) (p8:=[]) (Lu H.lB6 (.qx H.ob8 (v:=.ptr σ.n 0 0 1) (ai:=σ.add (.cells [.int 0] 0 0)) ?_ (by
     rw[←XX];refine .qx H.ob9 (v:=.undef) (ai:=(σ.add (.cells [.int 0] 0 0)).put σ.n (.cells [.raw u] 0 0)) ?_ (by rw[←he7];exact .nil);simp only[ak,H.ob9.op,aq,x62,x69,H.st,St.gI,if_true];rw[if_pos ⟨asT _,rfl,ar9 _,trivial,ar9 _,by simp[cellsOf,hu]⟩];rfl))) (Lu H.lB7 (.qx H.oc0 (v:=.ptr σ.n 0 0 1) (ai:=(σ.add (.cells [.int 0] 0 0)).put σ.n (.cells [.raw u] 0 0)) ?_ (by
     rw[←he8]
     refine .qx H.oc1 (v:=.raw u) (ai:=(σ.add (.cells [.int 0] 0 0)).put σ.n (.cells [.raw u] 0 0)) ?_ (by
      rw[←he9];refine .qx H.oc2 (v:=.undef) (ai:=xg σ id (.raw u)) ?_ .nil;have bc:¬σ.n=id:=by omega
      simp only[ak,H.oc2.op,aq,x90,x9,H.se,St.cJ,St.gI,bc,if_false,az];rw[if_pos ⟨asT _,rfl,ar9 _,trivial,ar9 _,by simp[cellsOf,hu]⟩];rfl)
     simp only[ak,H.oc1.op,aq,x8,H.se,St.cJ,if_true];rw[if_pos ⟨ar9 _,ar9 _,ar9 _⟩,O2 H.ae H.se];rfl)))
    ·simp only[ak,H.ob8.op,H.zt];rfl
    ·simp only[ak,H.oc0.op,aq,x72,H.ut,H.fl.1,H.fl.2.1,H.fl.2.2,H.se];rfl
 ·simp[bt,H.resh]
theorem pw.O3(H:pw P g h t et T y f0 f1 A0 A1 A2 A3 B0 B3 B4 B5 B6 B7 a0 a1 a2 a3 a4 a5 b0 b3 b4 b5 b6 b7 b8 b9 c0 c1 c2 i0 i1 i2 i3 j0 j3 j4 j5 j6 j7 Z x3 bM):Dz P g t:=by
 intro N cl f as σ RW PW RQ gY hN hX hR hPa;have hn:(bY [cl] f0.ntmps).n=6:=by rw[(cC (t:=0) (by rw[H.nt];simp)).1,H.nt]
 have h0:(bY [cl] f0.ntmps).at 0=cl:=by rw[(cC (t:=0) (by rw[H.nt];simp)).2 (by simp)];rfl
 refine dD.ajN H.fn H.fb (by rw[H.nt];simp) ?_;generalize hE:bY [cl] f0.ntmps=E0 at hn h0;obtain⟨e1,l5⟩:∃e1,e1=E0.put (some 2) (.ptr σ.n 0 0 1):=⟨_,rfl⟩;obtain⟨e2,Cx⟩:∃e2,e2=(e1.put (some 3) (.fn (.func h) [] [.ptr σ.n 0 0 1])).put none .undef:=⟨_,rfl⟩;obtain⟨e4,FZ⟩:∃e4,e4=e2.put (some 4) cl:=⟨_,rfl⟩;have n1:e1.n=6:=by rw[l5,eL,hn]
 have n2:e2.n=6:=by rw[Cx,eL,eL,n1]
 have n4:e4.n=6:=by rw[FZ,eL,n2]
 have ju:e1.at 2=.ptr σ.n 0 0 1:=by rw[l5,dH (by rw[hn];decide)]
 have XZ:(e1.put (some 3) (.fn (.func h) [] [.ptr σ.n 0 0 1])).at 3=.fn (.func h) [] [.ptr σ.n 0 0 1]:=dH (by rw[n1];decide);have X0:e2.at 2=.ptr σ.n 0 0 1:=by rw[Cx];show(e1.put (some 3) _).at 2=_;rw[fk (by decide),ju]
 have Lv:e2.at 0=cl:=by rw[Cx];show(e1.put (some 3) _).at 0=_;rw[fk (by decide),l5,fk (by decide),h0]
 have x44:e4.at 4=cl:=by rw[FZ,dH (by rw[n2];decide)]
 have x42:e4.at 2=.ptr σ.n 0 0 1:=by rw[FZ,fk (by decide),X0]
 have ajO:gd P (.fn (.func h) [] [.ptr σ.n 0 0 1]) []=some (.enter h [.ptr σ.n 0 0 1]):=by
  simp only[gd,H.fh,H.hb,awj,H.name,avZ,if_true];rfl
 refine .seq (.HK (fn:=0) (cr:=⟨.normal,e1,[],σ.add (.cells [.int 0] 0 0)⟩) (Lu H.lA0 (.qx H.oa0 (v:=.ptr σ.n 0 0 1) ?_ (by rw[←l5];exact .nil))) hN ⟨hN,fun _=>?_,fun h=>absurd rfl h⟩)
 ·simp only[ak,H.oa0.op,H.ze];rfl
 refine .seq (.HK (fn:=0) (cr:=⟨.normal,e2,[.call h [.ptr σ.n 0 0 1]],σ.add (.cells [.int 0] 0 0)⟩) (Lu H.lA1 (.qx (ai:=σ.add (.cells [.int 0] 0 0)) H.oa1 (v:=.fn (.func h) [] [.ptr σ.n 0 0 1]) ?_ ?_)) hN ⟨hN,fun _=>?_,fun h=>absurd rfl h⟩)
 ·simp only[ak,H.oa1.op];show ret (IV.fn _ [] [aq e1 (.tmp 2)]) _=_;simp only[aq,ju];rfl
 ·refine .defer (d:=.call h [.ptr σ.n 0 0 1]) (H.oa2.Fi _ _) ?_ (by rw[H.oa2.dst,←Cx];exact .nil);simp only[ak,H.oa2.op,aq,XZ];show(match gd P _ []with|some (.enter f args)=>some (ez.Rj (.call f args))|_=>none)=_;rw[ajO]
 have leave:∀{ex:Ex} {e5:Env} {mi:Option IV} {c7 vo:St} {x:IV},e5.at 2=.ptr σ.n 0 0 1→(((ex=.normal∨ex=.ret)∧mi=none)∨∃u,ex=.bC u∧mi=some u)→
  (∃S,dL P S∧br S∧eM S 0 [.call h [.ptr σ.n 0 0 1]] mi c7=some (none,vo))→vo.n≤N→vo.at σ.n=some (.cells [x] 0 0)→RQ x vo→
  ∃S mi Vq v,dL P S∧br S∧(((ex=.normal∨ex=.ret)∧mi=none)∨∃u,ex=.bC u∧mi=some u)∧eM S 0 [.call h [.ptr σ.n 0 0 1]] mi c7=some (none,Vq)∧Vq.n≤N∧bt P f0 e5 Vq=some v∧RQ v Vq:=by
  intro ex e5 mi c7 vo x h2 hex ⟨S,s1,s2,s3⟩ WA az qK;refine⟨S,mi,vo,x,s1,s2,hex,s3,WA,?_,qK⟩;simp only[bt,H.res,h2,H.se,az];rw[if_pos ⟨ar9 _,ar9 _,ar9 _⟩,O2 H.ae H.se]
 refine .seq (.CI (CW:=fun ex e5 c7=>(∃v,ex=.normal∧e5=e4.put (some 5) v∧RW v c7)∨∃v,ex=.bC v∧e5=e4∧PW v c7) (.region ?_) ?_)
 ·rw[H.lA2];refine .qx (ai:=σ.add (.cells [.int 0] 0 0)) H.oa3 (v:=cl) ?_ hN ?_
  ·simp only[ak,H.oa3.op,aq,Lv];rfl
  ·rw[←FZ];refine .Up (H.oa4.Fi _ _) (f:=f) (args:=as) ?_ hX (fun v c7 hv=>⟨(hR v c7 hv).2.1,?_⟩) (fun v c7 hv=>.inr ⟨v,rfl,rfl,hv⟩)
   ·simp only[ak,H.oa4.op,aq,x44];exact gY
   ·rw[H.oa4.dst];exact .nil (.inl ⟨v,rfl,rfl,hv⟩)
 ·intro ex e5 c7 hc;rcases hc with⟨v,rfl,rfl,hv⟩|⟨v,rfl,rfl,hv⟩
  ·obtain⟨r1,r2,r3⟩:=hR v c7 hv;have x52:(e4.put (some 5) v).at 2=.ptr σ.n 0 0 1:=by rw[fk (by decide),x42]
   refine⟨r2,fun _=>?_,fun h=>absurd rfl h⟩;refine .seq (.CI (CW:=fun ex e6 vo=>ex=.normal∧e6=(e4.put (some 5) v).put none .undef∧vo=c7.put σ.n (.cells [.int 0] 0 0)) (.region ?_) ?_)
   ·rw[H.lA3];refine .qx H.oa5 (v:=.undef) (ai:=c7.put σ.n (.cells [.int 0] 0 0)) ?_ r2 (.nil ⟨rfl,rfl,rfl⟩);simp only[ak,H.oa5.op,aq,x52,H.se,r1,lift];rw[if_pos ⟨asT _,rfl,ar9 _,trivial,ar9 _,rfl⟩];rfl
   ·rintro ex e6 vo ⟨rfl,rfl,rfl⟩;refine⟨r2,fun _=>.CI (.ret (CW:=fun ex e6 vo=>ex=.ret∧e6=(e4.put (some 5) v).put none .undef∧vo=c7.put σ.n (.cells [.int 0] 0 0)) ⟨rfl,rfl,rfl⟩) ?_,fun h=>absurd rfl h⟩;rintro ex e6 vo ⟨rfl,rfl,rfl⟩;exact leave (by exact x52) (.inl ⟨.inr rfl,rfl⟩) (H.afR _ _) r2 (by simp) r3
  ·obtain⟨u,rfl,hu,r1,r2,r3,r4⟩:=hPa v c7 hv;refine⟨by omega,fun h=>absurd h (by simp),fun _=>?_⟩;exact leave x42 (.inr ⟨_,rfl,rfl⟩) (H.afS σ.n u hu c7 r3 r1) r2 (by simp[xg]) r4
end Go.Ev
namespace Go.Ev
section run
variable(P:Program)(cfg:aL)
def wY(n:Nat)(nm:Bool)(f:FuncId):af:=
 match P.funcs[f]? with
 |some fn=>match fn.body with
  |some c=>
   if Nat.ble fn.params.size fn.ntmps&&Nat.blt 0 (cA P f)then
    pc P 0 fn.params.toList<|exec P cfg n 0 f c ⟨setArgs 0 0 (dg P 0 fn.params.toList),[],fn.params.size,0,fn.ntmps⟩ fun ex V=>match ex with
     |.exit _=>.fail 141
     |.bC _ _=>.fail 146
     |_=>match kT P 0 V fn.results.toList with
      |some [.one (.sr k)]=>match V.l[k]? with
       |some (.row s' false _ _ z)=>if !nm&&ase (cA P f) s' then .ret (.rws z)else .fail 146
       |_=>.fail 147
      |some [.one (.nl true s')]=>if ase (cA P f) s' then .ret (.tr s' .an)else .fail 146
      |_=>.fail 148
   else .fail 143
  |none=>.fail 144
 |none=>.fail 145
end run
variable{P:Program}{N:Nat}{σ ah:St}{R R':Rs}{φ aH:Ph}{E:Nat→Env}{ν:List IV}{cfg:aL}{self:mZ}
variable{C:Cr}{Q:IV→Prop}{K:List (List IV→Prop)}{V:SS}{d f0:Nat}{L:List (LO SE)}{Γ:Gm SE}
theorem jt.X1(eT:P.follows .mixedOrders=true)(hC:iE P C){n:Nat}{nm:Bool}{f:FuncId}{cR:af}{args es:List IV}(he:wY P cfg n nm f=cR)(hl:(P.funcs[f]?).map (·.params.size)=some args.length)(hp:∀x∈args,Pure x)
 (bD:∀e∈es,(cellsOf e).length=cA P f)(bf:∀c∈flat es,(∃v,c=.raw v)∧ab c=true)(bc:nm=false→es≠[])
 (hs:cR.sat P C (·=.tree (cA P f) es) [] args):jt P (cA P f) f args es:=by
 subst he;unfold wY at hs;split at hs<;>first|(exact hs.elim)|skip
 rename_i fn bA;split at hs<;>first|(exact hs.elim)|skip
 rename_i c hb;split at hs<;>first|(exact hs.elim)|skip
 rename_i hle;simp only[ar6]at hle;have I9:fn.params.size≤fn.ntmps:=by simpa using hle.1
 have bu:0<cA P f:=by simpa using hle.2
 rw[bA]at hl;simp only[Option.map_some,ar7]at hl;obtain⟨hs,aT⟩:=vE (R:=fun _=>none) (φ:=fun _=>none) (L:=[]) (σ:=⟨0,.lf⟩) hp hs (by simpa using hl);have hlen:args.length≤fn.ntmps:=by omega
 have hJ:J (aj P args) (fun _=>none) (fun _=>none) (setArgs 0 0 (dg P 0 fn.params.toList)) [] (fun _=>bY args fn.ntmps) ⟨0,.lf⟩:=by
  refine⟨fun d t pv hg=>?_,fun k ob h=>(by simp at h),fun k k' id h=>(by cases h),fun k id h=>(by cases h),fun id m h=>(by cases h),fun id m cs ar mn h=>(by cases h),T.WF.lf,fun id _=>rfl⟩;obtain⟨rfl,_,h3⟩:=fq (α:=IV) hg;rw[List.drop_zero]at aT;have ht:t<args.length:=by rw[aT.len];have:=(ar5.1 h3).1;simpa using this
  show VR _ _ _ _ _ ((bY args fn.ntmps).at t) pv;rw[(cC hlen).2 ht,ar4 ht];exact aT.get (ar4 ht) (by simpa using h3)
 obtain⟨b,nA⟩:=uE eT hC n 0 f c ⟨setArgs 0 0 (dg P 0 fn.params.toList),[],fn.params.size,0,fn.ntmps⟩ _ args [] _ _ _ _
  (fun N ex e1 ai=>(ex=.normal∨ex=.ret)∧ai.n≤N∧∃v,bt P fn e1 ai=some v∧GO (cA P f) es v ai) none [] hs hJ hl.symm rfl (cC (t:=0) hlen).1 (by
   intro ex V' μ K' R' aH E' ah x0 hf gm aZ
   have main:(match kT P 0 V' fn.results.toList with
    |some [.one (.sr k)]=>match V'.l[k]? with
     |some (.row s' false _ _ z)=>if !nm&&ase (cA P f) s' then af.ret (.rws z)else .fail 146
     |_=>.fail 147
    |some [.one (.nl true s')]=>if ase (cA P f) s' then .ret (.tr s' .an)else .fail 146
    |_=>.fail 148).sat P C (·=IV.tree (cA P f) es) K' (args++μ)→∃b,∀N,b≤N→ah.n≤N∧ah.n≤N∧∃v,bt P fn (E' 0) ah=some v∧GO (cA P f) es v ah:=by
    intro db;split at db<;>first|(exact db.elim)|skip
    ·rename_i k hr;obtain⟨vs,h1,h2⟩:=lj hf.hJ hr;split at db<;>first|(exact db.elim)|skip
     rename_i s' cut fr z hk;split at db<;>first|(exact db.elim)|skip
     rename_i gW;simp only[ar6,Bool.not_eq_true']at gW;obtain⟨mN,gW⟩:=gW;have uD:=asd gW;subst uD;obtain⟨z',h5,rfl⟩:=db;obtain⟨v,rfl,hv⟩:=kq h2;have eo:bt P fn (E' 0) ah=some v:=jW h1;obtain⟨s1,eP,c1,c2,c3⟩:=Fh h5;cases c2;obtain⟨m0,FY,m1,m2,m3⟩:=hf.hJ.obj k _ hk;have ID:z.den P (args++μ)=some (.tree (cA P f) FY):=m1;rw[c1]at ID;cases ID;refine⟨ah.n,fun N hN=>⟨hN,hN,v,eo,.inr ⟨bc mN,?_⟩⟩⟩;obtain⟨s2,rX,rG,rY,z1,gF,b1,b2,b3⟩:=hv;rw[hk]at b1;cases b1;have po:z.den P (args++μ)=some (.tree (cA P f) gF):=b2;rw[c1]at po;cases po;rcases b3 with⟨_,b4,_⟩|⟨id,cs,ar,mn,cap,d1,d2,d3,d4,d5,d6⟩
     ·exact absurd (List.eq_nil_of_length_eq_zero b4) (bc mN)
     ·rcases m3 with⟨e1,_⟩|⟨bp,cm,g_,o7,e1,e2,e3,e4,e5,e6,e7⟩
      ·rw[d1]at e1;cases e1
      ·rw[d1]at e1;cases e1;rw[d2]at e2;cases e2;refine⟨id,cs,ar,mn,cap,d2,e3,by simpa using d3,e4,fun q x hx=>?_⟩
       have hq:q<cs.length:=by
        have:=(ar5.1 hx).1;rw[r7 bD]at this;omega
       obtain⟨u,rfl⟩:=(bf x (List.mem_of_getElem? hx)).1;have:=e7 q _ _ (ar4 hq) hx;exact⟨u,rfl,by rw[ar4 hq,bS this]⟩
    ·rename_i s' hr;obtain⟨vs,h1,h2⟩:=lj hf.hJ hr;split at db<;>first|(exact db.elim)|skip
     rename_i gW;have uD:=asd gW;obtain⟨z',h5,rfl⟩:=db;obtain⟨v,rfl,hv⟩:=kq h2;have eo:bt P fn (E' 0) ah=some v:=jW h1;obtain⟨_,rfl⟩:=hv;simp only[SE.den,Option.bind_some]at h5;split at h5<;>cases h5;exact⟨ah.n,fun N hN=>⟨hN,hN,_,eo,.inl ⟨rfl,rfl⟩⟩⟩
   cases ex with
   |exit i=>exact aZ.elim
   |bC t pv=>exact aZ.elim
   |normal=>
    obtain rfl:=gm;obtain⟨b,hb⟩:=main aZ;exact⟨b,fun N hN=>⟨(hb N hN).1,.inl rfl,(hb N hN).2⟩⟩
   |ret=>
    obtain rfl:=gm;obtain⟨b,hb⟩:=main aZ;exact⟨b,fun N hN=>⟨(hb N hN).1,.inr rfl,(hb N hN).2⟩⟩)
 exact jt.CI bu bD bf (dD.body (RW:=fun v ai=>GO (cA P f) es v ai) bA hb hlen (nA b (ar9 _))) fun v ah h=>h
end Go.Ev
