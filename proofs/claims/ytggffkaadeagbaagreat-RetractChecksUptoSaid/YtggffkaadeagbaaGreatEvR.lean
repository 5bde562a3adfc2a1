/- Lemmas over the model, without conditions of their own: calls that catch; cells and rows. -/
import Derived.Test.YtggffkaadeagbaaGreatEvO
import Derived.Test.YtggffkaadeagbaaGreatEvP
open Go.Fence renaming wide->arb
open Classical renaming propDecidable->awl
open Nat renaming le_refl->aqK,zero_le->arw,beq->aqP,eq_of_beq_eq_true->aqO
open Option renaming isSome_some->auY
open Bool renaming and_self->auC,and_eq_true->aqG
open Array renaming any_toList->avc
open Option.some renaming injEq->aqH
open List renaming getElem?_eq_some_iff->aqF,getElem?_eq_getElem->aqE
set_option linter.all false
namespace Go.Ev
variable{P:Program}{N:Nat}{σ ah:St}{e:Env}{df:List Df}{ι:Io}{w:World}
def wA(P:Program)(N:Nat)(c:Code)(e:Env)(df:List Df)(σ:St)(CD:Ex→Env→List Df→St→Prop):Prop:=
 ∀F ι a w Q,jX F none ι→Inv N ι σ w→cZ ι e a.tmps→jJ ι df a.defers→(∀ex e' LP ah,CD ex e' LP ah→mW N 0 ι w σ ⟨ex,e',LP,ah⟩ Q)→c.wpIn F 0 P Q a w
variable{CD:Ex→Env→List Df→St→Prop}
theorem wA.Cp{c:Code}{CW:jG}(h:dz P N none c e df σ CW)(hc:∀ex e' ah,CW ex e' ah→CD ex e' df ah):wA P N c e df σ CD:=
 fun F ι a w Q hF hi he hd hQ=>h F ι a w Q hF hi he hd fun ex e' ah h1=>hQ ex e' df ah (hc _ _ _ h1)
theorem wA.HR{c:Code}{fn:FuncId}{cr:CR}(h:fx P 0 none fn c e df σ cr)(hn:cr.σ.n≤N)(hc:CD cr.ex cr.e cr.df cr.σ):wA P N c e df σ CD:=
 fun _ _ _ _ _ hF hi he hd hQ=>h.wp hn hF hi he hd (hQ _ _ _ _ hc)
theorem wA.seq{x y:Code}(h:wA P N x e df σ (fun ex e1 vI ai=>ai.n≤N∧(ex=.normal→wA P N y e1 vI ai CD)∧(ex≠.normal→CD ex e1 vI ai))):wA P N (.seq x y) e df σ CD:=by
 intro F ι a w Q hF hi he hd hQ;refine wpIn_seq (h F ι a w _ hF hi he hd fun ex e1 vI ai hc=>?_);obtain⟨hn,h1,h2⟩:=hc;intro a1 w1 b_ eO i1 l1 cV d1 p1;cases ex with
 |normal=>exact h1 rfl F b_ a1 w1 Q (hF.mono l1.ext) i1 cV d1 fun ex e' LP ah hc=>(hQ ex e' LP ah hc).from hi l1 hn
 |exit id=>exact hQ _ _ _ _ (h2 (by simp)) a1 w1 b_ eO i1 l1 cV d1 p1
 |goto l=>exact hQ _ _ _ _ (h2 (by simp)) a1 w1 b_ eO i1 l1 cV d1 p1
 |ret=>exact hQ _ _ _ _ (h2 (by simp)) a1 w1 b_ eO i1 l1 cV d1 p1
 |bU v=>exact hQ _ _ _ _ (h2 (by simp)) a1 w1 b_ eO i1 l1 cV d1 p1
theorem dF.ajf{f:FuncId}{fn:Func}{c:Code}{args:List IV}{RW:IV→St→Prop}(bO:P.funcs[f]?=some fn)(hb:fn.body=some c)(hlen:args.length≤fn.ntmps)
 (h:wA P N c (cE args fn.ntmps) [] σ (fun ex e1 vI ai=>∃S mi dc v,ek P S∧bB S∧(((ex=.normal∨ex=.ret)∧mi=none)∨∃u,ex=.bU u∧mi=some u)∧fP S 0 vI mi ai=some (none,dc)∧dc.n≤N∧bE P fn e1 dc=some v∧RW v dc)):dF P N f args σ RW:=by
 intro ι us w hi hr;refine callsIn_of_wp_marks bO hb trivial ?_;refine h arb ι {tmps:=us.toArray++Array.replicate (fn.ntmps- us.toArray.size) Go.undef,defers:=[]} w _ (.inl ⟨rfl,rfl⟩) hi (xi hr hlen) trivial fun ex e1 vI ai hc=>?_;obtain⟨S,mi,dc,v,hC,hk,hex,fK,hn,hv,qG⟩:=hc;have dD:ai.n≤N:=Nat.le_trans (jR hk fK) hn;intro a1 w1 b_ eO i1 l1 cV d1 p1
 have:∀u,oq b_ mi u→LeavesInM arb 0 P fn a1.tmps (fun ed w'=>∃v ah,RW v ah∧vR N 0 ι w σ v ah ed w') a1.defers u w1:=fun u hu=>
  ra hC hk fK d1 hu i1 hn fun w2 od u2 i2 l2 qB=>by
   rw[show u2=_ from qB];obtain⟨u,k1,k2⟩:=sx hv i2 (cV.mono l2.ext);exact⟨u,k1,v,dc,qG,od,k2,i2,Le.then hi dD l1 l2⟩
 rcases hex with⟨rfl|rfl,rfl⟩|⟨u,rfl,rfl⟩
 ·exact this _ rfl
 ·exact this _ rfl
 ·obtain⟨x,rfl,hx⟩:=p1;exact this _ ⟨x,rfl,hx⟩
noncomputable def nY(c:Code)(e:Env)(σ:St)(cr:CR):Self:=
 ⟨fun ro rd _ c' e' LP ah=> @ite _ (ro=0∧rd=none∧c'=c∧e'=e∧LP=[]∧ah=σ) (awl _) (some cr) none,fun _ _ _ _=>none,fun _ _ _ _=>none,fun _ _ _ _ _=>none⟩
theorem VK{c:Code}{cr:CR}(h:∀fn,fx P 0 none fn c e [] σ cr):(∃m,gU P (nY c e σ cr) m)∧ek P (nY c e σ cr)∧bS (nY c e σ cr)∧bB (nY c e σ cr):=by
 obtain⟨hle,m0,hm⟩:=h 0;refine⟨⟨m0,?_⟩,⟨fun _ _ _ _ _ _ _ h=>(by cases h),fun _ _ _ _ _ _ _ h=>(by cases h),fun _ _ _ _ _ _ _ _ h=>(by cases h),fun _ _ _ _ _ _ _ h=>(by cases h)⟩,?_,⟨fun _ _ _ _ _ _ h=>(by cases h),fun _ _ _ _ _ _ h=>(by cases h),fun _ _ _ _ _ _ _ h=>(by cases h)⟩⟩
 ·intro N ro rd fn c' e' LP ah cr' hc;simp only[nY]at hc;split at hc
  ·rename_i hh;obtain⟨rfl,rfl,rfl,rfl,rfl,rfl⟩:=hh;cases hc;exact fun hN F ι a w Q hF hi he hd hQ=>hm m0 (aqK _) N hN F ι a w Q hF hi he hd hQ
  ·cases hc
 ·intro ro rd fn c' e' LP ah cr' hc;simp only[nY]at hc;split at hc
  ·rename_i hh;obtain⟨_,_,_,_,_,rfl⟩:=hh;cases hc;exact hle
  ·cases hc
theorem LQ{h:FuncId}{fh:Func}{qv:Nat}{A:Array Oper}{X:Code}{args:List IV}{mo:Option IV}{e1 e2:Env}{v:IV}(bO:P.funcs[h]?=some fh)(hb:fh.body=some (.seq (.region qv A false) X))(kR:(fh.name != "runtime.NumGoroutine")=true)
 (hlen:args.length≤fh.ntmps)(AH:A.any mF=true)(ank:nA P 0 A A.toList (cE args fh.ntmps) mo σ=some (e1,none,σ))(hX:∀fn,fx P 0 none fn X e1 [] σ ⟨.normal,e2,[],ah⟩)
 (hsh:∀S m,xX P S 0 h X e1 m σ=(match S.code 0 none h X e1 [] σ with|some r=>some (r,m)|none=>none))(ej:bE P fh e2 ah=some v):
 ∃S,ek P S∧bB S∧fP S 0 [.call h args] mo σ=some (none,ah):=by
 obtain⟨⟨m,hS⟩,hC,hm,hk⟩:=VK hX;refine⟨lj P (nY X e1 σ ⟨.normal,e2,[],ah⟩),Jz hS hC hm hk,C1 hm hk,?_⟩;have np:(nY X e1 σ ⟨.normal,e2,[],ah⟩).code 0 none h X e1 [] σ=some ⟨.normal,e2,[],ah⟩:=by simp[nY]
 have hd:Ay P (nY X e1 σ ⟨.normal,e2,[],ah⟩) 0 h args mo σ=some (none,ah):=by
  unfold Ay;rw[bO];simp only[hb,auY,kR,auC,Bool.not_true,Bool.false_eq_true,if_false];rw[if_neg (by omega)];simp only[xX,AH,Bool.not_false,auC,if_true];rw[show(List.foldl (fun(e:Env) (x:IV×Nat)=>e.put (some x.snd) x.fst) ⟨fh.ntmps,.lf⟩ args.zipIdx)=cE args fh.ntmps from rfl,ank];simp only;rw[hsh,np];simp only[ej]
 simp only[fP,lj,hd]
end Go.Ev
namespace Go.Ev
variable{P:Program}{N:Nat}{σ ah:St}{e:Env}{df:List Df}
structure lS(o:Oper)(op:Op)(dst:Option Nat):Prop where
 op:o.op=op
 dst:o.dst=dst
 guard:o.guard=none
theorem lS.Fm{o:Oper}{op:Op}{dst:Option Nat}(h:lS o op dst)(ops:Array Oper)(e:Env):aJ o ops e=true:=by unfold aJ;rw[h.guard]
theorem rh.qs{o:Oper}{op:Op}{dst:Option Nat}{ops:Array Oper}{l:List Oper}{v:IV}{ai:St}{cr:CR}(ho:lS o op dst)(hv:ak P 0 (aq e) o σ=some (.val v ai))(h:rh P 0 none ops l (e.put dst v) df ai cr):rh P 0 none ops (o::l) e df σ cr:=by
 refine .val (ho.Fm _ _) hv ?_;rw[ho.dst];exact h
theorem dg.qs{rd:Option Nat}{o:Oper}{op:Op}{dst:Option Nat}{ops:Array Oper}{l:List Oper}{v:IV}{ai:St}{CW:jG}(ho:lS o op dst)(hv:ak P 0 (aq e) o σ=some (.val v ai))(hn:ai.n≤N)(h:dg P N rd ops l (e.put dst v) df ai CW):dg P N rd ops (o::l) e df σ CW:=by
 refine .val (ho.Fm _ _) hv hn ?_;rw[ho.dst];exact h
theorem LR{fn:FuncId}{i:Nat}{A:Array Oper}{l:List Oper}{cr:CR}(hl:A.toList=l)(h:rh P 0 none A l e df σ cr):fx P 0 none fn (.region i A false) e df σ cr:=.region (by rw[hl];exact h)
theorem Py{t:TypeId}{x:IV}(ha:qf P t=some false)(hs:aH P t=some 1):partOf P t [x] 0=some x:=by simp[partOf,ha,hs]
structure pf(P:Program)(g h:FuncId)(t et T y:TypeId)(f0 f1:Func)(A0 A1 A2 A3 B0 B3 B4 B5 B6 B7:Array Oper)(a0 a1 a2 a3 a4 a5 b0 b3 b4 b5 b6 b7 b8 b9 c0 c1 c2:Oper)(i0 i1 i2 i3 j0 j3 j4 j5 j6 j7:Nat)(Z:Code)(x3:TypeId)(bN:Array Field):Prop where
 fn:P.funcs[g]?=some f0
 fh:P.funcs[h]?=some f1
 fb:f0.body=some (.seq (.region i0 A0 false) (.seq (.region i1 A1 false) (.seq (.region i2 A2 false) (.seq (.region i3 A3 false) .ret))))
 hb:f1.body=some (.seq (.region j0 B0 false) (.block 0 (.seq (.region j3 B3 false) (.cond (.tmp 6) (.region j4 B4 false) (.seq (.region j5 B5 false) (.cond (.tmp 8) (.seq (.region j6 B6 false) (.region j7 B7 false)) Z))))))
 nt:f0.ntmps=6
 nh:f1.ntmps=12
 name:(f1.name != "runtime.NumGoroutine")=true
 res:f0.results.toList=[.cell 2 et]
 resh:f1.results.toList=[]
 lA0:A0.toList=[a0]
 lA1:A1.toList=[a1,a2]
 lA2:A2.toList=[a3,a4]
 lA3:A3.toList=[a5]
 lB0:B0.toList=[b0]
 lB3:B3.toList=[b3]
 lB4:B4.toList=[b4]
 lB5:B5.toList=[b5,b6,b7]
 lB6:B6.toList=[b8,b9]
 lB7:B7.toList=[c0,c1,c2]
 oa0:lS a0 (.alloc et) (some 2)
 oa1:lS a1 (.makeFunc (.func h) #[] #[.tmp 2]) (some 3)
 oa2:lS a2 (.defer {callee:=.value (.tmp 3),args:= #[],argTypes:= #[]}) none
 oa3:lS a3 (.move (.tmp 0)) (some 4)
 oa4:lS a4 (.call {callee:=.value (.tmp 4),args:= #[],argTypes:= #[]}) (some 5)
 oa5:lS a5 (.store et (.tmp 2) (.const (.int .i64 0))) none
 ob0:lS b0 (.call {callee:=.builtin .recover,args:= #[],argTypes:= #[]}) (some 4)
 ob3:lS b3 (.binOp .eql T (.tmp 4) (.const .nilIface) x3) (some 6)
 ob4:lS b4 (.assign (.tmp 4)) (some 1)
 ob5:lS b5 (.typeAssert (.tmp 4) y t true) (some 7)
 ob6:lS b6 (.extract (.tmp 7) 1) (some 8)
 ob7:lS b7 (.extract (.tmp 7) 0) (some 9)
 ob8:lS b8 (.alloc t) (some 2)
 ob9:lS b9 (.store t (.tmp 2) (.tmp 9)) none
 oc0:lS c0 (.fieldAddr t (.tmp 2) 0) (some 10)
 oc1:lS c1 (.load et (.tmp 10)) (some 11)
 oc2:lS c2 (.store et (.tmp 0) (.tmp 11)) none
 ze:cn P et=some (.int .i64 0)
 se:aH P et=some 1
 ae:qf P et=some false
 zt:cn P t=some (.agg #[.int .i64 0])
 st:aH P t=some 1
 ut:P.underlying t=some (.struct bN)
 fl:bN[0]?=some bN[0]! ∧bN[0]!.type=et∧bN[0]!.offset=0
 eq0:oL P .eql T (.tmp 4) (.const .nilIface) (.raw .nilIface) (.raw .nilIface)=some (.bool true)
 eq1:∀u,oL P .eql T (.tmp 4) (.const .nilIface) (.da t (.agg [.raw u])) (.raw .nilIface)=some (.bool false)
variable{g h:FuncId}{t et T y:TypeId}{f0 f1:Func}{A0 A1 A2 A3 B0 B3 B4 B5 B6 B7:Array Oper}{a0 a1 a2 a3 a4 a5 b0 b3 b4 b5 b6 b7 b8 b9 c0 c1 c2:Oper}{i0 i1 i2 i3 j0 j3 j4 j5 j6 j7:Nat}{Z:Code}{x3:TypeId}{bN:Array Field}
theorem pf.afJ(H:pf P g h t et T y f0 f1 A0 A1 A2 A3 B0 B3 B4 B5 B6 B7 a0 a1 a2 a3 a4 a5 b0 b3 b4 b5 b6 b7 b8 b9 c0 c1 c2 i0 i1 i2 i3 j0 j3 j4 j5 j6 j7 Z x3 bN)(p:IV)(σ:St):
 ∃S,ek P S∧bB S∧fP S 0 [.call h [p]] none σ=some (none,σ):=by
 have Pr:(cE [p] f1.ntmps).n=12:=by rw[(cL (t:=0) (by rw[H.nh];simp)).1,H.nh]
 refine LQ (e1:=(cE [p] f1.ntmps).put (some 4) (.raw .nilIface)) (e2:=(((cE [p] f1.ntmps).put (some 4) (.raw .nilIface)).put (some 6) (.bool true)).put (some 1) (.raw .nilIface)) (v:=.av []) H.fh H.hb H.name (by rw[H.nh];simp) ?_ ?_ (fun fn=>?_) (fun S m=>rfl) ?_
 ·rw[←avc,H.lB0];simp[mF,H.ob0.op]
 ·rw[H.lB0];have:aJ b0 B0 (cE [p] f1.ntmps)=true:=H.ob0.Fm _ _;simp[nA,this,mF,H.ob0.op,H.ob0.dst]
 ·refine .K7 (.seq (ai:=σ) (vI:=[]) (LR H.lB3 (.qs H.ob3 (v:=.bool true) ?_ .nil)) (.cond (t:=true) ?_ ?_)) (by simp)
  ·simp only[ak,H.ob3.op,aq,lift];rw[dH (by rw[Pr];decide),H.eq0];rfl
  ·simp only[aq];rw[dH (by rw[eK,Pr];decide)]
  ·rw[if_pos rfl];refine LR H.lB4 (.qs H.ob4 (v:=.raw .nilIface) ?_ .nil);simp only[ak,H.ob4.op,aq];rw[fj (by decide),dH (by rw[Pr];decide)];rfl
 ·simp[bE,H.resh]
theorem pf.afK(H:pf P g h t et T y f0 f1 A0 A1 A2 A3 B0 B3 B4 B5 B6 B7 a0 a1 a2 a3 a4 a5 b0 b3 b4 b5 b6 b7 b8 b9 c0 c1 c2 i0 i1 i2 i3 j0 j3 j4 j5 j6 j7 Z x3 bN)(id:Nat)(u:Value)(hu:af (.raw u)=true)(σ:St)(hid:id<σ.n)(aA:σ.at id=some (.cells [.int 0] 0 0)):
 ∃S,ek P S∧bB S∧fP S 0 [.call h [.ptr id 0 0 1]] (some (.da t (.agg [.raw u]))) σ=some (none,wH σ id (.raw u)):=by
 have hn:(cE [.ptr id 0 0 1] f1.ntmps).n=12:=by rw[(cL (t:=0) (by rw[H.nh];simp)).1,H.nh]
 have h0:(cE [.ptr id 0 0 1] f1.ntmps).at 0=.ptr id 0 0 1:=by rw[(cL (t:=0) (by rw[H.nh];simp)).2 (by simp)];rfl
 generalize hE:cE [.ptr id 0 0 1] f1.ntmps=E0 at hn h0;obtain⟨e1,l5⟩:∃e1,e1=E0.put (some 4) (.da t (.agg [.raw u])):=⟨_,rfl⟩;obtain⟨e2,Ce⟩:∃e2,e2=e1.put (some 6) (.bool false):=⟨_,rfl⟩;obtain⟨e3,Sd⟩:∃e3,e3=e2.put (some 7) (.av [.agg [.raw u],.bool true]):=⟨_,rfl⟩;obtain⟨e4,F_⟩:∃e4,e4=e3.put (some 8) (.bool true):=⟨_,rfl⟩;obtain⟨e5,X2⟩:∃e5,e5=e4.put (some 9) (.agg [.raw u]):=⟨_,rfl⟩;obtain⟨e6,X3⟩:∃e6,e6=e5.put (some 2) (.ptr σ.n 0 0 1):=⟨_,rfl⟩;obtain⟨e7,he7⟩:∃e7,e7=e6.put none .undef:=⟨_,rfl⟩;obtain⟨e8,he8⟩:∃e8,e8=e7.put (some 10) (.ptr σ.n 0 0 1):=⟨_,rfl⟩;obtain⟨e9,he9⟩:∃e9,e9=e8.put (some 11) (.raw u):=⟨_,rfl⟩;have n1:e1.n=12:=by rw[l5,eK,hn]
 have n2:e2.n=12:=by rw[Ce,eK,n1]
 have n3:e3.n=12:=by rw[Sd,eK,n2]
 have n4:e4.n=12:=by rw[F_,eK,n3]
 have n5:e5.n=12:=by rw[X2,eK,n4]
 have n6:e6.n=12:=by rw[X3,eK,n5]
 have n7:e7.n=12:=by rw[he7,eK,n6]
 have n8:e8.n=12:=by rw[he8,eK,n7]
 have kS:e1.at 4=.da t (.agg [.raw u]):=by rw[l5,dH (by rw[hn];decide)]
 have eh:e1.at 0=.ptr id 0 0 1:=by rw[l5,fj (by decide),h0]
 have x26:e2.at 6=.bool false:=by rw[Ce,dH (by rw[n1];decide)]
 have LS:e2.at 4=.da t (.agg [.raw u]):=by rw[Ce,fj (by decide),kS]
 have x37:e3.at 7=.av [.agg [.raw u],.bool true]:=by rw[Sd,dH (by rw[n2];decide)]
 have x47:e4.at 7=.av [.agg [.raw u],.bool true]:=by rw[F_,fj (by decide),x37]
 have x58:e5.at 8=.bool true:=by rw[X2,fj (by decide),F_,dH (by rw[n3];decide)]
 have x69:e6.at 9=.agg [.raw u]:=by rw[X3,fj (by decide),X2,dH (by rw[n4];decide)]
 have x62:e6.at 2=.ptr σ.n 0 0 1:=by rw[X3,dH (by rw[n5];decide)]
 have x72:e7.at 2=.ptr σ.n 0 0 1:=by rw[he7];exact x62
 have x8:e8.at 10=.ptr σ.n 0 0 1:=by rw[he8,dH (by rw[n7];decide)]
 have x9:e9.at 11=.raw u:=by rw[he9,dH (by rw[n8];decide)]
 have x90:e9.at 0=.ptr id 0 0 1:=by
  rw[he9,fj (by decide),he8,fj (by decide),he7];show e6.at 0=_;rw[X3,fj (by decide),X2,fj (by decide),F_,fj (by decide),Sd,fj (by decide),Ce,fj (by decide),eh]
 refine LQ (e1:=e1) (e2:=e9.put none .undef) (v:=.av []) H.fh H.hb H.name (by rw[H.nh];simp) ?_ ?_ (fun fn=>?_) (fun S m=>rfl) ?_
 ·rw[←avc,H.lB0];simp[mF,H.ob0.op]
 ·rw[H.lB0,hE];have:aJ b0 B0 E0=true:=H.ob0.Fm _ _;simp[nA,this,mF,H.ob0.op,H.ob0.dst,l5]
 ·refine .K7 (.seq (e1:=e2) (ai:=σ) (vI:=[]) (LR H.lB3 (.qs H.ob3 (v:=.bool false) ?_ (by rw[←Ce];exact .nil))) (.cond (t:=false) (by simp only[aq];exact x26) ?_)) (by simp)
  ·simp only[ak,H.ob3.op,aq,lift];rw[kS,H.eq1];rfl
  ·rw[if_neg (by decide)]
   refine .seq (e1:=e5) (ai:=σ) (vI:=[]) (LR H.lB5 (.qs H.ob5 (v:=.av [.agg [.raw u],.bool true]) (ai:=σ) ?_ (by
    rw[←Sd]
    refine .qs H.ob6 (v:=.bool true) (ai:=σ) ?_ (by
     rw[←F_];refine .qs H.ob7 (v:=.agg [.raw u]) (ai:=σ) ?_ (by rw[←X2];exact .nil);simp only[ak,H.ob7.op,aq,x47];rfl)
    simp only[ak,H.ob6.op,aq,x37];rfl))) (.cond (t:=true) (by simp only[aq];exact x58) ?_)
   ·simp only[ak,H.ob5.op,aq,LS,H.ut,H.zt];simp;rfl
   ·rw[if_pos rfl]
    refine .seq (e1:=e7) (ai:=(σ.add (.cells [.int 0] 0 0)).put σ.n (.cells [.raw u] 0 0)) (vI:=[]) (LR H.lB6 (.qs H.ob8 (v:=.ptr σ.n 0 0 1) (ai:=σ.add (.cells [.int 0] 0 0)) ?_ (by
     rw[←X3];refine .qs H.ob9 (v:=.undef) (ai:=(σ.add (.cells [.int 0] 0 0)).put σ.n (.cells [.raw u] 0 0)) ?_ (by rw[←he7];exact .nil);simp only[ak,H.ob9.op,aq,x62,x69,H.st,St.gP,if_true];rw[if_pos ⟨arw _,rfl,aqK _,trivial,aqK _,by simp[cellsOf,hu]⟩];rfl))) (LR H.lB7 (.qs H.oc0 (v:=.ptr σ.n 0 0 1) (ai:=(σ.add (.cells [.int 0] 0 0)).put σ.n (.cells [.raw u] 0 0)) ?_ (by
     rw[←he8]
     refine .qs H.oc1 (v:=.raw u) (ai:=(σ.add (.cells [.int 0] 0 0)).put σ.n (.cells [.raw u] 0 0)) ?_ (by
      rw[←he9];refine .qs H.oc2 (v:=.undef) (ai:=wH σ id (.raw u)) ?_ .nil;have aT:¬σ.n=id:=by omega
      simp only[ak,H.oc2.op,aq,x90,x9,H.se,St.cS,St.gP,aT,if_false,aA];rw[if_pos ⟨arw _,rfl,aqK _,trivial,aqK _,by simp[cellsOf,hu]⟩];rfl)
     simp only[ak,H.oc1.op,aq,x8,H.se,St.cS,if_true];rw[if_pos ⟨aqK _,aqK _,aqK _⟩,Py H.ae H.se];rfl)))
    ·simp only[ak,H.ob8.op,H.zt];rfl
    ·simp only[ak,H.oc0.op,aq,x72,H.ut,H.fl.1,H.fl.2.1,H.fl.2.2,H.se];rfl
 ·simp[bE,H.resh]
theorem pf.Pz(H:pf P g h t et T y f0 f1 A0 A1 A2 A3 B0 B3 B4 B5 B6 B7 a0 a1 a2 a3 a4 a5 b0 b3 b4 b5 b6 b7 b8 b9 c0 c1 c2 i0 i1 i2 i3 j0 j3 j4 j5 j6 j7 Z x3 bN):Dl P g t:=by
 intro N cl f as σ RW PW Sq ij hN hX hR hPa;have hn:(cE [cl] f0.ntmps).n=6:=by rw[(cL (t:=0) (by rw[H.nt];simp)).1,H.nt]
 have h0:(cE [cl] f0.ntmps).at 0=cl:=by rw[(cL (t:=0) (by rw[H.nt];simp)).2 (by simp)];rfl
 refine dF.ajf H.fn H.fb (by rw[H.nt];simp) ?_;generalize hE:cE [cl] f0.ntmps=E0 at hn h0;obtain⟨e1,l5⟩:∃e1,e1=E0.put (some 2) (.ptr σ.n 0 0 1):=⟨_,rfl⟩;obtain⟨e2,Ce⟩:∃e2,e2=(e1.put (some 3) (.fn (.func h) [] [.ptr σ.n 0 0 1])).put none .undef:=⟨_,rfl⟩;obtain⟨e4,F_⟩:∃e4,e4=e2.put (some 4) cl:=⟨_,rfl⟩;have n1:e1.n=6:=by rw[l5,eK,hn]
 have n2:e2.n=6:=by rw[Ce,eK,eK,n1]
 have n4:e4.n=6:=by rw[F_,eK,n2]
 have iD:e1.at 2=.ptr σ.n 0 0 1:=by rw[l5,dH (by rw[hn];decide)]
 have LU:(e1.put (some 3) (.fn (.func h) [] [.ptr σ.n 0 0 1])).at 3=.fn (.func h) [] [.ptr σ.n 0 0 1]:=dH (by rw[n1];decide);have LV:e2.at 2=.ptr σ.n 0 0 1:=by rw[Ce];show(e1.put (some 3) _).at 2=_;rw[fj (by decide),iD]
 have D2:e2.at 0=cl:=by rw[Ce];show(e1.put (some 3) _).at 0=_;rw[fj (by decide),l5,fj (by decide),h0]
 have x44:e4.at 4=cl:=by rw[F_,dH (by rw[n2];decide)]
 have x42:e4.at 2=.ptr σ.n 0 0 1:=by rw[F_,fj (by decide),LV]
 have ajg:gj P (.fn (.func h) [] [.ptr σ.n 0 0 1]) []=some (.enter h [.ptr σ.n 0 0 1]):=by
  simp only[gj,H.fh,H.hb,auY,H.name,auC,if_true];rfl
 refine .seq (.HR (fn:=0) (cr:=⟨.normal,e1,[],σ.add (.cells [.int 0] 0 0)⟩) (LR H.lA0 (.qs H.oa0 (v:=.ptr σ.n 0 0 1) ?_ (by rw[←l5];exact .nil))) hN ⟨hN,fun _=>?_,fun h=>absurd rfl h⟩)
 ·simp only[ak,H.oa0.op,H.ze];rfl
 refine .seq (.HR (fn:=0) (cr:=⟨.normal,e2,[.call h [.ptr σ.n 0 0 1]],σ.add (.cells [.int 0] 0 0)⟩) (LR H.lA1 (.qs (ai:=σ.add (.cells [.int 0] 0 0)) H.oa1 (v:=.fn (.func h) [] [.ptr σ.n 0 0 1]) ?_ ?_)) hN ⟨hN,fun _=>?_,fun h=>absurd rfl h⟩)
 ·simp only[ak,H.oa1.op];show ret (IV.fn _ [] [aq e1 (.tmp 2)]) _=_;simp only[aq,iD];rfl
 ·refine .defer (d:=.call h [.ptr σ.n 0 0 1]) (H.oa2.Fm _ _) ?_ (by rw[H.oa2.dst,←Ce];exact .nil);simp only[ak,H.oa2.op,aq,LU];show(match gj P _ []with|some (.enter f args)=>some (ey.RT (.call f args))|_=>none)=_;rw[ajg]
 have leave:∀{ex:Ex} {e5:Env} {mi:Option IV} {dc u7:St} {x:IV},e5.at 2=.ptr σ.n 0 0 1→(((ex=.normal∨ex=.ret)∧mi=none)∨∃u,ex=.bU u∧mi=some u)→
  (∃S,ek P S∧bB S∧fP S 0 [.call h [.ptr σ.n 0 0 1]] mi dc=some (none,u7))→u7.n≤N→u7.at σ.n=some (.cells [x] 0 0)→Sq x u7→
  ∃S mi VL v,ek P S∧bB S∧(((ex=.normal∨ex=.ret)∧mi=none)∨∃u,ex=.bU u∧mi=some u)∧fP S 0 [.call h [.ptr σ.n 0 0 1]] mi dc=some (none,VL)∧VL.n≤N∧bE P f0 e5 VL=some v∧Sq v VL:=by
  intro ex e5 mi dc u7 x h2 hex ⟨S,s1,s2,s3⟩ NR aA qG;refine⟨S,mi,u7,x,s1,s2,hex,s3,NR,?_,qG⟩;simp only[bE,H.res,h2,H.se,aA];rw[if_pos ⟨aqK _,aqK _,aqK _⟩,Py H.ae H.se]
 refine .seq (.Cp (CW:=fun ex e5 dc=>(∃v,ex=.normal∧e5=e4.put (some 5) v∧RW v dc)∨∃v,ex=.bU v∧e5=e4∧PW v dc) (.region ?_) ?_)
 ·rw[H.lA2];refine .qs (ai:=σ.add (.cells [.int 0] 0 0)) H.oa3 (v:=cl) ?_ hN ?_
  ·simp only[ak,H.oa3.op,aq,D2];rfl
  ·rw[←F_];refine .UL (H.oa4.Fm _ _) (f:=f) (args:=as) ?_ hX (fun v dc hv=>⟨(hR v dc hv).2.1,?_⟩) (fun v dc hv=>.inr ⟨v,rfl,rfl,hv⟩)
   ·simp only[ak,H.oa4.op,aq,x44];exact ij
   ·rw[H.oa4.dst];exact .nil (.inl ⟨v,rfl,rfl,hv⟩)
 ·intro ex e5 dc hc;rcases hc with⟨v,rfl,rfl,hv⟩|⟨v,rfl,rfl,hv⟩
  ·obtain⟨r1,r2,r3⟩:=hR v dc hv;have x52:(e4.put (some 5) v).at 2=.ptr σ.n 0 0 1:=by rw[fj (by decide),x42]
   refine⟨r2,fun _=>?_,fun h=>absurd rfl h⟩;refine .seq (.Cp (CW:=fun ex e6 u7=>ex=.normal∧e6=(e4.put (some 5) v).put none .undef∧u7=dc.put σ.n (.cells [.int 0] 0 0)) (.region ?_) ?_)
   ·rw[H.lA3];refine .qs H.oa5 (v:=.undef) (ai:=dc.put σ.n (.cells [.int 0] 0 0)) ?_ r2 (.nil ⟨rfl,rfl,rfl⟩);simp only[ak,H.oa5.op,aq,x52,H.se,r1,lift];rw[if_pos ⟨arw _,rfl,aqK _,trivial,aqK _,rfl⟩];rfl
   ·rintro ex e6 u7 ⟨rfl,rfl,rfl⟩;refine⟨r2,fun _=>.Cp (.ret (CW:=fun ex e6 u7=>ex=.ret∧e6=(e4.put (some 5) v).put none .undef∧u7=dc.put σ.n (.cells [.int 0] 0 0)) ⟨rfl,rfl,rfl⟩) ?_,fun h=>absurd rfl h⟩;rintro ex e6 u7 ⟨rfl,rfl,rfl⟩;exact leave (by exact x52) (.inl ⟨.inr rfl,rfl⟩) (H.afJ _ _) r2 (by simp) r3
  ·obtain⟨u,rfl,hu,r1,r2,r3,r4⟩:=hPa v dc hv;refine⟨by omega,fun h=>absurd h (by simp),fun _=>?_⟩;exact leave x42 (.inr ⟨_,rfl,rfl⟩) (H.afK σ.n u hu dc r3 r1) r2 (by simp[wH]) r4
end Go.Ev
namespace Go.Ev
section run
variable(P:Program)(cfg:bj)
def wB(n:Nat)(nm:Bool)(f:FuncId):ab:=
 match P.funcs[f]? with
 |some fn=>match fn.body with
  |some c=>
   if Nat.ble fn.params.size fn.ntmps&&Nat.blt 0 (cF P f)then
    oV P 0 fn.params.toList<|exec P cfg n 0 f c ⟨setArgs 0 0 (dj P 0 fn.params.toList),[],fn.params.size,0,fn.ntmps⟩ fun ex V=>match ex with
     |.exit _=>.fail 141
     |.bU _ _=>.fail 146
     |_=>match kY P 0 V fn.results.toList with
      |some [.one (.sr k)]=>match V.l[k]? with
       |some (.row s' false _ _ z)=>if !nm&&aqP (cF P f) s' then .ret (.rws z)else .fail 146
       |_=>.fail 147
      |some [.one (.nl true s')]=>if aqP (cF P f) s' then .ret (.tr s' .an)else .fail 146
      |_=>.fail 148
   else .fail 143
  |none=>.fail 144
 |none=>.fail 145
end run
variable{P:Program}{N:Nat}{σ ah:St}{R R':Rs}{φ aG:Ph}{E:Nat→Env}{ν:List IV}{cfg:bj}{self:mZ}
variable{C:Cr}{Q:IV→Prop}{K:List (List IV→Prop)}{V:SS}{d f0:Nat}{L:List (LO SE)}{Γ:Gm SE}
theorem jF.X4(eS:P.follows .mixedOrders=true)(hC:iP P C){n:Nat}{nm:Bool}{f:FuncId}{cB:ab}{args es:List IV}(he:wB P cfg n nm f=cB)(hl:(P.funcs[f]?).map (·.params.size)=some args.length)(hp:∀x∈args,Pure x)
 (bC:∀e∈es,(cellsOf e).length=cF P f)(bo:∀c∈flat es,(∃v,c=.raw v)∧af c=true)(aT:nm=false→es≠[])
 (hs:cB.sat P C (·=.tree (cF P f) es) [] args):jF P (cF P f) f args es:=by
 subst he;unfold wB at hs;split at hs<;>first|(exact hs.elim)|skip
 rename_i fn bO;split at hs<;>first|(exact hs.elim)|skip
 rename_i c hb;split at hs<;>first|(exact hs.elim)|skip
 rename_i hle;simp only[aqG]at hle;have Jo:fn.params.size≤fn.ntmps:=by simpa using hle.1
 have bA:0<cF P f:=by simpa using hle.2
 rw[bO]at hl;simp only[Option.map_some,aqH]at hl;obtain⟨hs,bp⟩:=vl (R:=fun _=>none) (φ:=fun _=>none) (L:=[]) (σ:=⟨0,.lf⟩) hp hs (by simpa using hl);have hlen:args.length≤fn.ntmps:=by omega
 have hJ:J (aj P args) (fun _=>none) (fun _=>none) (setArgs 0 0 (dj P 0 fn.params.toList)) [] (fun _=>cE args fn.ntmps) ⟨0,.lf⟩:=by
  refine⟨fun d t pv hg=>?_,fun k ob h=>(by simp at h),fun k k' id h=>(by cases h),fun k id h=>(by cases h),fun id m h=>(by cases h),fun id m cs au mn h=>(by cases h),T.WF.lf,fun id _=>rfl⟩;obtain⟨rfl,_,h3⟩:=fm (α:=IV) hg;rw[List.drop_zero]at bp;have ht:t<args.length:=by rw[bp.len];have:=(aqF.1 h3).1;simpa using this
  show VR _ _ _ _ _ ((cE args fn.ntmps).at t) pv;rw[(cL hlen).2 ht,aqE ht];exact bp.get (aqE ht) (by simpa using h3)
 obtain⟨b,np⟩:=uf eS hC n 0 f c ⟨setArgs 0 0 (dj P 0 fn.params.toList),[],fn.params.size,0,fn.ntmps⟩ _ args [] _ _ _ _
  (fun N ex e1 ai=>(ex=.normal∨ex=.ret)∧ai.n≤N∧∃v,bE P fn e1 ai=some v∧GZ (cF P f) es v ai) none [] hs hJ hl.symm rfl (cL (t:=0) hlen).1 (by
   intro ex V' μ K' R' aG E' ah x0 hf ie bf
   have main:(match kY P 0 V' fn.results.toList with
    |some [.one (.sr k)]=>match V'.l[k]? with
     |some (.row s' false _ _ z)=>if !nm&&aqP (cF P f) s' then ab.ret (.rws z)else .fail 146
     |_=>.fail 147
    |some [.one (.nl true s')]=>if aqP (cF P f) s' then .ret (.tr s' .an)else .fail 146
    |_=>.fail 148).sat P C (·=IV.tree (cF P f) es) K' (args++μ)→∃b,∀N,b≤N→ah.n≤N∧ah.n≤N∧∃v,bE P fn (E' 0) ah=some v∧GZ (cF P f) es v ah:=by
    intro dE;split at dE<;>first|(exact dE.elim)|skip
    ·rename_i k hr;obtain⟨vs,h1,h2⟩:=lh hf.hJ hr;split at dE<;>first|(exact dE.elim)|skip
     rename_i s' cut fr z hk;split at dE<;>first|(exact dE.elim)|skip
     rename_i ic;simp only[aqG,Bool.not_eq_true']at ic;obtain⟨mc,ic⟩:=ic;have ue:=aqO ic;subst ue;obtain⟨z',h5,rfl⟩:=dE;obtain⟨v,rfl,hv⟩:=kD h2;have ej:bE P fn (E' 0) ah=some v:=j9 h1;obtain⟨s1,eP,c1,c2,c3⟩:=Fl h5;cases c2;obtain⟨m0,F9,m1,m2,m3⟩:=hf.hJ.obj k _ hk;have IJ:z.den P (args++μ)=some (.tree (cF P f) F9):=m1;rw[c1]at IJ;cases IJ;refine⟨ah.n,fun N hN=>⟨hN,hN,v,ej,.inr ⟨aT mc,?_⟩⟩⟩;obtain⟨s2,rS,ry,rT,z1,gK,b1,b2,b3⟩:=hv;rw[hk]at b1;cases b1;have pc:z.den P (args++μ)=some (.tree (cF P f) gK):=b2;rw[c1]at pc;cases pc;rcases b3 with⟨_,b4,_⟩|⟨id,cs,au,mn,cap,d1,d2,d3,d4,d5,d6⟩
     ·exact absurd (List.eq_nil_of_length_eq_zero b4) (aT mc)
     ·rcases m3 with⟨e1,_⟩|⟨br,cq,ik,oS,e1,e2,e3,e4,e5,e6,e7⟩
      ·rw[d1]at e1;cases e1
      ·rw[d1]at e1;cases e1;rw[d2]at e2;cases e2;refine⟨id,cs,au,mn,cap,d2,e3,by simpa using d3,e4,fun q x hx=>?_⟩
       have hq:q<cs.length:=by
        have:=(aqF.1 hx).1;rw[rW bC]at this;omega
       obtain⟨u,rfl⟩:=(bo x (List.mem_of_getElem? hx)).1;have:=e7 q _ _ (aqE hq) hx;exact⟨u,rfl,by rw[aqE hq,bV this]⟩
    ·rename_i s' hr;obtain⟨vs,h1,h2⟩:=lh hf.hJ hr;split at dE<;>first|(exact dE.elim)|skip
     rename_i ic;have ue:=aqO ic;obtain⟨z',h5,rfl⟩:=dE;obtain⟨v,rfl,hv⟩:=kD h2;have ej:bE P fn (E' 0) ah=some v:=j9 h1;obtain⟨_,rfl⟩:=hv;simp only[SE.den,Option.bind_some]at h5;split at h5<;>cases h5;exact⟨ah.n,fun N hN=>⟨hN,hN,_,ej,.inl ⟨rfl,rfl⟩⟩⟩
   cases ex with
   |exit i=>exact bf.elim
   |bU t pv=>exact bf.elim
   |normal=>
    obtain rfl:=ie;obtain⟨b,hb⟩:=main bf;exact⟨b,fun N hN=>⟨(hb N hN).1,.inl rfl,(hb N hN).2⟩⟩
   |ret=>
    obtain rfl:=ie;obtain⟨b,hb⟩:=main bf;exact⟨b,fun N hN=>⟨(hb N hN).1,.inr rfl,(hb N hN).2⟩⟩)
 exact jF.Cp bA bC bo (dF.body (RW:=fun v ai=>GZ (cF P f) es v ai) bO hb hlen (np b (aqK _))) fun v ah h=>h
end Go.Ev
