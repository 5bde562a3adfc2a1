/- Lemmas over the model, without conditions of their own: calls that catch; cells and rows. -/
import Derived.Test.YtggffkaadeagbaaGreatEvO
import Derived.Test.YtggffkaadeagbaaGreatEvP
open Go.Fence renaming wide->ato
open Classical renaming propDecidable->ayq
open Nat renaming le_refl->asR,zero_le->atE,beq->asW,eq_of_beq_eq_true->asV
open Option renaming isSome_some->aw4
open Bool renaming and_self->awG,and_eq_true->asN
open Array renaming any_toList->axi
open Option.some renaming injEq->asP
open List renaming getElem?_eq_some_iff->asM,getElem?_eq_getElem->asL
open Option renaming some->aa,none->ah
open Bool renaming true->ab,false->af
set_option linter.all false
namespace Go.Ev
variable{P:Program}{N:Nat}{σ ao:St}{e:Env}{df:List Df}{ι:Io}{w:World}
def xD(P:Program)(N:Nat)(c:Code)(e:Env)(df:List Df)(σ:St)(CD:Ex->Env->List Df->St->Prop):Prop:=
 ∀F ι a w Q,kM F ah ι->Inv N ι σ w->di ι e a.tmps->ki ι df a.defers->(∀ex e' M7 ao,CD ex e' M7 ao->nU N 0 ι w σ ⟨ex,e',M7,ao⟩ Q)->c.wpIn F 0 P Q a w
variable{CD:Ex->Env->List Df->St->Prop}
theorem xD.Dz{c:Code}{CW:kc}(h:dL P N ah c e df σ CW)(hc:∀ex e' ao,CW ex e' ao->CD ex e' df ao):xD P N c e df σ CD:=
 λF ι a w Q hF hi he hd hQ=>h F ι a w Q hF hi he hd λex e' ao h1=>hQ ex e' df ao (hc _ _ _ h1)
theorem xD.I0{c:Code}{fn:FuncId}{cr:CR}(h:fP P 0 ah fn c e df σ cr)(hn:cr.σ.n<=N)(hc:CD cr.ex cr.e cr.df cr.σ):xD P N c e df σ CD:=
 λ_ _ _ _ _ hF hi he hd hQ=>h.wp hn hF hi he hd (hQ _ _ _ _ hc)
theorem xD.seq{x y:Code}(h:xD P N x e df σ (λex e1 wU aq=>aq.n<=N/\(ex=.normal->xD P N y e1 wU aq CD)/\(ex≠.normal->CD ex e1 wU aq))):xD P N (.seq x y) e df σ CD:=by
 intro F ι a w Q hF hi he hd hQ;refine wpIn_seq (h F ι a w _ hF hi he hd λex e1 wU aq hc=>?_);obtain⟨hn,h1,h2⟩:=hc;intro a1 w1 cq fc i1 l1 dc d1 p1;cases ex with
 |normal=>exact h1 rfl F cq a1 w1 Q (hF.mono l1.ext) i1 dc d1 λex e' M7 ao hc=>(hQ ex e' M7 ao hc).from hi l1 hn
 |exit id=>exact hQ _ _ _ _ (h2 (by simp)) a1 w1 cq fc i1 l1 dc d1 p1
 |goto l=>exact hQ _ _ _ _ (h2 (by simp)) a1 w1 cq fc i1 l1 dc d1 p1
 |ret=>exact hQ _ _ _ _ (h2 (by simp)) a1 w1 cq fc i1 l1 dc d1 p1
 |b_ v=>exact hQ _ _ _ _ (h2 (by simp)) a1 w1 cq fc i1 l1 dc d1 p1
theorem dQ.akQ{f:FuncId}{fn:Func}{c:Code}{args:List IV}{RW:IV->St->Prop}(bV:P.funcs[f]?=aa fn)(hb:fn.body=aa c)(hlen:args.length<=fn.ntmps)
 (h:xD P N c (cO args fn.ntmps) [] σ (λex e1 wU aq=>∃S mi dw v,eF P S/\bF S/\(((ex=.normal\/ex=.ret)/\mi=ah)\/∃u,ex=.b_ u/\mi=aa u)/\gi S 0 wU mi aq=aa (ah,dw)/\dw.n<=N/\bJ P fn e1 dw=aa v/\RW v dw)):dQ P N f args σ RW:=by
 intro ι us w hi hr;refine callsIn_of_wp_marks bV hb trivial ?_;refine h ato ι {tmps:=us.toArray++Array.replicate (fn.ntmps- us.toArray.size) Go.undef,defers:=[]} w _ (.inl ⟨rfl,rfl⟩) hi (yp hr hlen) trivial λex e1 wU aq hc=>?_;obtain⟨S,mi,dw,v,hC,hk,hex,f_,hn,hv,rK⟩:=hc;have dO:aq.n<=N:=Nat.le_trans (kB hk f_) hn;intro a1 w1 cq fc i1 l1 dc d1 p1
 have:∀u,px cq mi u->LeavesInM ato 0 P fn a1.tmps (λed w'=>∃v ao,RW v ao/\w9 N 0 ι w σ v ao ed w') a1.defers u w1:=λu hu=>
  sn hC hk f_ d1 hu i1 hn λw2 pj u2 i2 l2 rF=>by
   rw[show u2=_ from rF];obtain⟨u,k1,k2⟩:=tE hv i2 (dc.mono l2.ext);exact⟨u,k1,v,dw,rK,pj,k2,i2,Le.then hi dO l1 l2⟩
 rcases hex with⟨rfl|rfl,rfl⟩|⟨u,rfl,rfl⟩
 ·exact this _ rfl
 ·exact this _ rfl
 ·obtain⟨x,rfl,hx⟩:=p1;exact this _ ⟨x,rfl,hx⟩
noncomputable def o_(c:Code)(e:Env)(σ:St)(cr:CR):Self:=
 ⟨λro rd _ c' e' M7 ao=> @ite _ (ro=0/\rd=ah/\c'=c/\e'=e/\M7=[]/\ao=σ) (ayq _) (aa cr) ah,λ_ _ _ _=>ah,λ_ _ _ _=>ah,λ_ _ _ _ _=>ah⟩
theorem Xi{c:Code}{cr:CR}(h:∀fn,fP P 0 ah fn c e [] σ cr):(∃m,ir P (o_ c e σ cr) m)/\eF P (o_ c e σ cr)/\bZ (o_ c e σ cr)/\bF (o_ c e σ cr):=by
 obtain⟨hle,m0,hm⟩:=h 0;refine⟨⟨m0,?_⟩,⟨λ_ _ _ _ _ _ _ h=>(by cases h),λ_ _ _ _ _ _ _ h=>(by cases h),λ_ _ _ _ _ _ _ _ h=>(by cases h),λ_ _ _ _ _ _ _ h=>(by cases h)⟩,?_,⟨λ_ _ _ _ _ _ h=>(by cases h),λ_ _ _ _ _ _ h=>(by cases h),λ_ _ _ _ _ _ _ h=>(by cases h)⟩⟩
 ·intro N ro rd fn c' e' M7 ao cr' hc;simp only[o_]at hc;split at hc
  ·rename_i hh;obtain⟨rfl,rfl,rfl,rfl,rfl,rfl⟩:=hh;cases hc;exactλhN F ι a w Q hF hi he hd hQ=>hm m0 (asR _) N hN F ι a w Q hF hi he hd hQ
  ·cases hc
 ·intro ro rd fn c' e' M7 ao cr' hc;simp only[o_]at hc;split at hc
  ·rename_i hh;obtain⟨_,_,_,_,_,rfl⟩:=hh;cases hc;exact hle
  ·cases hc
theorem M8{h:FuncId}{fh:Func}{rz:Nat}{A:Array Oper}{X:Code}{args:List IV}{mo:Option IV}{e1 e2:Env}{v:IV}(bV:P.funcs[h]?=aa fh)(hb:fh.body=aa (.seq (.region rz A af) X))(lK:(fh.name != "runtime.NumGoroutine")=ab)
 (hlen:args.length<=fh.ntmps)(BN:A.any nC=ab)(api:oB P 0 A A.toList (cO args fh.ntmps) mo σ=aa (e1,ah,σ))(hX:∀fn,fP P 0 ah fn X e1 [] σ ⟨.normal,e2,[],ao⟩)
 (hsh:∀S m,y_ P S 0 h X e1 m σ=(match S.code 0 ah h X e1 [] σ with|some r=>aa (r,m)|none=>ah))(eE:bJ P fh e2 ao=aa v):
 ∃S,eF P S/\bF S/\gi S 0 [.call h args] mo σ=aa (ah,ao):=by
 obtain⟨⟨m,hS⟩,hC,hm,hk⟩:=Xi hX;refine⟨lY P (o_ X e1 σ ⟨.normal,e2,[],ao⟩),KE hS hC hm hk,D8 hm hk,?_⟩;have om:(o_ X e1 σ ⟨.normal,e2,[],ao⟩).code 0 ah h X e1 [] σ=aa ⟨.normal,e2,[],ao⟩:=by simp[o_]
 have hd:BF P (o_ X e1 σ ⟨.normal,e2,[],ao⟩) 0 h args mo σ=aa (ah,ao):=by
  unfold BF;rw[bV];simp only[hb,aw4,lK,awG,Bool.not_true,Bool.false_eq_true,if_false];rw[if_neg (by omega)];simp only[y_,BN,Bool.not_false,awG,if_true];rw[show(List.foldl (λ(e:Env) (x:IV×Nat)=>e.put (aa x.snd) x.fst) ⟨fh.ntmps,.lf⟩ args.zipIdx)=cO args fh.ntmps from rfl,api];simp only;rw[hsh,om];simp only[eE]
 simp only[gi,lY,hd]
end Go.Ev
namespace Go.Ev
variable{P:Program}{N:Nat}{σ ao:St}{e:Env}{df:List Df}
structure mH(o:Oper)(op:Op)(dst:Option Nat):Prop where
 op:o.op=op
 dst:o.dst=dst
 guard:o.guard=ah
theorem mH.Gt{o:Oper}{op:Op}{dst:Option Nat}(h:mH o op dst)(ops:Array Oper)(e:Env):aQ o ops e=ab:=by unfold aQ;rw[h.guard]
theorem su.rp{o:Oper}{op:Op}{dst:Option Nat}{ops:Array Oper}{l:List Oper}{v:IV}{aq:St}{cr:CR}(ho:mH o op dst)(hv:av P 0 (ax e) o σ=aa (.val v aq))(h:su P 0 ah ops l (e.put dst v) df aq cr):su P 0 ah ops (o::l) e df σ cr:=by
 refine .val (ho.Gt _ _) hv ?_;rw[ho.dst];exact h
theorem dx.rp{rd:Option Nat}{o:Oper}{op:Op}{dst:Option Nat}{ops:Array Oper}{l:List Oper}{v:IV}{aq:St}{CW:kc}(ho:mH o op dst)(hv:av P 0 (ax e) o σ=aa (.val v aq))(hn:aq.n<=N)(h:dx P N rd ops l (e.put dst v) df aq CW):dx P N rd ops (o::l) e df σ CW:=by
 refine .val (ho.Gt _ _) hv hn ?_;rw[ho.dst];exact h
theorem M9{fn:FuncId}{i:Nat}{A:Array Oper}{l:List Oper}{cr:CR}(hl:A.toList=l)(h:su P 0 ah A l e df σ cr):fP P 0 ah fn (.region i A af) e df σ cr:=.region (by rw[hl];exact h)
theorem QF{t:TypeId}{x:IV}(ha:ra P t=aa af)(hs:aN P t=aa 1):partOf P t [x] 0=aa x:=by simp[partOf,ha,hs]
structure qc(P:Program)(g h:FuncId)(t et T y:TypeId)(f0 f1:Func)(A0 A1 A2 A3 B0 B3 B4 B5 B6 B7:Array Oper)(a0 a1 a2 a3 a4 a5 b0 b3 b4 b5 b6 b7 b8 b9 c0 c1 c2:Oper)(i0 i1 i2 i3 j0 j3 j4 j5 j6 j7:Nat)(Z:Code)(x3:TypeId)(bT:Array Field):Prop where
 fn:P.funcs[g]?=aa f0
 fh:P.funcs[h]?=aa f1
 fb:f0.body=aa (.seq (.region i0 A0 af) (.seq (.region i1 A1 af) (.seq (.region i2 A2 af) (.seq (.region i3 A3 af) .ret))))
 hb:f1.body=aa (.seq (.region j0 B0 af) (.block 0 (.seq (.region j3 B3 af) (.cond (.tmp 6) (.region j4 B4 af) (.seq (.region j5 B5 af) (.cond (.tmp 8) (.seq (.region j6 B6 af) (.region j7 B7 af)) Z))))))
 nt:f0.ntmps=6
 nh:f1.ntmps=12
 name:(f1.name != "runtime.NumGoroutine")=ab
 res:f0.results.toList=[.cell 2 et]
 resh:f1.results.toList=[]
 lA0:A0.toList=[a0]
 lA1:A1.toList=[a1,a2]
 lA2:A2.toList=[a3,a4]
 lA3:A3.toList=[a5]
 lB0:B0.toList=[b0]
 lB3:B3.toList=[b3]
 lB4:B4.toList=[b4]
 lB5:B5.toList=[b5,b6,b7]
 lB6:B6.toList=[b8,b9]
 lB7:B7.toList=[c0,c1,c2]
 oa0:mH a0 (.alloc et) (aa 2)
 oa1:mH a1 (.makeFunc (.func h) #[] #[.tmp 2]) (aa 3)
 oa2:mH a2 (.defer {callee:=.value (.tmp 3),args:= #[],argTypes:= #[]}) ah
 oa3:mH a3 (.move (.tmp 0)) (aa 4)
 oa4:mH a4 (.call {callee:=.value (.tmp 4),args:= #[],argTypes:= #[]}) (aa 5)
 oa5:mH a5 (.store et (.tmp 2) (.const (.int .i64 0))) ah
 ob0:mH b0 (.call {callee:=.builtin .recover,args:= #[],argTypes:= #[]}) (aa 4)
 ob3:mH b3 (.binOp .eql T (.tmp 4) (.const .nilIface) x3) (aa 6)
 ob4:mH b4 (.assign (.tmp 4)) (aa 1)
 ob5:mH b5 (.typeAssert (.tmp 4) y t ab) (aa 7)
 ob6:mH b6 (.extract (.tmp 7) 1) (aa 8)
 ob7:mH b7 (.extract (.tmp 7) 0) (aa 9)
 ob8:mH b8 (.alloc t) (aa 2)
 ob9:mH b9 (.store t (.tmp 2) (.tmp 9)) ah
 oc0:mH c0 (.fieldAddr t (.tmp 2) 0) (aa 10)
 oc1:mH c1 (.load et (.tmp 10)) (aa 11)
 oc2:mH c2 (.store et (.tmp 0) (.tmp 11)) ah
 ze:cy P et=aa (.int .i64 0)
 se:aN P et=aa 1
 ae:ra P et=aa af
 zt:cy P t=aa (.agg #[.int .i64 0])
 st:aN P t=aa 1
 ut:P.underlying t=aa (.struct bT)
 fl:bT[0]?=aa bT[0]! /\bT[0]!.type=et/\bT[0]!.offset=0
 eq0:pP P .eql T (.tmp 4) (.const .nilIface) (.raw .nilIface) (.raw .nilIface)=aa (.bool ab)
 eq1:∀u,pP P .eql T (.tmp 4) (.const .nilIface) (.du t (.agg [.raw u])) (.raw .nilIface)=aa (.bool af)
variable{g h:FuncId}{t et T y:TypeId}{f0 f1:Func}{A0 A1 A2 A3 B0 B3 B4 B5 B6 B7:Array Oper}{a0 a1 a2 a3 a4 a5 b0 b3 b4 b5 b6 b7 b8 b9 c0 c1 c2:Oper}{i0 i1 i2 i3 j0 j3 j4 j5 j6 j7:Nat}{Z:Code}{x3:TypeId}{bT:Array Field}
theorem qc.ahn(H:qc P g h t et T y f0 f1 A0 A1 A2 A3 B0 B3 B4 B5 B6 B7 a0 a1 a2 a3 a4 a5 b0 b3 b4 b5 b6 b7 b8 b9 c0 c1 c2 i0 i1 i2 i3 j0 j3 j4 j5 j6 j7 Z x3 bT)(p:IV)(σ:St):
 ∃S,eF P S/\bF S/\gi S 0 [.call h [p]] ah σ=aa (ah,σ):=by
 have QA:(cO [p] f1.ntmps).n=12:=by rw[(cT (t:=0) (by rw[H.nh];simp)).1,H.nh]
 refine M8 (e1:=(cO [p] f1.ntmps).put (aa 4) (.raw .nilIface)) (e2:=(((cO [p] f1.ntmps).put (aa 4) (.raw .nilIface)).put (aa 6) (.bool ab)).put (aa 1) (.raw .nilIface)) (v:=.az []) H.fh H.hb H.name (by rw[H.nh];simp) ?_ ?_ (λfn=>?_) (λS m=>rfl) ?_
 ·rw[<-axi,H.lB0];simp[nC,H.ob0.op]
 ·rw[H.lB0];have:aQ b0 B0 (cO [p] f1.ntmps)=ab:=H.ob0.Gt _ _;simp[oB,this,nC,H.ob0.op,H.ob0.dst]
 ·refine .Mp (.seq (aq:=σ) (wU:=[]) (M9 H.lB3 (.rp H.ob3 (v:=.bool ab) ?_ .nil)) (.cond (t:=ab) ?_ ?_)) (by simp)
  ·simp only[av,H.ob3.op,ax,lift];rw[dT (by rw[QA];decide),H.eq0];rfl
  ·simp only[ax];rw[dT (by rw[eZ,QA];decide)]
  ·rw[if_pos rfl];refine M9 H.lB4 (.rp H.ob4 (v:=.raw .nilIface) ?_ .nil);simp only[av,H.ob4.op,ax];rw[fI (by decide),dT (by rw[QA];decide)];rfl
 ·simp[bJ,H.resh]
theorem qc.aho(H:qc P g h t et T y f0 f1 A0 A1 A2 A3 B0 B3 B4 B5 B6 B7 a0 a1 a2 a3 a4 a5 b0 b3 b4 b5 b6 b7 b8 b9 c0 c1 c2 i0 i1 i2 i3 j0 j3 j4 j5 j6 j7 Z x3 bT)(id:Nat)(u:Value)(hu:aj (.raw u)=ab)(σ:St)(hid:id<σ.n)(aE:σ.at id=aa (.cells [.int 0] 0 0)):
 ∃S,eF P S/\bF S/\gi S 0 [.call h [.ptr id 0 0 1]] (aa (.du t (.agg [.raw u]))) σ=aa (ah,xM σ id (.raw u)):=by
 have hn:(cO [.ptr id 0 0 1] f1.ntmps).n=12:=by rw[(cT (t:=0) (by rw[H.nh];simp)).1,H.nh]
 have h0:(cO [.ptr id 0 0 1] f1.ntmps).at 0=.ptr id 0 0 1:=by rw[(cT (t:=0) (by rw[H.nh];simp)).2 (by simp)];rfl
 generalize hE:cO [.ptr id 0 0 1] f1.ntmps=E0 at hn h0;obtain⟨e1,mP⟩:∃e1,e1=E0.put (aa 4) (.du t (.agg [.raw u])):=⟨_,rfl⟩;obtain⟨e2,Dn⟩:∃e2,e2=e1.put (aa 6) (.bool af):=⟨_,rfl⟩;obtain⟨e3,Ts⟩:∃e3,e3=e2.put (aa 7) (.az [.agg [.raw u],.bool ab]):=⟨_,rfl⟩;obtain⟨e4,Hd⟩:∃e4,e4=e3.put (aa 8) (.bool ab):=⟨_,rfl⟩;obtain⟨e5,ZC⟩:∃e5,e5=e4.put (aa 9) (.agg [.raw u]):=⟨_,rfl⟩;obtain⟨e6,ZD⟩:∃e6,e6=e5.put (aa 2) (.ptr σ.n 0 0 1):=⟨_,rfl⟩;obtain⟨e7,he7⟩:∃e7,e7=e6.put ah .undef:=⟨_,rfl⟩;obtain⟨e8,he8⟩:∃e8,e8=e7.put (aa 10) (.ptr σ.n 0 0 1):=⟨_,rfl⟩;obtain⟨e9,he9⟩:∃e9,e9=e8.put (aa 11) (.raw u):=⟨_,rfl⟩;have n1:e1.n=12:=by rw[mP,eZ,hn]
 have n2:e2.n=12:=by rw[Dn,eZ,n1]
 have n3:e3.n=12:=by rw[Ts,eZ,n2]
 have n4:e4.n=12:=by rw[Hd,eZ,n3]
 have n5:e5.n=12:=by rw[ZC,eZ,n4]
 have n6:e6.n=12:=by rw[ZD,eZ,n5]
 have n7:e7.n=12:=by rw[he7,eZ,n6]
 have n8:e8.n=12:=by rw[he8,eZ,n7]
 have lL:e1.at 4=.du t (.agg [.raw u]):=by rw[mP,dT (by rw[hn];decide)]
 have eD:e1.at 0=.ptr id 0 0 1:=by rw[mP,fI (by decide),h0]
 have x26:e2.at 6=.bool af:=by rw[Dn,dT (by rw[n1];decide)]
 have M_:e2.at 4=.du t (.agg [.raw u]):=by rw[Dn,fI (by decide),lL]
 have x37:e3.at 7=.az [.agg [.raw u],.bool ab]:=by rw[Ts,dT (by rw[n2];decide)]
 have x47:e4.at 7=.az [.agg [.raw u],.bool ab]:=by rw[Hd,fI (by decide),x37]
 have x58:e5.at 8=.bool ab:=by rw[ZC,fI (by decide),Hd,dT (by rw[n3];decide)]
 have x69:e6.at 9=.agg [.raw u]:=by rw[ZD,fI (by decide),ZC,dT (by rw[n4];decide)]
 have x62:e6.at 2=.ptr σ.n 0 0 1:=by rw[ZD,dT (by rw[n5];decide)]
 have x72:e7.at 2=.ptr σ.n 0 0 1:=by rw[he7];exact x62
 have x8:e8.at 10=.ptr σ.n 0 0 1:=by rw[he8,dT (by rw[n7];decide)]
 have x9:e9.at 11=.raw u:=by rw[he9,dT (by rw[n8];decide)]
 have x90:e9.at 0=.ptr id 0 0 1:=by
  rw[he9,fI (by decide),he8,fI (by decide),he7];show e6.at 0=_;rw[ZD,fI (by decide),ZC,fI (by decide),Hd,fI (by decide),Ts,fI (by decide),Dn,fI (by decide),eD]
 refine M8 (e1:=e1) (e2:=e9.put ah .undef) (v:=.az []) H.fh H.hb H.name (by rw[H.nh];simp) ?_ ?_ (λfn=>?_) (λS m=>rfl) ?_
 ·rw[<-axi,H.lB0];simp[nC,H.ob0.op]
 ·rw[H.lB0,hE];have:aQ b0 B0 E0=ab:=H.ob0.Gt _ _;simp[oB,this,nC,H.ob0.op,H.ob0.dst,mP]
 ·refine .Mp (.seq (e1:=e2) (aq:=σ) (wU:=[]) (M9 H.lB3 (.rp H.ob3 (v:=.bool af) ?_ (by rw[<-Dn];exact .nil))) (.cond (t:=af) (by simp only[ax];exact x26) ?_)) (by simp)
  ·simp only[av,H.ob3.op,ax,lift];rw[lL,H.eq1];rfl
  ·rw[if_neg (by decide)]
   refine .seq (e1:=e5) (aq:=σ) (wU:=[]) (M9 H.lB5 (.rp H.ob5 (v:=.az [.agg [.raw u],.bool ab]) (aq:=σ) ?_ (by
    rw[<-Ts]
    refine .rp H.ob6 (v:=.bool ab) (aq:=σ) ?_ (by
     rw[<-Hd];refine .rp H.ob7 (v:=.agg [.raw u]) (aq:=σ) ?_ (by rw[<-ZC];exact .nil);simp only[av,H.ob7.op,ax,x47];rfl)
    simp only[av,H.ob6.op,ax,x37];rfl))) (.cond (t:=ab) (by simp only[ax];exact x58) ?_)
   ·simp only[av,H.ob5.op,ax,M_,H.ut,H.zt];simp;rfl
   ·rw[if_pos rfl]
    refine .seq (e1:=e7) (aq:=(σ.add (.cells [.int 0] 0 0)).put σ.n (.cells [.raw u] 0 0)) (wU:=[]) (M9 H.lB6 (.rp H.ob8 (v:=.ptr σ.n 0 0 1) (aq:=σ.add (.cells [.int 0] 0 0)) ?_ (by
     rw[<-ZD];refine .rp H.ob9 (v:=.undef) (aq:=(σ.add (.cells [.int 0] 0 0)).put σ.n (.cells [.raw u] 0 0)) ?_ (by rw[<-he7];exact .nil);simp only[av,H.ob9.op,ax,x62,x69,H.st,St.ie,if_true];rw[if_pos ⟨atE _,rfl,asR _,trivial,asR _,by simp[cellsOf,hu]⟩];rfl))) (M9 H.lB7 (.rp H.oc0 (v:=.ptr σ.n 0 0 1) (aq:=(σ.add (.cells [.int 0] 0 0)).put σ.n (.cells [.raw u] 0 0)) ?_ (by
     rw[<-he8]
     refine .rp H.oc1 (v:=.raw u) (aq:=(σ.add (.cells [.int 0] 0 0)).put σ.n (.cells [.raw u] 0 0)) ?_ (by
      rw[<-he9];refine .rp H.oc2 (v:=.undef) (aq:=xM σ id (.raw u)) ?_ .nil;have aW:¬σ.n=id:=by omega
      simp only[av,H.oc2.op,ax,x90,x9,H.se,St.c_,St.ie,aW,if_false,aE];rw[if_pos ⟨atE _,rfl,asR _,trivial,asR _,by simp[cellsOf,hu]⟩];rfl)
     simp only[av,H.oc1.op,ax,x8,H.se,St.c_,if_true];rw[if_pos ⟨asR _,asR _,asR _⟩,QF H.ae H.se];rfl)))
    ·simp only[av,H.ob8.op,H.zt];rfl
    ·simp only[av,H.oc0.op,ax,x72,H.ut,H.fl.1,H.fl.2.1,H.fl.2.2,H.se];rfl
 ·simp[bJ,H.resh]
theorem qc.QG(H:qc P g h t et T y f0 f1 A0 A1 A2 A3 B0 B3 B4 B5 B6 B7 a0 a1 a2 a3 a4 a5 b0 b3 b4 b5 b6 b7 b8 b9 c0 c1 c2 i0 i1 i2 i3 j0 j3 j4 j5 j6 j7 Z x3 bT):Es P g t:=by
 intro N cl f as σ RW PW TD iV hN hX hR hPa;have hn:(cO [cl] f0.ntmps).n=6:=by rw[(cT (t:=0) (by rw[H.nt];simp)).1,H.nt]
 have h0:(cO [cl] f0.ntmps).at 0=cl:=by rw[(cT (t:=0) (by rw[H.nt];simp)).2 (by simp)];rfl
 refine dQ.akQ H.fn H.fb (by rw[H.nt];simp) ?_;generalize hE:cO [cl] f0.ntmps=E0 at hn h0;obtain⟨e1,mP⟩:∃e1,e1=E0.put (aa 2) (.ptr σ.n 0 0 1):=⟨_,rfl⟩;obtain⟨e2,Dn⟩:∃e2,e2=(e1.put (aa 3) (.fn (.func h) [] [.ptr σ.n 0 0 1])).put ah .undef:=⟨_,rfl⟩;obtain⟨e4,Hd⟩:∃e4,e4=e2.put (aa 4) cl:=⟨_,rfl⟩;have n1:e1.n=6:=by rw[mP,eZ,hn]
 have n2:e2.n=6:=by rw[Dn,eZ,eZ,n1]
 have n4:e4.n=6:=by rw[Hd,eZ,n2]
 have jg:e1.at 2=.ptr σ.n 0 0 1:=by rw[mP,dT (by rw[hn];decide)]
 have Na:(e1.put (aa 3) (.fn (.func h) [] [.ptr σ.n 0 0 1])).at 3=.fn (.func h) [] [.ptr σ.n 0 0 1]:=dT (by rw[n1];decide);have Nb:e2.at 2=.ptr σ.n 0 0 1:=by rw[Dn];show(e1.put (aa 3) _).at 2=_;rw[fI (by decide),jg]
 have E_:e2.at 0=cl:=by rw[Dn];show(e1.put (aa 3) _).at 0=_;rw[fI (by decide),mP,fI (by decide),h0]
 have x44:e4.at 4=cl:=by rw[Hd,dT (by rw[n2];decide)]
 have x42:e4.at 2=.ptr σ.n 0 0 1:=by rw[Hd,fI (by decide),Nb]
 have akR:gD P (.fn (.func h) [] [.ptr σ.n 0 0 1]) []=aa (.enter h [.ptr σ.n 0 0 1]):=by
  simp only[gD,H.fh,H.hb,aw4,H.name,awG,if_true];rfl
 refine .seq (.I0 (fn:=0) (cr:=⟨.normal,e1,[],σ.add (.cells [.int 0] 0 0)⟩) (M9 H.lA0 (.rp H.oa0 (v:=.ptr σ.n 0 0 1) ?_ (by rw[<-mP];exact .nil))) hN ⟨hN,λ_=>?_,λh=>absurd rfl h⟩)
 ·simp only[av,H.oa0.op,H.ze];rfl
 refine .seq (.I0 (fn:=0) (cr:=⟨.normal,e2,[.call h [.ptr σ.n 0 0 1]],σ.add (.cells [.int 0] 0 0)⟩) (M9 H.lA1 (.rp (aq:=σ.add (.cells [.int 0] 0 0)) H.oa1 (v:=.fn (.func h) [] [.ptr σ.n 0 0 1]) ?_ ?_)) hN ⟨hN,λ_=>?_,λh=>absurd rfl h⟩)
 ·simp only[av,H.oa1.op];show ret (IV.fn _ [] [ax e1 (.tmp 2)]) _=_;simp only[ax,jg];rfl
 ·refine .defer (d:=.call h [.ptr σ.n 0 0 1]) (H.oa2.Gt _ _) ?_ (by rw[H.oa2.dst,<-Dn];exact .nil);simp only[av,H.oa2.op,ax,Na];show(match gD P _ []with|some (.enter f args)=>aa (eN.Te (.call f args))|_=>ah)=_;rw[akR]
 have leave:∀{ex:Ex} {e5:Env} {mi:Option IV} {dw wi:St} {x:IV},e5.at 2=.ptr σ.n 0 0 1->(((ex=.normal\/ex=.ret)/\mi=ah)\/∃u,ex=.b_ u/\mi=aa u)->
  (∃S,eF P S/\bF S/\gi S 0 [.call h [.ptr σ.n 0 0 1]] mi dw=aa (ah,wi))->wi.n<=N->wi.at σ.n=aa (.cells [x] 0 0)->TD x wi->
  ∃S mi Xj v,eF P S/\bF S/\(((ex=.normal\/ex=.ret)/\mi=ah)\/∃u,ex=.b_ u/\mi=aa u)/\gi S 0 [.call h [.ptr σ.n 0 0 1]] mi dw=aa (ah,Xj)/\Xj.n<=N/\bJ P f0 e5 Xj=aa v/\TD v Xj:=by
  intro ex e5 mi dw wi x h2 hex ⟨S,s1,s2,s3⟩ O5 aE rK;refine⟨S,mi,wi,x,s1,s2,hex,s3,O5,?_,rK⟩;simp only[bJ,H.res,h2,H.se,aE];rw[if_pos ⟨asR _,asR _,asR _⟩,QF H.ae H.se]
 refine .seq (.Dz (CW:=λex e5 dw=>(∃v,ex=.normal/\e5=e4.put (aa 5) v/\RW v dw)\/∃v,ex=.b_ v/\e5=e4/\PW v dw) (.region ?_) ?_)
 ·rw[H.lA2];refine .rp (aq:=σ.add (.cells [.int 0] 0 0)) H.oa3 (v:=cl) ?_ hN ?_
  ·simp only[av,H.oa3.op,ax,E_];rfl
  ·rw[<-Hd];refine .Wc (H.oa4.Gt _ _) (f:=f) (args:=as) ?_ hX (λv dw hv=>⟨(hR v dw hv).2.1,?_⟩) (λv dw hv=>.inr ⟨v,rfl,rfl,hv⟩)
   ·simp only[av,H.oa4.op,ax,x44];exact iV
   ·rw[H.oa4.dst];exact .nil (.inl ⟨v,rfl,rfl,hv⟩)
 ·intro ex e5 dw hc;rcases hc with⟨v,rfl,rfl,hv⟩|⟨v,rfl,rfl,hv⟩
  ·obtain⟨r1,r2,r3⟩:=hR v dw hv;have x52:(e4.put (aa 5) v).at 2=.ptr σ.n 0 0 1:=by rw[fI (by decide),x42]
   refine⟨r2,λ_=>?_,λh=>absurd rfl h⟩;refine .seq (.Dz (CW:=λex e6 wi=>ex=.normal/\e6=(e4.put (aa 5) v).put ah .undef/\wi=dw.put σ.n (.cells [.int 0] 0 0)) (.region ?_) ?_)
   ·rw[H.lA3];refine .rp H.oa5 (v:=.undef) (aq:=dw.put σ.n (.cells [.int 0] 0 0)) ?_ r2 (.nil ⟨rfl,rfl,rfl⟩);simp only[av,H.oa5.op,ax,x52,H.se,r1,lift];rw[if_pos ⟨atE _,rfl,asR _,trivial,asR _,rfl⟩];rfl
   ·rintro ex e6 wi ⟨rfl,rfl,rfl⟩;refine⟨r2,λ_=>.Dz (.ret (CW:=λex e6 wi=>ex=.ret/\e6=(e4.put (aa 5) v).put ah .undef/\wi=dw.put σ.n (.cells [.int 0] 0 0)) ⟨rfl,rfl,rfl⟩) ?_,λh=>absurd rfl h⟩;rintro ex e6 wi ⟨rfl,rfl,rfl⟩;exact leave (by exact x52) (.inl ⟨.inr rfl,rfl⟩) (H.ahn _ _) r2 (by simp) r3
  ·obtain⟨u,rfl,hu,r1,r2,r3,r4⟩:=hPa v dw hv;refine⟨by omega,λh=>absurd h (by simp),λ_=>?_⟩;exact leave x42 (.inr ⟨_,rfl,rfl⟩) (H.aho σ.n u hu dw r3 r1) r2 (by simp[xM]) r4
end Go.Ev
namespace Go.Ev
section run
variable(P:Program)(cfg:a_)
def xE(n:Nat)(nm:Bool)(f:FuncId):ak:=
 match P.funcs[f]? with
 |some fn=>match fn.body with
  |some c=>
   if Nat.ble fn.params.size fn.ntmps&&Nat.blt 0 (cP P f)then
    p4 P 0 fn.params.toList<|exec P cfg n 0 f c ⟨setArgs 0 0 (dC P 0 fn.params.toList),[],fn.params.size,0,fn.ntmps⟩ λex V=>match ex with
     |.exit _=>.fail 141
     |.b_ _ _=>.fail 146
     |_=>match lR P 0 V fn.results.toList with
      |some [.one (.sr k)]=>match V.l[k]? with
       |some (.row s' af _ _ z)=>if !nm&&asW (cP P f) s' then .ret (.rws z)else .fail 146
       |_=>.fail 147
      |some [.one (.nl ab s')]=>if asW (cP P f) s' then .ret (.tr s' .an)else .fail 146
      |_=>.fail 148
   else .fail 143
  |none=>.fail 144
 |none=>.fail 145
end run
variable{P:Program}{N:Nat}{σ ao:St}{R R':Rs}{φ aL:Ph}{E:Nat->Env}{ν:List IV}{cfg:a_}{self:nX}
variable{C:Cr}{Q:IV->Prop}{K:List (List IV->Prop)}{V:SS}{d f0:Nat}{L:List (LO SE)}{Γ:Gm SE}
theorem kb.ZE(fi:P.follows .mixedOrders=ab)(hC:jr P C){n:Nat}{nm:Bool}{f:FuncId}{cK:ak}{args es:List IV}(he:xE P cfg n nm f=cK)(hl:(P.funcs[f]?).map (·.params.size)=aa args.length)(hp:∀x∈args,Pure x)
 (bH:∀e∈es,(cellsOf e).length=cP P f)(bz:∀c∈flat es,(∃v,c=.raw v)/\aj c=ab)(aW:nm=af->es≠[])
 (hs:cK.sat P C (·=.tree (cP P f) es) [] args):kb P (cP P f) f args es:=by
 subst he;unfold xE at hs;split at hs<;>first|(exact hs.elim)|skip
 rename_i fn bV;split at hs<;>first|(exact hs.elim)|skip
 rename_i c hb;split at hs<;>first|(exact hs.elim)|skip
 rename_i hle;simp only[asN]at hle;have Kr:fn.params.size<=fn.ntmps:=by simpa using hle.1
 have bE:0<cP P f:=by simpa using hle.2
 rw[bV]at hl;simp only[Option.map_some,asP]at hl;obtain⟨hs,bg⟩:=wA (R:=λ_=>ah) (φ:=λ_=>ah) (L:=[]) (σ:=⟨0,.lf⟩) hp hs (by simpa using hl);have hlen:args.length<=fn.ntmps:=by omega
 have hJ:J (au P args) (λ_=>ah) (λ_=>ah) (setArgs 0 0 (dC P 0 fn.params.toList)) [] (λ_=>cO args fn.ntmps) ⟨0,.lf⟩:=by
  refine⟨λd t pv hg=>?_,λk ob h=>(by simp at h),λk k' id h=>(by cases h),λk id h=>(by cases h),λid m h=>(by cases h),λid m cs ay mn h=>(by cases h),T.WF.lf,λid _=>rfl⟩;obtain⟨rfl,_,h3⟩:=fK (α:=IV) hg;rw[List.drop_zero]at bg;have ht:t<args.length:=by rw[bg.len];have:=(asM.1 h3).1;simpa using this
  show VR _ _ _ _ _ ((cO args fn.ntmps).at t) pv;rw[(cT hlen).2 ht,asL ht];exact bg.get (asL ht) (by simpa using h3)
 obtain⟨b,om⟩:=vh fi hC n 0 f c ⟨setArgs 0 0 (dC P 0 fn.params.toList),[],fn.params.size,0,fn.ntmps⟩ _ args [] _ _ _ _
  (λN ex e1 aq=>(ex=.normal\/ex=.ret)/\aq.n<=N/\∃v,bJ P fn e1 aq=aa v/\H3 (cP P f) es v aq) ah [] hs hJ hl.symm rfl (cT (t:=0) hlen).1 (by
   intro ex V' μ K' R' aL E' ao x0 hf iP bt
   have main:(match lR P 0 V' fn.results.toList with
    |some [.one (.sr k)]=>match V'.l[k]? with
     |some (.row s' af _ _ z)=>if !nm&&asW (cP P f) s' then ak.ret (.rws z)else .fail 146
     |_=>.fail 147
    |some [.one (.nl ab s')]=>if asW (cP P f) s' then .ret (.tr s' .an)else .fail 146
    |_=>.fail 148).sat P C (·=IV.tree (cP P f) es) K' (args++μ)->∃b,∀N,b<=N->ao.n<=N/\ao.n<=N/\∃v,bJ P fn (E' 0) ao=aa v/\H3 (cP P f) es v ao:=by
    intro dP;split at dP<;>first|(exact dP.elim)|skip
    ·rename_i k hr;obtain⟨vs,h1,h2⟩:=lX hf.hJ hr;split at dP<;>first|(exact dP.elim)|skip
     rename_i s' cut fr z hk;split at dP<;>first|(exact dP.elim)|skip
     rename_i iO;simp only[asN,Bool.not_eq_true']at iO;obtain⟨nb,iO⟩:=iO;have vg:=asV iO;subst vg;obtain⟨z',h5,rfl⟩:=dP;obtain⟨v,rfl,hv⟩:=lr h2;have eE:bJ P fn (E' 0) ao=aa v:=kS h1;obtain⟨s1,fe,c1,c2,c3⟩:=Gs h5;cases c2;obtain⟨m0,Hb,m1,m2,m3⟩:=hf.hJ.obj k _ hk;have JM:z.den P (args++μ)=aa (.tree (cP P f) Hb):=m1;rw[c1]at JM;cases JM;refine⟨ao.n,λN hN=>⟨hN,hN,v,eE,.inr ⟨aW nb,?_⟩⟩⟩;obtain⟨s2,sX,sB,sY,z1,gZ,b1,b2,b3⟩:=hv;rw[hk]at b1;cases b1;have qa:z.den P (args++μ)=aa (.tree (cP P f) gZ):=b2;rw[c1]at qa;cases qa;rcases b3 with⟨_,b4,_⟩|⟨id,cs,ay,mn,cap,d1,d2,d3,d4,d5,d6⟩
     ·exact absurd (List.eq_nil_of_length_eq_zero b4) (aW nb)
     ·rcases m3 with⟨e1,_⟩|⟨bB,cz,iW,pX,e1,e2,e3,e4,e5,e6,e7⟩
      ·rw[d1]at e1;cases e1
      ·rw[d1]at e1;cases e1;rw[d2]at e2;cases e2;refine⟨id,cs,ay,mn,cap,d2,e3,by simpa using d3,e4,λq x hx=>?_⟩
       have hq:q<cs.length:=by
        have:=(asM.1 hx).1;rw[s7 bH]at this;omega
       obtain⟨u,rfl⟩:=(bz x (List.mem_of_getElem? hx)).1;have:=e7 q _ _ (asL hq) hx;exact⟨u,rfl,by rw[asL hq,cb this]⟩
    ·rename_i s' hr;obtain⟨vs,h1,h2⟩:=lX hf.hJ hr;split at dP<;>first|(exact dP.elim)|skip
     rename_i iO;have vg:=asV iO;obtain⟨z',h5,rfl⟩:=dP;obtain⟨v,rfl,hv⟩:=lr h2;have eE:bJ P fn (E' 0) ao=aa v:=kS h1;obtain⟨_,rfl⟩:=hv;simp only[SE.den,Option.bind_some]at h5;split at h5<;>cases h5;exact⟨ao.n,λN hN=>⟨hN,hN,_,eE,.inl ⟨rfl,rfl⟩⟩⟩
   cases ex with
   |exit i=>exact bt.elim
   |b_ t pv=>exact bt.elim
   |normal=>
    obtain rfl:=iP;obtain⟨b,hb⟩:=main bt;exact⟨b,λN hN=>⟨(hb N hN).1,.inl rfl,(hb N hN).2⟩⟩
   |ret=>
    obtain rfl:=iP;obtain⟨b,hb⟩:=main bt;exact⟨b,λN hN=>⟨(hb N hN).1,.inr rfl,(hb N hN).2⟩⟩)
 exact kb.Dz bE bH bz (dQ.body (RW:=λv aq=>H3 (cP P f) es v aq) bV hb hlen (om b (asR _))) λv ao h=>h
end Go.Ev
