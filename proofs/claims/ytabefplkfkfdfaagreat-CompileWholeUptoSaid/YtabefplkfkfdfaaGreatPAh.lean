/- Lemmas over the model, without conditions. -/
import Derived.Test.YtabefplkfkfdfaaGreatPAg
import Derived.Test.YtabefplkfkfdfaaGreatProg
import Derived.KernelRfl
import Derived.Test.YtabefplkfkfdfaaGreatPAf
import Derived.Test.YtabefplkfkfdfaaGreatPAb
import Derived.RowKit3
import Derived.Below
open Array renaming any_toList->aAO
open Nat renaming zero_le->aw5,le_refl->awe,le_trans->awy,mul_le_mul_right->awL,lt_succ_iff_lt_or_eq->az8,add_assoc->ax2,min_eq_left->azg,le_of_lt->aBD,beq->awl,ble->axj,blt_eq->aAa,beq_eq->awV
open List renaming mem_append_left->aw3,mem_append_right->axg,length_flatten->axO,take_succ_eq_append_getElem->awh,map_append->axw,flatten_append->axh,mem_flatten->ays,mem_map->awB,length_append->awi,getElem_mem->awd,mem_append->awm,take_of_length_le->awr,append_assoc->awv,mem_cons->aws,mem_singleton->awo,range->axt,range_succ->aA2,mem_range->axL,mem_cons_of_mem->awI,take_length->ayJ,getElem?_append_left->awp,getElem?_eq_some_iff->awa,getElem?_eq_getElem->av_,getElem?_append_right->awD,cons_append->axk,length_map->aw0,drop_eq_getElem_cons->awH,drop_of_length_le->awY,eq_nil_of_length_eq_zero->awG,length_eq_one_iff->ay6,flatMap_cons->axP,length_cons->awJ,flatMap_append->ayO,length_take->axe,getElem?_eq_none->ayd,getElem?_map->awu,mem_of_getElem?->awq,mem_zipIdx_iff_getElem?->ayP,append_of_mem->azB,nodup_cons->axi,append_nil->aww,map_set->aAo,take_append_drop->axn,map_cons->awZ,set_append_right->ay7,map_nil->ayf,singleton_append->azc,isEmpty_iff->axT,mk_mem_zipIdx_iff_getElem?->axm,findIdx?_eq_some_iff_getElem->azz,findIdx?_eq_none_iff->az1,perm_middle->aAY,pairwise_append->aAp
open Bool renaming and_eq_true->awb,true_and->ax_,not_true->axu,not_false->ayl,and_true->ayH,and_false->ayB,false_and->ax8,false_eq_true->awA
open Option.some renaming injEq->awf,inj->ayh
open Go.IntKind renaming i64->awK,u64->aBc
open Go.Value renaming int->axQ
open Go.Instr renaming sameNow->azm
open Option renaming bind_some->awc
open List.Pairwise renaming map->azy
open List.Perm renaming eq_of_pairwise->aBX
open And renaming intro->aw_
open Option renaming some->aa,none->ah
open Bool renaming true->ab,false->af
set_option linter.all false
namespace Go.Ev
variable{P:Program}{N:Nat}{G au:St}{e:Env}{df:List Df}
structure nS(o:Oper)(op:Op)(dst:Option Nat):Prop where
 op:o.op=op
 dst:o.dst=dst
 guard:o.guard=ah
def nS.Jf{o:Oper}{op:Op}{dst:Option Nat}(h:nS o op dst)(ops:Array Oper)(e:Env):aX o ops e=ab:=by unfold aX;rw[h.guard]
def uw.ti{o:Oper}{op:Op}{dst:Option Nat}{ops:Array Oper}{l:List Oper}{v:IV}{av:St}{cr:CR}(ho:nS o op dst)(hv:aA P 0 (aB e) o G=aa (.val v av))(h:uw P 0 ah ops l (e.put dst v) df av cr):uw P 0 ah ops (o::l) e df G cr:=by
 refine .val (ho.Jf _ _) hv ?_;rw[ho.dst];exact h
def dC.ti{rd:Option Nat}{o:Oper}{op:Op}{dst:Option Nat}{ops:Array Oper}{l:List Oper}{v:IV}{av:St}{CW:kT}(ho:nS o op dst)(hv:aA P 0 (aB e) o G=aa (.val v av))(hn:av.n<=N)(h:dC P N rd ops l (e.put dst v) df av CW):dC P N rd ops (o::l) e df G CW:=by
 refine .val (ho.Jf _ _) hv hn ?_;rw[ho.dst];exact h
def Ek{fn:FuncId}{i:Nat}{A:Array Oper}{l:List Oper}{cr:CR}(hl:A.toList=l)(h:uw P 0 ah A l e df G cr):gx P 0 ah fn (.region i A af) e df G cr:=.region (by rw[hl];exact h)
def Vp{t:TypeId}{x:IV}(ha:sY P t=aa af)(hs:aW P t=aa 1):partOf P t [x] 0=aa x:=by simp[partOf,ha,hs]
structure rN(P:Program)(g h:FuncId)(t et T y:TypeId)(f0 f1:Func)(A0 A1 A2 A3 B0 B3 B4 B5 B6 B7:Array Oper)(a0 a1 a2 a3 a4 a5 b0 b3 b4 b5 b6 b7 b8 b9 c0 c1 c2:Oper)(i0 i1 i2 i3 j0 j3 j4 j5 j6 j7:Nat)(ι:Code)(x3:TypeId)(aO:Array Field):Prop where
 fn:P.funcs[g]?=aa f0
 fh:P.funcs[h]?=aa f1
 fb:f0.body=aa (.seq (.region i0 A0 af) (.seq (.region i1 A1 af) (.seq (.region i2 A2 af) (.seq (.region i3 A3 af) .ret))))
 hb:f1.body=aa (.seq (.region j0 B0 af) (.block 0 (.seq (.region j3 B3 af) (.cond (.tmp 6) (.region j4 B4 af) (.seq (.region j5 B5 af) (.cond (.tmp 8) (.seq (.region j6 B6 af) (.region j7 B7 af)) ι))))))
 nt:f0.ntmps=6
 nh:f1.ntmps=12
 name:(f1.name != "runtime.NumGoroutine")=ab
 res:f0.results.toList=[.cell 2 et]
 resh:f1.results.toList=[]
 lA0:A0.toList=[a0]
 lA1:A1.toList=[a1,a2]
 lA2:A2.toList=[a3,a4]
 lA3:A3.toList=[a5]
 lB0:B0.toList=[b0]
 lB3:B3.toList=[b3]
 lB4:B4.toList=[b4]
 lB5:B5.toList=[b5,b6,b7]
 lB6:B6.toList=[b8,b9]
 lB7:B7.toList=[c0,c1,c2]
 oa0:nS a0 (.alloc et) (aa 2)
 oa1:nS a1 (.makeFunc (.func h) #[] #[.tmp 2]) (aa 3)
 oa2:nS a2 (.defer {callee:=.value (.tmp 3),args:= #[],argTypes:= #[]}) ah
 oa3:nS a3 (.move (.tmp 0)) (aa 4)
 oa4:nS a4 (.call {callee:=.value (.tmp 4),args:= #[],argTypes:= #[]}) (aa 5)
 oa5:nS a5 (.store et (.tmp 2) (.const (.int .i64 0))) ah
 ob0:nS b0 (.call {callee:=.builtin .recover,args:= #[],argTypes:= #[]}) (aa 4)
 ob3:nS b3 (.binOp .eql T (.tmp 4) (.const .nilIface) x3) (aa 6)
 ob4:nS b4 (.assign (.tmp 4)) (aa 1)
 ob5:nS b5 (.typeAssert (.tmp 4) y t ab) (aa 7)
 ob6:nS b6 (.extract (.tmp 7) 1) (aa 8)
 ob7:nS b7 (.extract (.tmp 7) 0) (aa 9)
 ob8:nS b8 (.alloc t) (aa 2)
 ob9:nS b9 (.store t (.tmp 2) (.tmp 9)) ah
 oc0:nS c0 (.fieldAddr t (.tmp 2) 0) (aa 10)
 oc1:nS c1 (.load et (.tmp 10)) (aa 11)
 oc2:nS c2 (.store et (.tmp 0) (.tmp 11)) ah
 ze:cZ P et=aa (.int .i64 0)
 se:aW P et=aa 1
 ae:sY P et=aa af
 zt:cZ P t=aa (.agg #[.int .i64 0])
 st:aW P t=aa 1
 ut:P.underlying t=aa (.struct aO)
 fl:aO[0]?=aa aO[0]! /\aO[0]!.type=et/\aO[0]!.offset=0
 eq0:sZ P .eql T (.tmp 4) (.const .nilIface) (.raw .nilIface) (.raw .nilIface)=aa (.bool ab)
 eq1:∀u,sZ P .eql T (.tmp 4) (.const .nilIface) (.dK t (.agg [.raw u])) (.raw .nilIface)=aa (.bool af)
variable{g h:FuncId}{t et T y:TypeId}{f0 f1:Func}{A0 A1 A2 A3 B0 B3 B4 B5 B6 B7:Array Oper}{a0 a1 a2 a3 a4 a5 b0 b3 b4 b5 b6 b7 b8 b9 c0 c1 c2:Oper}{i0 i1 i2 i3 j0 j3 j4 j5 j6 j7:Nat}{ι:Code}{x3:TypeId}{aO:Array Field}
def rN.al7(H:rN P g h t et T y f0 f1 A0 A1 A2 A3 B0 B3 B4 B5 B6 B7 a0 a1 a2 a3 a4 a5 b0 b3 b4 b5 b6 b7 b8 b9 c0 c1 c2 i0 i1 i2 i3 j0 j3 j4 j5 j6 j7 ι x3 aO)(p:IV)(G:St):
 ∃S,eP P S/\bK S/\gW S 0 [.call h [p]] ah G=aa (ah,G):=by
 have afk:(dX [p] f1.ntmps).n=12:=by rw[(fi (t:=0) (by rw[H.nh];simp)).1,H.nh]
 refine QV (e1:=(dX [p] f1.ntmps).put (aa 4) (.raw .nilIface)) (e2:=(((dX [p] f1.ntmps).put (aa 4) (.raw .nilIface)).put (aa 6) (.bool ab)).put (aa 1) (.raw .nilIface)) (v:=.aF []) H.fh H.hb H.name (by rw[H.nh];simp) ?_ ?_ (λfn=>?_) (λS m=>rfl) ?_
 .rw[<-aAO,H.lB0];simp[oU,H.ob0.op]
 .rw[H.lB0];have:aX b0 B0 (dX [p] f1.ntmps)=ab:=H.ob0.Jf _ _;simp[pL,this,oU,H.ob0.op,H.ob0.dst]
 .refine .P2 (.seq (av:=G) (tB:=[]) (Ek H.lB3 (.ti H.ob3 (v:=.bool ab) ?_ .nil)) (.cond (t:=ab) ?_ ?_)) ay
  .simp only[aA,H.ob3.op,aB,lift];rw[cC (by rw[afk];decide),H.eq0];rfl
  .simp only[aB];rw[cC (by rw[eO,afk];decide)]
  .rw[if_pos rfl];refine Ek H.lB4 (.ti H.ob4 (v:=.raw .nilIface) ?_ .nil);simp only[aA,H.ob4.op,aB];rw[fN (by decide),cC (by rw[afk];decide)];rfl
 .simp[cV,H.resh]
def rN.al8(H:rN P g h t et T y f0 f1 A0 A1 A2 A3 B0 B3 B4 B5 B6 B7 a0 a1 a2 a3 a4 a5 b0 b3 b4 b5 b6 b7 b8 b9 c0 c1 c2 i0 i1 i2 i3 j0 j3 j4 j5 j6 j7 ι x3 aO)(id:Nat)(u:Value)(hu:ao (.raw u)=ab)(G:St)(hid:id<G.n)(aM:G.at id=aa (.cells [.int 0] 0 0)):
 ∃S,eP P S/\bK S/\gW S 0 [.call h [.ptr id 0 0 1]] (aa (.dK t (.agg [.raw u]))) G=aa (ah,Al G id (.raw u)):=by
 have hn:(dX [.ptr id 0 0 1] f1.ntmps).n=12:=by rw[(fi (t:=0) (by rw[H.nh];simp)).1,H.nh]
 have h0:(dX [.ptr id 0 0 1] f1.ntmps).at 0=.ptr id 0 0 1:=by rw[(fi (t:=0) (by rw[H.nh];simp)).2 ay];rfl
 generalize hE:dX [.ptr id 0 0 1] f1.ntmps=E0 at hn h0;obtain⟨e1,kZ⟩:∃e1,e1=E0.put (aa 4) (.dK t (.agg [.raw u])):=⟨_,rfl⟩;obtain⟨e2,BG⟩:∃e2,e2=e1.put (aa 6) (.bool af):=⟨_,rfl⟩;obtain⟨e3,PS⟩:∃e3,e3=e2.put (aa 7) (.aF [.agg [.raw u],.bool ab]):=⟨_,rfl⟩;obtain⟨e4,JW⟩:∃e4,e4=e3.put (aa 8) (.bool ab):=⟨_,rfl⟩;obtain⟨e5,he5⟩:∃e5,e5=e4.put (aa 9) (.agg [.raw u]):=⟨_,rfl⟩;obtain⟨e6,he6⟩:∃e6,e6=e5.put (aa 2) (.ptr G.n 0 0 1):=⟨_,rfl⟩;obtain⟨e7,he7⟩:∃e7,e7=e6.put ah .undef:=⟨_,rfl⟩;obtain⟨e8,he8⟩:∃e8,e8=e7.put (aa 10) (.ptr G.n 0 0 1):=⟨_,rfl⟩;obtain⟨e9,he9⟩:∃e9,e9=e8.put (aa 11) (.raw u):=⟨_,rfl⟩;have n1:e1.n=12:=by rw[kZ,eO,hn]
 have n2:e2.n=12:=by rw[BG,eO,n1]
 have n3:e3.n=12:=by rw[PS,eO,n2]
 have n4:e4.n=12:=by rw[JW,eO,n3]
 have n5:e5.n=12:=by rw[he5,eO,n4]
 have n6:e6.n=12:=by rw[he6,eO,n5]
 have n7:e7.n=12:=by rw[he7,eO,n6]
 have n8:e8.n=12:=by rw[he8,eO,n7]
 have ll:e1.at 4=.dK t (.agg [.raw u]):=by rw[kZ,cC (by rw[hn];decide)]
 have dT:e1.at 0=.ptr id 0 0 1:=by rw[kZ,fN (by decide),h0]
 have x26:e2.at 6=.bool af:=by rw[BG,cC (by rw[n1];decide)]
 have x24:e2.at 4=.dK t (.agg [.raw u]):=by rw[BG,fN (by decide),ll]
 have x37:e3.at 7=.aF [.agg [.raw u],.bool ab]:=by rw[PS,cC (by rw[n2];decide)]
 have x47:e4.at 7=.aF [.agg [.raw u],.bool ab]:=by rw[JW,fN (by decide),x37]
 have x58:e5.at 8=.bool ab:=by rw[he5,fN (by decide),JW,cC (by rw[n3];decide)]
 have x69:e6.at 9=.agg [.raw u]:=by rw[he6,fN (by decide),he5,cC (by rw[n4];decide)]
 have x62:e6.at 2=.ptr G.n 0 0 1:=by rw[he6,cC (by rw[n5];decide)]
 have x72:e7.at 2=.ptr G.n 0 0 1:=by rw[he7];exact x62
 have x8:e8.at 10=.ptr G.n 0 0 1:=by rw[he8,cC (by rw[n7];decide)]
 have x9:e9.at 11=.raw u:=by rw[he9,cC (by rw[n8];decide)]
 have x90:e9.at 0=.ptr id 0 0 1:=by
  rw[he9,fN (by decide),he8,fN (by decide),he7];show e6.at 0=_;rw[he6,fN (by decide),he5,fN (by decide),JW,fN (by decide),PS,fN (by decide),BG,fN (by decide),dT]
 refine QV (e1:=e1) (e2:=e9.put ah .undef) (v:=.aF []) H.fh H.hb H.name (by rw[H.nh];simp) ?_ ?_ (λfn=>?_) (λS m=>rfl) ?_
 .rw[<-aAO,H.lB0];simp[oU,H.ob0.op]
 .rw[H.lB0,hE];have:aX b0 B0 E0=ab:=H.ob0.Jf _ _;simp[pL,this,oU,H.ob0.op,H.ob0.dst,kZ]
 .refine .P2 (.seq (e1:=e2) (av:=G) (tB:=[]) (Ek H.lB3 (.ti H.ob3 (v:=.bool af) ?_ (by rw[<-BG];exact .nil))) (.cond (t:=af) (by simp only[aB];exact x26) ?_)) ay
  .simp only[aA,H.ob3.op,aB,lift];rw[ll,H.eq1];rfl
  .rw[if_neg (by decide)]
   refine .seq (e1:=e5) (av:=G) (tB:=[]) (Ek H.lB5 (.ti H.ob5 (v:=.aF [.agg [.raw u],.bool ab]) (av:=G) ?_ (by
    rw[<-PS]
    refine .ti H.ob6 (v:=.bool ab) (av:=G) ?_ (by
     rw[<-JW];refine .ti H.ob7 (v:=.agg [.raw u]) (av:=G) ?_ (by rw[<-he5];exact .nil);simp only[aA,H.ob7.op,aB,x47];rfl)
    simp only[aA,H.ob6.op,aB,x37];rfl))) (.cond (t:=ab) (by simp only[aB];exact x58) ?_)
   .simp only[aA,H.ob5.op,aB,x24,H.ut,H.zt];simp;rfl
   .rw[if_pos rfl]
    refine .seq (e1:=e7) (av:=(G.add (.cells [.int 0] 0 0)).put G.n (.cells [.raw u] 0 0)) (tB:=[]) (Ek H.lB6 (.ti H.ob8 (v:=.ptr G.n 0 0 1) (av:=G.add (.cells [.int 0] 0 0)) ?_ (by
     rw[<-he6];refine .ti H.ob9 (v:=.undef) (av:=(G.add (.cells [.int 0] 0 0)).put G.n (.cells [.raw u] 0 0)) ?_ (by rw[<-he7];exact .nil);simp only[aA,H.ob9.op,aB,x62,x69,H.st,St.iO,if_true];rw[if_pos ⟨aw5 _,rfl,awe _,trivial,awe _,by simp[cellsOf,hu]⟩];rfl))) (Ek H.lB7 (.ti H.oc0 (v:=.ptr G.n 0 0 1) (av:=(G.add (.cells [.int 0] 0 0)).put G.n (.cells [.raw u] 0 0)) ?_ (by
     rw[<-he8]
     refine .ti H.oc1 (v:=.raw u) (av:=(G.add (.cells [.int 0] 0 0)).put G.n (.cells [.raw u] 0 0)) ?_ (by
      rw[<-he9];refine .ti H.oc2 (v:=.undef) (av:=Al G id (.raw u)) ?_ .nil;have bg:¬G.n=id:=aj;simp only[aA,H.oc2.op,aB,x90,x9,H.se,St.cW,St.iO,bg,if_false,aM];rw[if_pos ⟨aw5 _,rfl,awe _,trivial,awe _,by simp[cellsOf,hu]⟩];rfl)
     simp only[aA,H.oc1.op,aB,x8,H.se,St.cW,if_true];rw[if_pos ⟨awe _,awe _,awe _⟩,Vp H.ae H.se];rfl)))
    .simp only[aA,H.ob8.op,H.zt];rfl
    .simp only[aA,H.oc0.op,aB,x72,H.ut,H.fl.1,H.fl.2.1,H.fl.2.2,H.se];rfl
 .simp[cV,H.resh]
def rN.UB(H:rN P g h t et T y f0 f1 A0 A1 A2 A3 B0 B3 B4 B5 B6 B7 a0 a1 a2 a3 a4 a5 b0 b3 b4 b5 b6 b7 b8 b9 c0 c1 c2 i0 i1 i2 i3 j0 j3 j4 j5 j6 j7 ι x3 aO):He P g t:=by
 intro N cl f as_ G RW PW Xb kg hN hX hR hPa;have hn:(dX [cl] f0.ntmps).n=6:=by rw[(fi (t:=0) (by rw[H.nt];simp)).1,H.nt]
 have h0:(dX [cl] f0.ntmps).at 0=cl:=by rw[(fi (t:=0) (by rw[H.nt];simp)).2 ay];rfl
 refine eY.aqq H.fn H.fb (by rw[H.nt];simp) ?_;generalize hE:dX [cl] f0.ntmps=E0 at hn h0;obtain⟨e1,kZ⟩:∃e1,e1=E0.put (aa 2) (.ptr G.n 0 0 1):=⟨_,rfl⟩;obtain⟨e2,BG⟩:∃e2,e2=(e1.put (aa 3) (.fn (.func h) [] [.ptr G.n 0 0 1])).put ah .undef:=⟨_,rfl⟩;obtain⟨e4,JW⟩:∃e4,e4=e2.put (aa 4) cl:=⟨_,rfl⟩;have n1:e1.n=6:=by rw[kZ,eO,hn]
 have n2:e2.n=6:=by rw[BG,eO,eO,n1]
 have n4:e4.n=6:=by rw[JW,eO,n2]
 have lq:e1.at 2=.ptr G.n 0 0 1:=by rw[kZ,cC (by rw[hn];decide)]
 have JX:(e1.put (aa 3) (.fn (.func h) [] [.ptr G.n 0 0 1])).at 3=.fn (.func h) [] [.ptr G.n 0 0 1]:=cC (by rw[n1];decide);have JY:e2.at 2=.ptr G.n 0 0 1:=by rw[BG];show(e1.put (aa 3) _).at 2=_;rw[fN (by decide),lq]
 have zx:e2.at 0=cl:=by rw[BG];show(e1.put (aa 3) _).at 0=_;rw[fN (by decide),kZ,fN (by decide),h0]
 have x44:e4.at 4=cl:=by rw[JW,cC (by rw[n2];decide)]
 have x42:e4.at 2=.ptr G.n 0 0 1:=by rw[JW,fN (by decide),JY]
 have aqr:gV P (.fn (.func h) [] [.ptr G.n 0 0 1]) []=aa (.enter h [.ptr G.n 0 0 1]):=by
  simp only[gV,H.fh,H.hb,Option.isSome_some,H.name,Bool.and_self,if_true];rfl
 refine .al6 (fn:=0) (e1:=e1) (tB:=[]) (av:=G.add (.cells [.int 0] 0 0)) (Ek H.lA0 (.ti H.oa0 (v:=.ptr G.n 0 0 1) ?_ (by rw[<-kZ];exact .nil))) hN ?_
 .simp only[aA,H.oa0.op,H.ze];rfl
 refine .al6 (fn:=0) (e1:=e2) (tB:=[.call h [.ptr G.n 0 0 1]]) (av:=G.add (.cells [.int 0] 0 0)) (Ek H.lA1 (.ti (av:=G.add (.cells [.int 0] 0 0)) H.oa1 (v:=.fn (.func h) [] [.ptr G.n 0 0 1]) ?_ ?_)) hN ?_
 .simp only[aA,H.oa1.op];show ret (IV.fn _ [] [aB e1 (.tmp 2)]) _=_;simp only[aB,lq];rfl
 .refine .defer (d:=.call h [.ptr G.n 0 0 1]) (H.oa2.Jf _ _) ?_ (by rw[H.oa2.dst,<-BG];exact .nil);simp only[aA,H.oa2.op,aB,JX];show(match gV P _ []with|some (.enter f args)=>aa (gv.WG (.call f args))|_=>ah)=_;rw[aqr]
 have leave:∀{ex:Ex} {e5:Env} {mi:Option IV} {cK lS:St} {x:IV},e5.at 2=.ptr G.n 0 0 1->(((ex=.normal\/ex=.ret)/\mi=ah)\/∃u,ex=.cd u/\mi=aa u)->
  (∃S,eP P S/\bK S/\gW S 0 [.call h [.ptr G.n 0 0 1]] mi cK=aa (ah,lS))->lS.n<=N->lS.at G.n=aa (.cells [x] 0 0)->Xb x lS->
  ∃S mi aap v,eP P S/\bK S/\(((ex=.normal\/ex=.ret)/\mi=ah)\/∃u,ex=.cd u/\mi=aa u)/\gW S 0 [.call h [.ptr G.n 0 0 1]] mi cK=aa (ah,aap)/\aap.n<=N/\cV P f0 e5 aap=aa v/\Xb v aap:=by
  intro ex e5 mi cK lS x h2 hex ⟨S,s1,s2,s3⟩ G6 aM vC;refine⟨S,mi,lS,x,s1,s2,hex,s3,G6,?_,vC⟩;simp only[cV,H.res,h2,H.se,aM];rw[if_pos ⟨awe _,awe _,awe _⟩,Vp H.ae H.se]
 refine .ofD (.seq (.S3 (CW:=λex e5 cK=>(∃v,ex=.normal/\e5=e4.put (aa 5) v/\RW v cK)\/∃v,ex=.cd v/\e5=e4/\PW v cK) (.region ?_) ?_))
 .rw[H.lA2];refine .ti (av:=G.add (.cells [.int 0] 0 0)) H.oa3 (v:=cl) ?_ hN ?_
  .simp only[aA,H.oa3.op,aB,zx];rfl
  .rw[<-JW];refine .Y9 (H.oa4.Jf _ _) (f:=f) (args:=as_) ?_ hX (λv cK hv=>⟨(hR v cK hv).2.1,?_⟩) (λv cK hv=>.inr ⟨v,rfl,rfl,hv⟩)
   .simp only[aA,H.oa4.op,aB,x44];exact kg
   .rw[H.oa4.dst];exact .nil (.inl ⟨v,rfl,rfl,hv⟩)
 .intro ex e5 cK hc;rcases hc with⟨v,rfl,rfl,hv⟩|⟨v,rfl,rfl,hv⟩
  .obtain⟨r1,r2,r3⟩:=hR v cK hv;have x52:(e4.put (aa 5) v).at 2=.ptr G.n 0 0 1:=by rw[fN (by decide),x42]
   refine⟨r2,λ_=>?_,λh=>absurd rfl h⟩;refine .seq (.S3 (CW:=λex e6 lS=>ex=.normal/\e6=(e4.put (aa 5) v).put ah .undef/\lS=cK.put G.n (.cells [.int 0] 0 0)) (.region ?_) ?_)
   .rw[H.lA3];refine .ti H.oa5 (v:=.undef) (av:=cK.put G.n (.cells [.int 0] 0 0)) ?_ r2 (.nil ⟨rfl,rfl,rfl⟩);simp only[aA,H.oa5.op,aB,x52,H.se,r1,lift];rw[if_pos ⟨aw5 _,rfl,awe _,trivial,awe _,rfl⟩];rfl
   .rintro ex e6 lS ⟨rfl,rfl,rfl⟩;refine⟨r2,λ_=>.S3 (.ret (CW:=λex e6 lS=>ex=.ret/\e6=(e4.put (aa 5) v).put ah .undef/\lS=cK.put G.n (.cells [.int 0] 0 0)) ⟨rfl,rfl,rfl⟩) ?_,λh=>absurd rfl h⟩;rintro ex e6 lS ⟨rfl,rfl,rfl⟩;exact leave (by exact x52) (.inl ⟨.inr rfl,rfl⟩) (H.al7 _ _) r2 ay r3
  .obtain⟨u,rfl,hu,r1,r2,r3,r4⟩:=hPa v cK hv;refine⟨by omega,λh=>absurd h ay,λ_=>?_⟩;exact leave x42 (.inr ⟨_,rfl,rfl⟩) (H.al8 G.n u hu cK r3 r1) r2 (by simp[Al]) r4
end Go.Ev
namespace Go.Proofs.YtabefplkfkfdfaaGreat
open Go Go.Ev
def al9:(λu:Value=>sZ Tryz.prog .eql 20 (.tmp 4) (.const .nilIface) (.dK 221 (.agg [.raw u])) (.raw .nilIface))=λ_=>aa (.bool af):=by kernel_rfl
def aqs(u:Value):sZ Tryz.prog .eql 20 (.tmp 4) (.const .nilIface) (.dK 221 (.agg [.raw u])) (.raw .nilIface)=aa (.bool af):=congrFun al9 u
def afl:He Tryz.prog 151 221:=by
 apply rN.UB (P:=Tryz.prog) (g:=151) (h:=190) (t:=221) (et:=38) (f0:=Tryz.f151) (f1:=Tryz.f190);constructor
 case fn=>exact Tryz.func151
 case fh=>exact Tryz.func190
 case fb=>exact rfl
 case hb=>exact rfl
 case nt=>exact rfl
 case nh=>exact rfl
 case name=>decide
 case res=>exact rfl
 case resh=>exact rfl
 case lA0=>exact rfl
 case lA1=>exact rfl
 case lA2=>exact rfl
 case lA3=>exact rfl
 case lB0=>exact rfl
 case lB3=>exact rfl
 case lB4=>exact rfl
 case lB5=>exact rfl
 case lB6=>exact rfl
 case lB7=>exact rfl
 case oa0=>exact⟨rfl,rfl,rfl⟩
 case oa1=>exact⟨rfl,rfl,rfl⟩
 case oa2=>exact⟨rfl,rfl,rfl⟩
 case oa3=>exact⟨rfl,rfl,rfl⟩
 case oa4=>exact⟨rfl,rfl,rfl⟩
 case oa5=>exact⟨rfl,rfl,rfl⟩
 case ob0=>exact⟨rfl,rfl,rfl⟩
 case ob3=>exact⟨rfl,rfl,rfl⟩
 case ob4=>exact⟨rfl,rfl,rfl⟩
 case ob5=>exact⟨rfl,rfl,rfl⟩
 case ob6=>exact⟨rfl,rfl,rfl⟩
 case ob7=>exact⟨rfl,rfl,rfl⟩
 case ob8=>exact⟨rfl,rfl,rfl⟩
 case ob9=>exact⟨rfl,rfl,rfl⟩
 case oc0=>exact⟨rfl,rfl,rfl⟩
 case oc1=>exact⟨rfl,rfl,rfl⟩
 case oc2=>exact⟨rfl,rfl,rfl⟩
 case ze=>kernel_rfl
 case se=>kernel_rfl
 case ae=>kernel_rfl
 case zt=>kernel_rfl
 case st=>kernel_rfl
 case ut=>exact Tryz.underlying221
 case fl=>exact⟨rfl,rfl,rfl⟩
 case eq0=>kernel_rfl
 case eq1=>exact aqs
section
abbrev aR(r:Rl):IV:=.agg [iS r.name,c_ r.aw,c_ r.az,gK r.aG,gK r.bc,iI r.vars]
section
variable{k0 k1 k2 k3 k4 k5 k6 k7 k8 k9 k10 M3 U5:List IV->Prop}{x2 x3 x4 x5 x6 x7 x8 x9 dT fD lq je ll wR og rO Bj rP zx GI JY JX x24 x25 x26:IV}
structure pz(ds:List De)(r:Rl):Prop where
 d:Sm ds
 s:oa r
 n:qP r
 f:lY r
theorem pz.aw{ds:List De}{r:Rl}(h:pz ds r):r.aw.length<=3/\∀a∈r.aw,pZ a/\Dv a:=
 ⟨by have:=h.s.h;omega,λa ha=>⟨h.n.hs a (aw3 _ ha),λt ht=>(h.f.hs a (aw3 _ ha) t ht).2⟩⟩
theorem pz.az{ds:List De}{r:Rl}(h:pz ds r):r.az.length<=3/\∀a∈r.az,pZ a/\Dv a:=
 ⟨by have:=h.s.h;omega,λa ha=>⟨h.n.hs a (axg _ ha),λt ht=>(h.f.hs a (axg _ ha) t ht).2⟩⟩
theorem pz.aG{ds:List De}{r:Rl}(h:pz ds r):r.aG.length<=6/\∀a∈r.aG,qO a/\Dw a:=
 ⟨h.s.g,λa ha=>⟨h.n.gs a (aw3 _ ha),λt ht=>((h.f.gs a (aw3 _ ha)).2 t ht).2⟩⟩
theorem pz.bc{ds:List De}{r:Rl}(h:pz ds r):r.bc.length<=6/\∀a∈r.bc,qO a/\Dw a:=
 ⟨h.s.b,λa ha=>⟨h.n.gs a (axg _ ha),λt ht=>((h.f.gs a (axg _ ha)).2 t ht).2⟩⟩
def al_{l:List At}{n:Nat}(hl:l.length<=n)(h:∀a∈l,pZ a/\Dv a):(j_ l).length<=n*1048577:=
 awy (K_ λa ha=>Ve (h a ha).2) (awL _ hl)
def afm{l:List Gl}{n:Nat}(hl:l.length<=n)(h:∀a∈l,qO a/\Dw a):(lJ l).length<=n*1048577:=
 awy (K_ λa ha=>Ve (h a ha).2) (awL _ hl)
def X_{ds:List De}{r:Rl}(h:pz ds r):(dS [r.aw,r.az]).length<=100000000/\CC 1419 ab [Vk [r.aw,r.az]] (iL (dS [r.aw,r.az])):=by
 have h1:=al_ h.aw.1 h.aw.2;have h2:=al_ h.az.1 h.az.2;have hl:(dS [r.aw,r.az]).length<=100000000:=by simp[dS, -axO];omega
 refine⟨hl,aqo ab _ ay (λl hl=>?_) aj⟩;simp at hl;rcases hl with rfl|rfl
 .exact⟨by have:=h.aw.1;unfold Sm;omega,h.aw.2⟩
 .exact⟨by have:=h.az.1;unfold Sm;omega,h.az.2⟩
def aiU{ds:List De}{r:Rl}(h:pz ds r):(du [r.aG]).length<=100000000/\CC 1420 ab [QU [r.aG]] (iL (du [r.aG])):=by
 have h1:=afm h.aG.1 h.aG.2;have hl:(du [r.aG]).length<=100000000:=by simp[du, -axO];omega
 refine⟨hl,ahj ab _ ay (λl hl=>?_) aj⟩;simp at hl;rcases hl with rfl;exact⟨by have:=h.aG.1;unfold Sm;omega,h.aG.2⟩
def aiV{ds:List De}{r:Rl}(h:pz ds r):(du [r.aG,r.bc]).length<=100000000/\CC 1420 ab [QU [r.aG,r.bc]] (iL (du [r.aG,r.bc])):=by
 have h1:=afm h.aG.1 h.aG.2;have h2:=afm h.bc.1 h.bc.2;have hl:(du [r.aG,r.bc]).length<=100000000:=by simp[du, -axO];omega
 refine⟨hl,ahj ab _ ay (λl hl=>?_) aj⟩;simp at hl;rcases hl with rfl|rfl
 .exact⟨by have:=h.aG.1;unfold Sm;omega,h.aG.2⟩
 .exact⟨by have:=h.bc.1;unfold Sm;omega,h.bc.2⟩
def ahp(new:Bool)(z:IV):CC 1069 new [iI 221] z:=by
 have h:=wP.UB (new:=new) (z:=z) (n:=Tryz.prog.funcs.size) (f:=151) (t:=221) (by rw[jO];decide) afl;rw[jO]at h;unfold CC;rw[jO];exact h
end
end
def fz(l:List At):List Tm:=(l.map At.ts).flatten
def nj(l:List Gl):List Tm:=(l.map Gl.ts).flatten
def F_{l:List At}{i:Nat}(h:i<l.length):fz (l.take (i+1))=fz (l.take i)++l[i].ts:=by
 unfold fz;rw[awh h,axw,axh];simp
def aaq{l:List Gl}{i:Nat}(h:i<l.length):nj (l.take (i+1))=nj (l.take i)++l[i].ts:=by
 unfold nj;rw[awh h,axw,axh];simp
def CK{l:List At}{t:Tm}:t∈fz l↔∃a∈l,t∈a.ts:=by
 simp only[fz,ays,awB];exact⟨λ⟨_,⟨a,h1,h2⟩,h3⟩=>⟨a,h1,h2▸h3⟩,λ⟨a,h1,h2⟩=>⟨_,⟨a,h1,rfl⟩,h2⟩⟩
def QW{l:List Gl}{t:Tm}:t∈nj l↔∃a∈l,t∈a.ts:=by
 simp only[nj,ays,awB];exact⟨λ⟨_,⟨a,h1,h2⟩,h3⟩=>⟨a,h1,h2▸h3⟩,λ⟨a,h1,h2⟩=>⟨_,⟨a,h1,rfl⟩,h2⟩⟩
def np{ts:List Tm}(h:∀t∈ts,dM t):Vr (varsOf ts):=by
 show Vr (Bg (eA ts));rw[<-Bh];exact Vr.nil.db (aal h)
def v203(r:Rl)(h:oa r)(hf:lY r):CC 144 af [cU r] (iL (varsOf (fz (r.aw++r.az)))):=by
 refine CC.CI ap5 kr (λ_=>kr) (by simpa using jn r) (by rfl) ?_;have uO:=aag r (by have:=h.h;omega);have hl:=h.h;have h1:=h.hs;have h2:=hf.hs;rw[<-awi]at hl;rw[cu]at uO⊢;generalize r.aw++r.az=hs at uO hl h1 h2⊢;simp[acE,SE.den,ao];refine⟨_,uO,?_⟩;simp;unfold UT;refine aC hs.length (λi (a:List Tm)=>[iI i,iT a]) (λi a=>a=fz (hs.take i)/\a.length<=8*i/\∀t∈a,WF t) [] ?_ (by simp[fz]) λi a hi hI=>?_
 .simp[SE.den]
 obtain⟨El,fQ,jd⟩:=hI;by_cases ak:i<hs.length
 .have hw:=aI ak aj;have hm:=awd ak;have hk:=h1 _ hm;have hc:=RV (a:=a) (b:=hs[i].ts) aj;simp[SE.den,ak,hw,py ak,ao,hc]
  exact .mk (a++hs[i].ts) ay aj ⟨by rw[F_ ak,El],by simp;omega,λt ht=>by
   rcases awm.1 ht with ht|ht
   .exact jd t ht
   .exact h2 _ hm t ht⟩
 .rw[awr aj]at El;have hb:=ahg a (by unfold Sm;omega) jd;simp[SE.den,ak,ao];rw[El]at hb⊢;exact⟨_,hb,by simp⟩
def pA(r:Rl):List Tm:=fz (r.aw++r.az)++nj (r.aG++r.bc)
def atY(r:Rl)(h:oa r)(hf:lY r):CC 77 af [cU r] (iL (varsOf (pA r))):=by
 refine CC.CI apY kr (λ_=>kr) (by simpa using jn r) (by rfl) ?_;have uO:=aag r (by have:=h.h;omega);have Bl:=afc r (by have:=h.g;have:=h.b;omega);have hl:=h.h;have M8:r.aG.length+r.bc.length<=12:=by have:=h.g;have:=h.b;omega
 have h1:=h.hs;have h2:=hf.hs;have g1:=h.gs;have g2:=hf.gs;unfold pA;rw[<-awi]at hl M8;rw[cu]at uO Bl⊢;generalize r.aw++r.az=hs at uO hl h1 h2⊢;generalize r.aG++r.bc=gs at Bl M8 g1 g2⊢;simp[acz,SE.den,ao];refine⟨_,uO,?_⟩;simp;unfold UK;refine aC hs.length (λi (a:List Tm)=>[iI i,iT a]) (λi a=>a=fz (hs.take i)/\a.length<=8*i/\∀t∈a,WF t) [] ?_ (by simp[fz]) λi a hi hI=>?_
 .simp[SE.den]
 obtain⟨El,fQ,jd⟩:=hI;by_cases ak:i<hs.length
 .have hw:=aI ak aj;have hm:=awd ak;have hk:=h1 _ hm;have hc:=RV (a:=a) (b:=hs[i].ts) aj;simp[SE.den,ak,hw,py ak,ao,hc]
  exact .mk (a++hs[i].ts) ay aj ⟨by rw[F_ ak,El],by simp;omega,λt ht=>by
   rcases awm.1 ht with ht|ht
   .exact jd t ht
   .exact h2 _ hm t ht⟩
 .rw[awr aj]at El;simp[SE.den,ak,ao];refine⟨_,Bl,?_⟩;simp;unfold UJ;refine aC gs.length (λi (a:List Tm)=>[iI i,iT a]) (λi a=>a=fz hs++nj (gs.take i)/\a.length<=24+8*i/\∀t∈a,WF t) a ?_ ⟨by simp[nj,El],by omega,jd⟩ λj a hj hJ=>?_
  .simp[SE.den]
  obtain⟨mh,bH,fg⟩:=hJ;by_cases ak:j<gs.length
  .have hw:=aI ak aj;have hm:=awd ak;have hk:=g1 _ hm;have hc:=RV (a:=a) (b:=gs[j].ts) aj;simp[SE.den,ak,hw,xq ak,ao,hc]
   exact .mk (a++gs[j].ts) ay aj ⟨by rw[aaq ak,mh,awv],by simp;omega,λt ht=>by
    rcases awm.1 ht with ht|ht
    .exact fg t ht
    .exact(g2 _ hm).2 t ht⟩
  .rw[awr aj]at mh;have hb:=ahg a (by unfold Sm;omega) fg;simp[SE.den,ak,ao];rw[mh]at hb⊢;exact⟨_,hb,by simp⟩
structure M9(ds:List De)(r:Rl):Prop where
 h:∀a∈r.aw++r.az,ju ds a.s a.ts.length=ab
 c:Vh ds (r.aG++r.bc)
 g:∀g∈r.aG,uM g.op=ab\/g.op=1
 b:∀g∈r.bc,uM g.op=af
 v:∀g∈r.aG,∀v∈varsOf g.ts,v∈varsOf (fz (r.aw++r.az))
def v154(ds:List De)(hd:Sm ds)(r:Rl)(h:oa r)(hf:lY r):∃n,(n=0->M9 ds r)/\CC 78 af [fY ds,cU r] (iI n):=by
 refine CC.HX _ ap1 kr (λ_=>kr) (by intro x hx;rcases aws.1 hx with rfl|hx;exact KY _;obtain rfl:=awo.1 hx;exact jn r) (by rfl) ?_;have Vq:=v203 r h hf
 have aar:Vr (varsOf (fz (r.aw++r.az))):=np λt ht=>by
  obtain⟨a,ha,ht⟩:=CK.1 ht;exact(hf.hs a ha t ht).2
 have ama:=aar.len;have uO:=aag r (by have:=h.h;omega);have Bl:=afc r (by have:=h.g;have:=h.b;omega);have hl:=h.h;have M8:r.aG.length+r.bc.length<=12:=by have:=h.g;have:=h.b;omega
 have hg:=h.g;have hb:=h.b;have g2:=hf.gs;have g1:=h.gs;have hM:=λa b c d e=>(⟨a,b,c,d,e⟩:M9 ds r);generalize M9 ds r=M at hM⊢;rw[<-awi]at hl M8;rw[cu]at uO Bl Vq⊢;generalize hV:varsOf (fz (r.aw++r.az))=Vs at Vq aar ama hM;generalize r.aw++r.az=hs at uO hl hM;obtain⟨atZ,amb,amc⟩:=v201 ds (r.aG++r.bc) hd (by unfold Sm;omega);generalize hgs:r.aG++r.bc=gs at Bl M8 amc amb hM;obtain⟨rn,rk,rr,rg,rb,rv⟩:=r;simp only at*
 simp[acA,SE.den,ao];refine⟨_,uO,?_⟩;simp;unfold UQ;refine aC hs.length (λi (_:Unit)=>[iI i]) (λi _=>∀a∈hs.take i,ju ds a.s a.ts.length=ab) () ?_ ay λi _ hi hI=>?_
 .simp[SE.den]
 by_cases ak:i<hs.length
 .have hw:=aI ak aj;obtain⟨b,hz,hb⟩:=alT ds hs[i].s hs[i].ts.length hd;simp[SE.den,ak,hw,py ak,ao,K4];refine⟨_,hb,?_⟩;simp[K4];by_cases h0:b=0
  .right;exact⟨h0,.mk () rfl aj (cI ak hI (hz.1 h0))⟩
  .left;exact⟨h0,by simp[h0]⟩
 have hA:=dq ak hI;simp[SE.den,ak,ao,K4];refine⟨_,Bl,?_⟩;simp;refine⟨_,amc,?_⟩;simp[K4];by_cases h0:atZ=0
 rotate_left
 .left;exact⟨h0,by simp[h0]⟩
 right;refine⟨h0,?_⟩;have hB:=amb.1 h0;unfold UP;refine aC rg.length (λi (_:Unit)=>[iI i]) (λi _=>∀g∈rg.take i,uM g.op=ab\/g.op=1) () ?_ ay λi3 _ hi3 sS=>?_
 .simp[SE.den]
 by_cases G8:i3<rg.length
 .have hw:=aI G8 aj;have hb:=alU rg[i3].op;have hs3:=λh=>cI (p:=λg:Gl=>uM g.op=ab\/g.op=1) G8 sS h;simp[SE.den,G8,hw,xq G8,ao];refine⟨_,hb,?_⟩;cases hq:uM rg[i3].op<;>simp
  .by_cases h0:rg[i3].op=1
   .exact .inr ⟨h0,.mk () rfl aj (hs3 (.inr h0))⟩
   .exact .inl h0
  .exact .mk () rfl aj (hs3 (.inl hq))
 have hC:=dq G8 sS;simp[SE.den,G8,ao];unfold UO;refine aC rb.length (λi (_:Unit)=>[iI i]) (λi _=>∀g∈rb.take i,uM g.op=af) () ?_ ay λi2 _ P0 jd=>?_
 .simp[SE.den]
 by_cases dY:i2<rb.length
 .have hw:=aI dY aj;have hb:=alU rb[i2].op;simp[SE.den,dY,hw,xq dY,ao];refine⟨_,hb,?_⟩;cases hq:uM rb[i2].op<;>simp
  .exact .mk () rfl aj (cI dY jd hq)
 have hD:=dq dY jd;simp[SE.den,dY,ao];refine⟨_,Vq,?_⟩;simp;unfold UN;refine aC rg.length (λi (_:Unit)=>[iI i]) (λi _=>∀g∈rg.take i,∀v∈varsOf g.ts,v∈Vs) () ?_ ay λi1 _ W0 fQ=>?_
 .simp[SE.den]
 by_cases qZ:i1<rg.length
 .have hw1:=aI qZ aj;have hm:rg[i1]∈gs:=hgs▸aw3 _ (awd qZ);have hff:=g2 _ (by simpa[hgs]using hm);have hb:=v93 rg[i1] (by have:=g1 _ (by simpa[hgs]using hm);unfold Sm;omega) hff.2;have QX:=(np λt ht=>(hff.2 t ht).2).len;simp[SE.den,qZ,xq qZ,ao];refine⟨_,hb,?_⟩;simp;unfold UM;generalize hl:varsOf rg[i1].ts=l at*
  refine aC l.length (λi (_:Unit)=>[iI i]) (λi _=>∀v∈l.take i,v∈Vs) () ?_ ay λj _ hj hJ=>?_
  .simp[SE.den]
  by_cases ak:j<l.length
  .have hw:=aI ak aj;have hb:=atQ Vs l[j] (by unfold Sm;omega);simp[SE.den,ak,hw,lI ak,ao];refine⟨_,hb,?_⟩;by_cases hq:l[j]∈Vs
   .simp[hq];exact .mk () rfl aj (cI ak hJ hq)
   .simp[hq]
  .have hE:=dq ak hJ;simp[SE.den,ak,hw1];exact .mk () rfl aj (cI (p:=λg:Gl=>∀v∈varsOf g.ts,v∈Vs) qZ fQ (by rw[hl];exact hE))
 .simp[SE.den,qZ];exact hM hA hB hC hD (dq qZ fQ)
def okV(ts:List Tm)(n:Int):Prop:=(∀(i:Nat) (h:i<(varsOf ts).length),(varsOf ts)[i]=(i:Int))/\n=((varsOf ts).length:Int)
structure zy(ds:List De)(r:Rl):Prop where
 ne:r.aw++r.az≠[]
 hs:∀a∈r.aw++r.az,lk a=ab
 gs:∀g∈r.aG++r.bc,fx g=ab
 v:okV (pA r) r.vars
 n:r.name=[]\/iE r.name=ab
 m:M9 ds r
def Bm{a:At}(h:lk a=ab):∀t∈a.ts,dM t:=by
 simp only[lk,awb]at h;exact Vf h.2
def xr{a:Gl}(h:fx a=ab):(a.op≠0->jB a.op=a.ts.length)/\∀t∈a.ts,dM t:=by
 unfold fx at h;split at h
 .rename_i h0;exact⟨λh1=>absurd h0 h1,Bm (a:=⟨a.s,a.ts⟩) h⟩
 .simp only[awb]at h;exact⟨λ_=>of_decide_eq_true h.1.2,Vf h.2⟩
structure H3(r:Rl):Prop where
 hs:∀a∈r.aw++r.az,cQ a.ts<=1000000000000
 gs:∀a∈r.aG++r.bc,cQ a.ts<=1000000000000
def pZ.b{a:At}(h:pZ a)(hz:cQ a.ts<=1000000000000):QB a.ts:=⟨h.2.1,h.2.2,hz⟩
def qO.b{a:Gl}(h:qO a)(hz:cQ a.ts<=1000000000000):QB a.ts:=⟨h.2.1,h.2.2,hz⟩
theorem lY.len{r:Rl}(h:lY r):(varsOf (pA r)).length<=1048577:=by
 refine(np λt ht=>?_).len;rcases awm.1 ht with ht|ht
 .obtain⟨a,ha,ht⟩:=CK.1 ht;exact(h.hs a ha t ht).2
 .obtain⟨a,ha,ht⟩:=QW.1 ht;exact((h.gs a ha).2 t ht).2
def v90(ds:List De)(hd:Sm ds)(r:Rl)(h:oa r)(hn:qP r)(hz:H3 r):∃n,(n=0->zy ds r)/\CC 28 af [fY ds,cU r] (iI n):=by
 refine CC.HX _ ati kr (λ_=>kr) (by intro x hx;rcases aws.1 hx with rfl|hx;exact KY _;obtain rfl:=awo.1 hx;exact jn r) (by rfl) ?_;have uO:=aag r (by have:=h.h;omega);have Bl:=afc r (by have:=h.g;have:=h.b;omega);have hl:=h.h;have M8:r.aG.length+r.bc.length<=12:=by have:=h.g;have:=h.b;omega
 have hg:=h.g;have hb:=h.b;have n1:=hn.hs;have n2:=hn.gs;have z1:=hz.hs;have z2:=hz.gs;have afn:=hn.for;rw[<-awi]at hl M8;have Vt:=atY r h;have Ga:=v154 ds hd r h;have h89:=v89 r.name hn.n;have zg:lY r->(varsOf (pA r)).length<=1048577:=λh=>h.len;have hO:=λa b c d e f=>(⟨a,b,c,d,e,f⟩:zy ds r);generalize zy ds r=ν at hO⊢;generalize M9 ds r=M at Ga hO;generalize pA r=ar at Vt hO zg;unfold okV at hO;rw[cu]at uO Bl Vt Ga⊢;generalize Vj:r.aw++r.az=hs at uO hl n1 afn z1 hO;generalize hgs:r.aG++r.bc=gs at Bl M8 n2 afn z2 hO;obtain⟨rn,rk,rr,rg,rb,rv⟩:=r;simp only at*
 simp[ag0,SE.den,ao];refine⟨_,uO,?_⟩;simp;refine⟨_,Bl,?_⟩;simp;by_cases z0:hs=[]
 .exact .inl z0
 right;refine⟨z0,?_⟩;right;refine⟨by omega,?_⟩;right;refine⟨by omega,?_⟩;right;refine⟨by omega,?_⟩;unfold XS;refine aC hs.length (λi (_:Unit)=>[iI i]) (λi _=>∀a∈hs.take i,lk a=ab) () ?_ ay λi _ hi hI=>?_
 .simp[SE.den]
 by_cases ak:i<hs.length
 .have hw:=aI ak aj;have hm:=awd ak;have hb:=v49 hs[i] (n1 _ hm).1 ((n1 _ hm).b (z1 _ hm));simp[SE.den,ak,hw,py ak,ao];refine⟨_,hb,?_⟩;cases hq:lk hs[i]<;>simp;exact .mk () rfl aj (cI ak hI hq)
 have hA:=dq ak hI;simp[SE.den,ak,ao];unfold XQ;refine aC gs.length (λi (_:Unit)=>[iI i]) (λi _=>∀a∈gs.take i,fx a=ab) () ?_ ay λi1 _ W0 fQ=>?_
 .simp[SE.den]
 by_cases qZ:i1<gs.length
 .have hw:=aI qZ aj;have hm:=awd qZ;have hb:=v152 gs[i1] (n2 _ hm).1 ((n2 _ hm).b (z2 _ hm));simp[SE.den,qZ,hw,xq qZ,ao];refine⟨_,hb,?_⟩;cases hq:fx gs[i1]<;>simp;exact .mk () rfl aj (cI qZ fQ hq)
 have hB:=dq qZ fQ;have hF:lY ⟨rn,rk,rr,rg,rb,rv⟩:=afn (λa ha=>Bm (hA a ha)) (λa ha=>xr (hB a ha));have Vt:=Vt hF;obtain⟨kr,amd,Ga⟩:=Ga hF;have zg:=zg hF;generalize varsOf ar=v at*
 simp[SE.den,qZ,ao];refine⟨_,Vt,?_⟩;simp;unfold XP;refine aC v.length (λi (_:Unit)=>[iI i]) (λi _=>∀(j:Nat) (h:j<v.length),j<i->v[j]=(j:Int)) () ?_ (λ_ _ h=>absurd h aj) λi0 _ G9 El=>?_
 .simp[SE.den]
 by_cases vE:i0<v.length
 .have hw:=aI vE aj;simp[SE.den,vE,hw,lI vE,ao];by_cases he:v[i0]=i0
  .right;exact⟨he,.mk () rfl aj λj hj M_=>by
    rcases az8.1 M_ with M_|rfl
    .exact El j hj M_
    .exact he⟩
  .exact .inl he
 have hC:∀(j:Nat) (h:j<v.length),v[j]=(j:Int):=λj hj=>El j hj aj;simp[SE.den,vE,ao];by_cases hv:rv=v.length
 rotate_left
 .exact .inl hv
 right;refine⟨hv,?_⟩;by_cases eN:rn=[]
 .right;refine⟨eN,_,Ga,?_⟩;simp;exactλe=>hO z0 hA hB ⟨hC,hv⟩ (.inl eN) (amd e)
 .left;refine⟨eN,_,h89,?_⟩;cases hq:iE rn<;>simp;refine⟨_,Ga,?_⟩;simp;exactλe=>hO z0 hA hB ⟨hC,hv⟩ (.inr hq) (amd e)
structure Em(p:Pg):Prop where
 d:∀d∈p.bN,iE d.s=ab/\0<=d.n/\d.n<=6
 u:∀(i:Nat) (h:i<p.bN.length),ju (p.bN.take i) p.bN[i].s p.bN[i].n=af
 r:∀r∈p.aV,zy p.bN r
def v34(p:Pg)(h:oe p)(hz:∀r∈p.aV,H3 r):∃a n,(n=0->Em p)/\CC 9 af [bn p] (.aF [iI a,iI n]):=by
 refine CC.alw _ atf kr t34 (by simpa using dN p) (by rfl) ?_;have hO:=λa b c=>(⟨a,b,c⟩:Em p);generalize Em p=ν at hO⊢;obtain⟨ds,rs⟩:=p;obtain⟨hd,hr,dn,qQ,LM⟩:=h;simp only at*
 show aad.sat _ _ _ _ [.agg [fY ds,mw rs]];simp[aad,SE.den,ao];right;refine⟨by omega,?_⟩;unfold XN;refine aC ds.length (λi (_:Unit)=>[iI i]) (λi _=>(∀d∈ds.take i,iE d.s=ab/\0<=d.n/\d.n<=6)/\∀(j:Nat) (h:j<ds.length),j<i->ju (ds.take j) ds[j].s ds[j].n=af) () ?_ ⟨by simp,λ_ _ h=>absurd h aj⟩ λi _ hi hI=>?_
 .simp[SE.den]
 by_cases ak:i<ds.length
 .have hw:=aI ak aj;have hm:=awd ak;have h1:=v89 ds[i].s (dn _ hm);have h2:=atP (ds.take i) ds[i].s ds[i].n (by unfold Sm;simp;omega);have iG:=aqg (L:=ds) (l:=i) aj;simp[SE.den,ak,hw,OF ak,ao];refine⟨_,h1,?_⟩;cases b1:iE ds[i].s<;>simp;by_cases z1:ds[i].n<0
  .exact .inl z1
  right;refine⟨by omega,?_⟩;by_cases z2:6<ds[i].n
  .exact .inl z2
  right;refine⟨by omega,?_⟩;refine⟨_,iG,_,h2,?_⟩;simp;cases b2:ju (ds.take i) ds[i].s ds[i].n<;>simp
  .exact .mk () rfl aj ⟨cI ak hI.1 ⟨b1,by omega,by omega⟩,λj hj M_=>by
    rcases az8.1 M_ with M_|rfl
    .exact hI.2 j hj M_
    .exact b2⟩
 have hA:=dq ak hI.1;simp[SE.den,ak,ao];right;refine⟨by omega,?_⟩;unfold XM;refine aC rs.length (λi (_:Unit)=>[iI i]) (λi _=>∀r∈rs.take i,zy ds r) () ?_ ay λi0 _ G9 El=>?_
 .simp[SE.den]
 by_cases vE:i0<rs.length
 .have hw:=aI vE aj;have hm:=awd vE;obtain⟨n,hF,hb⟩:=v90 ds (by unfold Sm;omega) rs[i0] (qQ _ hm) (LM _ hm) (hz _ hm);rw[cu]at hb;simp[SE.den,vE,hw,y9 vE,ao];refine⟨_,hb,?_⟩;simp[K4];by_cases z:n=0
  .right;exact⟨z,.mk () rfl aj (cI vE El (hF z))⟩
  .left;exact⟨z,by simp[z]⟩
 .simp[SE.den,vE];exact hO hA (λj hj=>hI.2 j hj aj) (dq vE El)
def Na(a:Int):List Int->Option Int
 |[]=>aa a
 |v::l=>if v<=a then Na (if v=a then a+1 else a) l else ah
def aas(u:List Int):Prop:=∀(i:Nat) (h:i<u.length),u[i]=(i:Int)
def jx(n:Nat):List Int:=(axt n).map λ(i:Nat)=>(i:Int)
def oQ(n:Nat):(jx n).length=n:=by simp[jx]
def afo(n:Nat):jx (n+1)=jx n++[(n:Int)]:=by simp[jx,aA2]
def qe{n:Nat}{v:Int}:v∈jx n↔0<=v/\v<n:=by
 simp only[jx,awB,axL];exact⟨λ⟨i,h1,h2⟩=>by omega,λ⟨h1,h2⟩=>⟨v.toNat,by omega,by omega⟩⟩
def ac5(n:Nat):aas (jx n):=λi h=>by simp[jx]
theorem Vu:∀(w l:List Int),∃t,db l w=l++t
 |[],l=>⟨[],by simp[db]⟩
 |v::w,l=>by
  obtain⟨t,h⟩:=Vu w (th l v);show∃t,db (th l v) w=l++t;rw[h];unfold th;split
  .exact⟨t,rfl⟩
  .exact⟨[v]++t,by simp⟩
theorem OT:∀(w:List Int) (a:Nat) (n:Int),(∀v∈w,0<=v)->(Na a w=aa n↔aas (db (jx a) w)/\n=((db (jx a) w).length:Int))
 |[],a,n,_=>by
  have:db (jx a) []=jx a:=rfl;rw[this,oQ];simp only[Na,awf];exact⟨λh=>⟨ac5 a,h.symm⟩,λh=>h.2.symm⟩
 |v::w,a,n,h=>by
  have h0:=h v ay;have hw:=λu hu=>h u (awI _ hu);show _↔aas (db (th (jx a) v) w)/\n=((db (th (jx a) v) w).length:Int);unfold Na th;by_cases h1:v<a
  .rw[if_pos aj,if_neg aj,if_pos (qe.2 ⟨h0,h1⟩)];exact OT w a n hw
  .rw[if_neg (λhm=>h1 (qe.1 hm).2)];by_cases h2:v=a
   .subst h2;rw[if_pos aj,if_pos rfl,<-afo];exact OT w (a+1) n hw
   .rw[if_neg aj];obtain⟨t,ht⟩:=Vu w (jx a++[v]);refine⟨λh=>(by cases h),λ⟨hr,_⟩=>?_⟩;rw[ht]at hr;have:=hr a (by simp[oQ]);simp[oQ,List.getElem_append]at this;exact absurd this h2
theorem rQ{v:Int}:∀(w l:List Int),v∈db l w↔v∈l\/v∈w
 |[],l=>by simp[db]
 |x::w,l=>by
  show v∈db (th l x) w↔_;rw[rQ w];unfold th;split
  .rename_i hx;simp only[aws];exact⟨λh=>h.elim .inl λh=>.inr (.inr h),λh=>h.elim .inl λh=>h.elim (λe=>.inl (e▸hx)) .inr⟩
  .simp only[awm,aws,List.not_mem_nil,or_false,or_assoc]
def H4(l xs:List Int)(x:Int):db l (xs++[x])=th (db l xs) x:=by simp[db,List.foldl_append]
def Ya(l xs:List Int):db l (Bg xs)=db l xs:=by
 have key:∀n,db l (Bg (xs.take n))=db l (xs.take n):=λn=>by
  induction n with
  |zero=>rfl
  |succ n ih=>
   by_cases hn:n<xs.length
   .rw[awh hn];generalize xs.take n=ys at ih;generalize xs[n]=x;rw[<-Bh,H4,H4,Bh];have hm:x∈Bg ys↔x∈ys:=by rw[<-Bh,rQ];simp
    unfold th;by_cases hx:x∈ys
    .rw[if_pos (hm.2 hx),if_pos ((rQ _ _).2 (.inr hx)),ih]
    .rw[if_neg (λh=>hx (hm.1 h)),H4,ih];rfl
   .rw[awr aj]at ih⊢;exact ih
 have:=key xs.length;rwa[ayJ]at this
def ac6(m:List Int):∀l:List At,db m (j_ l)=db m (eA (fz l)):=λl=>by
 induction l generalizing m with
 |nil=>rfl
 |cons a l ih=>
  have h1:j_ (a::l)=varsOf a.ts++j_ l:=by simp[j_]
  have h2:eA (fz (a::l))=eA a.ts++eA (fz l):=by simp[fz,eA]
  rw[h1,h2,nR,nR,ih];show db (db m (Bg (eA a.ts))) _=_;rw[Ya]
def ame(m:List Int):∀l:List Gl,db m (lJ l)=db m (eA (nj l)):=λl=>by
 induction l generalizing m with
 |nil=>rfl
 |cons a l ih=>
  have h1:lJ (a::l)=varsOf a.ts++lJ l:=by simp[lJ]
  have h2:eA (nj (a::l))=eA a.ts++eA (nj l):=by simp[nj,eA]
  rw[h1,h2,nR,nR,ih];show db (db m (Bg (eA a.ts))) _=_;rw[Ya]
def lZ(a b:List Tm):eA (a++b)=eA a++eA b:=by simp[eA]
def H5(a b:List At):fz (a++b)=fz a++fz b:=by simp[fz]
def Vv(a b:List Gl):nj (a++b)=nj a++nj b:=by simp[nj]
def QY(r:Rl):db [] (dS [r.aw,r.az]++du [r.aG,r.bc])=varsOf (pA r):=by
 have e1:dS [r.aw,r.az]=j_ r.aw++j_ r.az:=by simp[dS]
 have e2:du [r.aG,r.bc]=lJ r.aG++lJ r.bc:=by simp[du]
 show _=db [] (eA (pA r));rw[e1,e2,pA,lZ,H5,Vv,lZ,lZ];simp only[nR,ac6,ame]
def aiW{r:Rl}{n:Int}(h:∀v∈dS [r.aw,r.az]++du [r.aG,r.bc],0<=v):okV (pA r) n↔Na 0 (dS [r.aw,r.az]++du [r.aG,r.bc])=aa n:=by
 have:=OT _ 0 n h;have e:jx 0=[]:=rfl;rw[e,QY]at this;exact this.symm
def jf{v:Int}{ts:List Tm}:v∈varsOf ts↔v∈eA ts:=by
 show v∈Bg (eA ts)↔_;rw[<-Bh,rQ];simp
def QZ{v:Int}(l:List At):v∈j_ l↔v∈eA (fz l):=by
 have:=rQ (v:=v) (j_ l) [];rw[ac6,rQ]at this;simpa using this.symm
def ac7(r:Rl)(v:Int):v∈dS [r.aw,r.az]↔v∈varsOf (fz (r.aw++r.az)):=by
 have e1:dS [r.aw,r.az]=j_ r.aw++j_ r.az:=by simp[dS]
 rw[e1,awm,QZ,QZ,jf,H5,lZ,awm]
def ac8(r:Rl)(p:Int->Prop):(∀v∈du [r.aG],p v)↔∀g∈r.aG,∀v∈varsOf g.ts,p v:=by
 have e1:du [r.aG]=lJ r.aG:=by simp[du]
 rw[e1];simp only[lJ,ays,awB];exact⟨λh g hg v hv=>h v ⟨_,⟨g,hg,rfl⟩,hv⟩,λh v ⟨_,⟨g,hg,e⟩,hv⟩=>h g hg v (e▸hv)⟩
def WB{r:Rl}(h1:∀a∈r.aw++r.az,∀t∈a.ts,dM t)(h2:∀a∈r.aG++r.bc,∀t∈a.ts,dM t):∀v∈dS [r.aw,r.az]++du [r.aG,r.bc],0<=v:=λv hv=>by
 have hv:v∈db [] (dS [r.aw,r.az]++du [r.aG,r.bc]):=(rQ _ _).2 (.inr hv);rw[QY]at hv;refine((np λt ht=>?_).2 v hv).1;rcases awm.1 ht with ht|ht
 .obtain⟨a,ha,ht⟩:=CK.1 ht;exact h1 a ha t ht
 .obtain⟨a,ha,ht⟩:=QW.1 ht;exact h2 a ha t ht
section
def v47(ds:List De)(s:List UInt8)(n:Int)(hl:Sm ds):CC 233 af [fY ds,iS s,iI n] (iB (ju ds s n)):=by
 refine CC.eF atK kr (λ_=>kr) ay (by rfl) ?_;simp[ahe,X5,SE.den,ao];refine aC ds.length (λi (_:Unit)=>[iI i]) (λi _=>∀d∈ds.take i,d.s=s->¬d.n=n) () ?_ ay λi _ hi hI=>?_
 .simp[SE.den]
 by_cases ak:i<ds.length
 .have hw:=aI ak hl;simp[SE.den,ak,hw,OF ak,ao,acP];by_cases h1:s=ds[i].s/\n=ds[i].n
  .left;exact⟨h1,H0 (awd ak) ⟨h1.1.symm,h1.2.symm⟩⟩
  .right;exact⟨λh=>λh'=>h1 ⟨h,h'⟩,.mk () rfl aj (cI (p:=λd:De=>d.s=s->¬d.n=n) ak hI λh h'=>h1 ⟨h.symm,h'.symm⟩)⟩
 .simp[SE.den,ak];exact F5 (dq ak hI)
def v143(n:Int):CC 199 af [iI n] (iB (uM n)):=by
 refine CC.eF aqk kr (λ_=>kr) ay (by rfl) ?_;simp[acU,SE.den,uM];omega
def wS{O I:List IV}{i:Nat}{z:IV}(h:O[i]?=aa z):(O++I)[i]?=aa z:=by
 rw[awp (awa.1 h).1,h]
def Eo{l:List IV}{i:Nat}{z:IV}(h:i<l.length)(e:l[i]?=aa z):l[i]=z:=by
 rw[av_ h]at e;exact ayh e
def nq{O l:List IV}{k:Nat}:(O++l)[O.length+k]?=l[k]? :=by
 rw[awD aj,Nat.add_sub_cancel_left]
def apK{K:List (List IV->Prop)}{k k1:List IV->Prop}{i:Nat}(h:K[i]?=aa k):(K++[k1])[i]?=aa k:=by
 rw[awp (awa.1 h).1,h]
def sU{O l:List IV}:(O++l)[O.length]?=l[0]? :=nq (k:=0)
section
variable{Q:IV->Prop}{k0 k1 k2 k3 k4 k5 k6 k7 k8 k9 k10:List IV->Prop}
def tK{K0:List (List IV->Prop)}{O:List IV}{S φ:SE}{q n d:Nat}{B K:aq}(L:List IV)(μ:Nat->List IV->Prop)(w0:List IV)(hn:O.length=n)(hX:jL Tryz.prog O φ=aa w0)(h0:μ 0 w0)
 (hS:∀I,S.den Tryz.prog (O++I)=aa (.tree q L))(hq:∀z∈L,(cellsOf z).length=q/\∃cs,z=.agg cs/\cs.length=q/\∀x∈cs,ao x=ab)(hd:∀j w,μ j w->n+1+w.length=d)
 (hB:∀j w (h:j<L.length),μ j w->B.sat Tryz.prog CC Q (K0++[Be L.length (λj w=>iI j::w) μ j]) (O++(iI j::w++[L[j]])))
 (hK:∀w k,μ L.length w->K.sat Tryz.prog CC Q (K0++[k]) (O++(iI L.length::w))):(JV S q n φ d B K).sat Tryz.prog CC Q K0 O:=by
 subst hn;unfold JV;refine aC L.length (λj w=>iI j::w) μ w0 (by simp[SE.den,hX]) h0 λj w hj hI=>?_;have e1:=hS (iI j::w);have e2:(SE.var O.length).den Tryz.prog (O++iI j::w)=aa (iI j):=by simp[SE.den]
 have hdj:=hd j w hI;by_cases ak:j<L.length
 .obtain⟨g1,cs,g2,g3,g4⟩:=hq _ (awd ak);have e3:cq q (.tree q L) (iI j)=aa L[j]:=cP (av_ ak) g1
  have e4:(SE.var d).den Tryz.prog (O++(iI j::w++[L[j]]))=aa (.agg cs):=by
   rw[SE.den,<-hdj,ax2,nq,Nat.add_comm,axk,List.getElem?_cons_succ,awD aj];simp[g2]
  have hy:=hB j w ak hI;simp[SE.den,e1,e2,e3,ak]at e4⊢;simp[e4,g3];exact⟨g4,by simpa using hy⟩
 .have:j=L.length:=aj;subst this;simp[SE.den,e1,e2];exact hK w _ hI
def aat{ds:List De}(hd:Sm ds){s:List UInt8}{ts:List Tm}(hb:ju ds s ts.length=ab){q m i k j:Nat}{Y:SE}{O:List IV}{A:IV}{K0:List (List IV->Prop)}{k':List IV->Prop}{w:List IV}(hm:O.length=m)(h0:O[0]?=aa (fY ds))(hi:O[i]?=aa (iI j))(hj:j<1000)
 (hA:A=.agg [iS s,iT ts]/\q=0\/∃op:Int,A=.agg [iI op,iS s,iT ts]/\q=1)(kj:K0.length=k+1)(hk:K0[k]?=aa k')(hY:∀I,jL Tryz.prog (O++I) Y=aa w)(zh:k' (iI (j+1:Nat)::w)):(dF q m i k Y).sat Tryz.prog CC Q K0 (O++[A]):=by
 subst hm;have kh:=aI hj aj;have h47:=v47 ds s ts.length hd;rw[hb]at h47;have a0:=λI=>wS (I:=I) h0;have ai:=λI=>wS (I:=I) hi;have g0:=λI (h:0<(O++I).length)=>Eo h (a0 I);have gi:=λI (h:i<(O++I).length)=>Eo h (ai I);have lR:=λk1=>apK (k1:=k1) hk;have eL:fY ds=.tree 2 (ds.map xp):=rfl;refine tK (ds.map xp) (λj w=>w=[]/\∀d∈ds.take j,¬d.s=s) [] ay (by simp[SE.den]) ay (λI=>by simp[SE.den,a0,eL]) (by simp[xp,ao];exactλ_ _=>rfl) (by rintro j w ⟨rfl,_⟩;rfl) ?_ ?_
 .rintro j _ ak ⟨rfl,hI⟩;rw[aw0]at ak;have hw:=aI ak hd;have wQ:∀x,(K0++[x])[k+1]?=aa x:=λx=>by rw[<-kj];simp
  rcases hA with⟨rfl,rfl⟩|⟨op,rfl,rfl⟩
  all_goals
   simp[SE.den,nq,sU,a0,ai,g0,gi,ao,aN,xp,hY,lR,wQ,kh,hw];by_cases h1:ds[j].s=s
   .refine .inl ⟨h1,_,h47,?_⟩;simp;exact zh
   .exact .inr ⟨h1,.mk [] rfl ak ⟨rfl,cI (p:=λd:De=>¬d.s=s) ak hI h1⟩⟩
 .rintro w k ⟨rfl,hI⟩;rw[F5 λd hd h=>absurd h (dq ay hI d hd)]at hb;cases hb
structure En(O:List IV)(ds:List De)(r:Rl):Prop where
 d:O[0]?=aa (fY ds)
 r:O[1]?=aa (aR r)
def En.ap{O:List IV}{ds:List De}{r:Rl}(h:En O ds r)(I:List IV):En (O++I) ds r:=⟨wS h.d,wS h.r⟩
def afp{O:List IV}(l u:List Int)(hl:Sm l)(hu:Sm u)(hR:∀v∈u,v∈l):(ahk O.length).sat Tryz.prog CC (wo (·=0)) [k0,k1,k2,k3,k4,k5,k6,k7,k8,k9,k10] (O++[iL l,iL u]):=by
 refine aC u.length (λj (_:Unit)=>[iL l,iI j]) (λ_ _=>True) () ?_ trivial λj _ hj _=>?_
 .simp[SE.den,nq,sU]
 by_cases ak:j<u.length
 .have hw:=aI ak hu;have amf:=R0 l u[j] hl;rw[show l.contains u[j]=ab by simpa using hR _ (awd ak)]at amf;simp[SE.den,nq,sU,ak,hw,lI ak,ao,aN,cellsOf];exact⟨_,amf,by simpa[aN]using .mk () rfl aj trivial⟩
 .simp[SE.den,nq,sU,ak]
section
variable{ds:List De}{r:Rl}{O:List IV}
def afq(e:En O ds r)(h:pz ds r)(o:zy ds r):(ahl O.length).sat Tryz.prog CC (wo (·=0)) [k0,k1,k2,k3,k4,k5,k6,k7,k8,k9] O:=by
 have hl:=h.bc.1;have a1:=λI=>wS (I:=I) e.r;have g1:=λI (h:1<(O++I).length)=>Eo h (a1 I);refine tK (r.bc.map lH) (λ_ w=>w=[]) [] rfl (by simp[SE.den]) rfl (λI=>by simp[SE.den,a1,g1]) (by simp[lH,ao];exactλ_ _=>rfl) (by rintro j _ rfl;rfl) ?_ ?_
 .rintro j _ ak rfl;rw[aw0]at ak;have hw:=aI ak aj;have aau:=v143 r.bc[j].op;rw[o.m.b _ (awd ak)]at aau;simp[SE.den,nq,sU,a1,g1,ao,aN,lH,hw];refine⟨_,aau,?_⟩;simp[aN];exact .mk [] rfl ak rfl
 .rintro _ k rfl;obtain⟨g2,g3⟩:=X_ h;obtain⟨g4,g5⟩:=aiU h;have hR:∀v∈du [r.aG],v∈dS [r.aw,r.az]:=(ac8 r _).2 λg hg v hv=>(ac7 r v).2 (o.m.v g hg v hv);generalize dS [r.aw,r.az]=u at*
  generalize du [r.aG]=v at*
  have hy:=afp (O:=O++[iI r.bc.length]) (k0:=k0) (k1:=k1) (k2:=k2) (k3:=k3) (k4:=k4) (k5:=k5) (k6:=k6) (k7:=k7) (k8:=k8) (k9:=k9) (k10:=k) u v (by unfold Sm;omega) (by unfold Sm;omega) hR;simp[SE.den,nq,sU,a1,g1,ao,cellsOf];exact⟨_,g3,_,g5,⟨_,rfl⟩,by simpa[nq,sU]using hy⟩
def afr(e:En O ds r)(h:pz ds r)(o:zy ds r):(aan O.length).sat Tryz.prog CC (wo (·=0)) [k0,k1,k2,k3,k4,k5,k6,k7,k8] O:=by
 have hl:=h.aG.1;have a1:=λI=>wS (I:=I) e.r;have g1:=λI (h:1<(O++I).length)=>Eo h (a1 I);refine tK (r.aG.map lH) (λ_ w=>w=[]) [] rfl (by simp[SE.den]) rfl (λI=>by simp[SE.den,a1,g1]) (by simp[lH,ao];exactλ_ _=>rfl) (by rintro j _ rfl;rfl) ?_ ?_
 .rintro j _ ak rfl;rw[aw0]at ak;have hw:=aI ak aj;have aau:=v143 r.aG[j].op;have hq:=o.m.g _ (awd ak);simp[SE.den,nq,sU,a1,g1,ao,aN,lH,hw];refine⟨_,aau,?_⟩;cases hb:uM r.aG[j].op<;>simp[aN]
  .exact⟨hq.resolve_left (by simp[hb]),.mk [] rfl ak rfl⟩
  .exact .mk [] rfl ak rfl
 .rintro _ k rfl;have hy:=afq (k0:=k0) (k1:=k1) (k2:=k2) (k3:=k3) (k4:=k4) (k5:=k5) (k6:=k6) (k7:=k7) (k8:=k8) (k9:=k) (e.ap [iI (r.aG.map lH).length]) h o;simp[SE.den,a1,g1]at hy⊢;exact hy
def ahq{K0:List (List IV->Prop)}{k l:Nat}{K:aq}{L:List Gl}(e:En O ds r)(hd:Sm ds)(hL:L.length<=6)(hS:∀I,(SE.aO (.var 1) l).den Tryz.prog (O++I)=aa (gK L))(hk:K0.length=k)(hc:Vh ds L)(hK:∀k',K.sat Tryz.prog CC Q (K0++[k']) (O++[iI L.length])):(cF l O.length k K).sat Tryz.prog CC Q K0 O:=by
 have a0:=λI=>wS (I:=I) e.d;have g0:=λI (h:0<(O++I).length)=>Eo h (a0 I);refine tK (L.map lH) (λ_ w=>w=[]) [] rfl (by simp[SE.den]) rfl hS (by simp[lH,ao];exactλ_ _=>rfl) (by rintro j _ rfl;rfl) ?_ ?_
 .rintro j _ ak rfl;rw[aw0]at ak;have hw:=aI ak aj;have wQ:∀x,(K0++[x])[k]?=aa x:=λx=>by rw[<-hk];simp
  have hy:=λ(hb:ju ds L[j].s L[j].ts.length=ab) k' cH=>aat (Q:=Q) hd (s:=L[j].s) (ts:=L[j].ts) hb (q:=1) (m:=O.length+1) (i:=O.length) (k:=k) (j:=j) (Y:=.an) (O:=O++[iI j]) (A:=lH L[j]) (K0:=K0++[k']) (k':=k') (w:=[]) ay (wS e.d) ay aj (.inr ⟨_,rfl,rfl⟩) (by simp[hk]) (wQ _) (λI=>by simp[SE.den]) cH;have hc:=hc _ (awd ak);simp[SE.den,nq,sU,a0,g0,ao,aN,lH,hw,wQ]at hy⊢;by_cases z:L[j].op=0
  .exact .inl ⟨z,hy (hc z) _ (.mk [] rfl ak rfl)⟩
  .exact .inr ⟨z,.mk [] rfl ak rfl⟩
 .rintro _ k rfl;have:=hK k;simpa using this
def afs(e:En O ds r)(h:pz ds r)(o:zy ds r):(ahm O.length).sat Tryz.prog CC (wo (·=0)) [k0,k1,k2,k3,k4,k5,k6] O:=by
 have a1:=λI=>wS (I:=I) e.r;have g1:=λI (h:1<(O++I).length)=>Eo h (a1 I);refine ahq e h.d h.aG.1 (λI=>by simp[SE.den,a1,g1]) rfl (λg hg=>o.m.c g (aw3 _ hg)) λk=>⟨by simp[SE.den,a1,g1],?_⟩
 have hy:=ahq (l:=4) (k:=8) (K0:=[k0,k1,k2,k3,k4,k5,k6,k]) (K:=.aE (.len (.aO (.var 1) 3)) (aan (O.length+2))) (Q:=wo (·=0)) (e.ap [iI r.aG.length]) h.d h.bc.1 (λI=>by simp[SE.den,a1,g1]) rfl (λg hg=>o.m.c g (axg _ hg)) λk'=>⟨by simp[SE.den,a1,g1],by
  have hy:=afr (k0:=k0) (k1:=k1) (k2:=k2) (k3:=k3) (k4:=k4) (k5:=k5) (k6:=k6) (k7:=k) (k8:=k') (e.ap ([iI r.aG.length]++[iI r.bc.length])) h o;simpa using hy⟩
 simpa using hy
def aft(e:En O ds r)(h:pz ds r)(o:zy ds r):(ahn O.length).sat Tryz.prog CC (wo (·=0)) [k0,k1,k2,k3,k4,k5] O:=by
 have hl:=h.az.1;have a0:=λI=>wS (I:=I) e.d;have g0:=λI (h:0<(O++I).length)=>Eo h (a0 I);have a1:=λI=>wS (I:=I) e.r;have g1:=λI (h:1<(O++I).length)=>Eo h (a1 I);refine tK (r.az.map dH) (λ_ w=>∃b,w=[iB b]) [iB af] rfl (by simp[SE.den]) ⟨_,rfl⟩ (λI=>by simp[SE.den,a1,g1]) (by simp[dH,ao];exactλ_ _=>rfl) (by rintro j _ ⟨b,rfl⟩;rfl) ?_ ?_
 .rintro j _ ak ⟨b,rfl⟩;rw[aw0]at ak;have hd:=o.m.h _ (axg _ (awd ak));have hy:=λk' cH=>aat (Q:=wo (·=0)) h.d hd (q:=0) (m:=O.length+2) (i:=O.length) (k:=6) (j:=j) (Y:=.ac (.b ab) .an) (O:=O++[iI j,iB b]) (A:=dH r.az[j]) (K0:=[k0,k1,k2,k3,k4,k5,k']) (k':=k') (w:=[iB ab]) ay (wS e.d) ay aj (.inl ⟨rfl,rfl⟩) rfl rfl (λI=>by simp[SE.den]) cH;simp[SE.den,nq,sU,a0,g0,ao,aN,dH]at hy⊢;exact hy _ (.mk [iB ab] rfl ak (.inr rfl))
 .rintro _ k ⟨b,rfl⟩;have hy:=afs (k0:=k0) (k1:=k1) (k2:=k2) (k3:=k3) (k4:=k4) (k5:=k5) (k6:=k) (e.ap [iI r.az.length,iB b]) h o;simp[SE.den,a1,g1]at hy⊢;exact hy
def Q0{n:Nat}(hn:O.length=n)(e:En O ds r)(h:pz ds r)(o:zy ds r):(Vn n).sat Tryz.prog CC (wo (·=0)) [k0,k1,k2,k3,k4] O:=by
 subst hn;have hl:=h.aw.1;have a0:=λI=>wS (I:=I) e.d;have g0:=λI (h:0<(O++I).length)=>Eo h (a0 I);have a1:=λI=>wS (I:=I) e.r;have g1:=λI (h:1<(O++I).length)=>Eo h (a1 I);refine tK (r.aw.map dH) (λ_ w=>w=[]) [] rfl (by simp[SE.den]) rfl (λI=>by simp[SE.den,a1,g1]) (by simp[dH,ao];exactλ_ _=>rfl) (by rintro j _ rfl;rfl) ?_ ?_
 .rintro j _ ak rfl;rw[aw0]at ak;have hd:=o.m.h _ (aw3 _ (awd ak));have hy:=λk' cH=>aat (Q:=wo (·=0)) h.d hd (q:=0) (m:=O.length+1) (i:=O.length) (k:=5) (j:=j) (Y:=.an) (O:=O++[iI j]) (A:=dH r.aw[j]) (K0:=[k0,k1,k2,k3,k4,k']) (k':=k') (w:=[]) ay (wS e.d) ay aj (.inl ⟨rfl,rfl⟩) rfl rfl (λI=>by simp[SE.den]) cH;simp[SE.den,nq,sU,a0,g0,ao,aN,dH]at hy⊢;exact hy _ (.mk [] rfl ak rfl)
 .rintro _ k rfl;have hy:=aft (k0:=k0) (k1:=k1) (k2:=k2) (k3:=k3) (k4:=k4) (k5:=k) (e.ap [iI r.aw.length]) h o;simp[SE.den,a1,g1]at hy⊢;exact hy
end
def amg{ds:List De}{r:Rl}{x2 x3 x4 x5 x6 x7 x8 x9 dT:IV}(h:pz ds r)(o:zy ds r)(l:List Int)(hl:l.length<=1000000000)(hR:Na 0 l=aa r.vars):Vo.sat Tryz.prog CC (wo (·=0)) [k0,k1,k2,k3] [fY ds,aR r,x2,x3,x4,x5,x6,x7,x8,x9,dT,iL l]:=by
 have h83:=XT r.name;refine aC l.length (λj (a:Int)=>[iI j,iI a]) (λj a=>0<=a/\a<=j/\Na a (l.drop j)=aa r.vars) 0 ?_ ⟨by omega,by omega,hR⟩ λj a hj hI=>?_
 .simp[SE.den,ao]
 obtain⟨fQ,jd,sS⟩:=hI;by_cases ak:j<l.length
 .have hw:=aI ak aj;have hwa:awK.wrap (a+1)=a+1:=eT aj aj;rw[awH ak,Na]at sS;split at sS
  .rename_i z1;simp[SE.den,ak,hw,lI ak,ao,cellsOf,aN,z1];split at sS
   .rename_i z2;exact .inl ⟨z2,.mk (a+1) (by rw[hwa];rfl) aj ⟨by omega,by omega,sS⟩⟩
   .rename_i z2;exact .inr ⟨z2,.mk a rfl aj ⟨by omega,by omega,sS⟩⟩
  .cases sS
 .rw[awY aj,Na,awf]at sS;subst sS;simp[SE.den,ak,ao,aN];by_cases z2:r.name=[]
  .exact .inl ⟨z2,Q0 (O:=[fY ds,aR r,x2,x3,x4,x5,x6,x7,x8,x9,dT,iL l,iI j,iI r.vars]) rfl ⟨rfl,rfl⟩ h o⟩
  .rw[o.n.resolve_left z2]at h83;exact .inr ⟨z2,_,h83,by simp,by simp,by simp,Q0 (O:=[fY ds,aR r,x2,x3,x4,x5,x6,x7,x8,x9,dT,iL l,iI j,iI r.vars,iB ab]) rfl ⟨rfl,rfl⟩ h o⟩
section
variable{ds:List De}{r:Rl}{O:List IV}{K0:List (List IV->Prop)}{k l n d:Nat}{φ Y:SE}{K:aq}
def XY(n d:Nat)(φ Y:SE):Prop:=φ=.an/\Y=.an/\d=n+1\/φ=.ac (.b af) .an/\Y=.ac (.b ab) .an/\d=n+2
def ac9{L:List At}(e:En O ds r)(hn:O.length=n)(hL:L.length<=6)(hS:∀I,(SE.aO (.var 1) l).den Tryz.prog (O++I)=aa (c_ L))(hk:K0.length=k)(hXY:XY n d φ Y)(hc:∀a∈L,pZ a/\lk a=ab)(hK:∀w k',n+1+w.length=d->K.sat Tryz.prog CC Q (K0++[k']) (O++(iI L.length::w))):(atF l n k φ Y d K).sat Tryz.prog CC Q K0 O:=by
 subst hn;have wQ:∀x,(K0++[x])[k]?=aa x:=λx=>by rw[<-hk];simp
 unfold atF;rcases hXY with⟨rfl,rfl,rfl⟩|⟨rfl,rfl,rfl⟩
 .refine tK (L.map dH) (λ_ w=>w=[]) [] rfl (by simp[SE.den]) rfl hS (by simp[dH,ao];exactλ_ _=>rfl) (by rintro j _ rfl;rfl) ?_ (by rintro _ k rfl;simpa using hK [] k rfl);rintro j _ ak rfl;rw[aw0]at ak;have hw:=aI ak aj;obtain⟨h1,h2⟩:=hc _ (awd ak);have h45:=v45 L[j] h1;rw[h2]at h45;simp[SE.den,nq,sU,ax2,ao,aN,dH,hw,wQ];exact⟨_,h45,by simp,by simp,.inr ⟨by simp,.mk [] rfl ak rfl⟩⟩
 .refine tK (L.map dH) (λ_ w=>∃b,w=[iB b]) [iB af] rfl (by simp[SE.den]) ⟨_,rfl⟩ hS (by simp[dH,ao];exactλ_ _=>rfl) (by rintro j _ ⟨b,rfl⟩;rfl) ?_ (by rintro _ k ⟨b,rfl⟩;simpa using hK [iB b] k rfl);rintro j _ ak ⟨b,rfl⟩;rw[aw0]at ak;have hw:=aI ak aj;obtain⟨h1,h2⟩:=hc _ (awd ak);have h45:=v45 L[j] h1;rw[h2]at h45;simp[SE.den,nq,sU,ax2,ao,aN,dH,hw,wQ];exact⟨_,h45,by simp,by simp,.inr ⟨by simp,.mk [iB ab] rfl ak (.inr rfl)⟩⟩
def ac_{L:List Gl}(e:En O ds r)(hn:O.length=n)(hL:L.length<=6)(hS:∀I,(SE.aO (.var 1) l).den Tryz.prog (O++I)=aa (gK L))(hk:K0.length=k)(hXY:XY n d φ Y)(hc:∀a∈L,qO a/\fx a=ab)(hK:∀w k',n+1+w.length=d->K.sat Tryz.prog CC Q (K0++[k']) (O++(iI L.length::w))):(goF l n k φ Y d K).sat Tryz.prog CC Q K0 O:=by
 subst hn;have wQ:∀x,(K0++[x])[k]?=aa x:=λx=>by rw[<-hk];simp
 unfold goF;rcases hXY with⟨rfl,rfl,rfl⟩|⟨rfl,rfl,rfl⟩
 .refine tK (L.map lH) (λ_ w=>w=[]) [] rfl (by simp[SE.den]) rfl hS (by simp[lH,ao];exactλ_ _=>rfl) (by rintro j _ rfl;rfl) ?_ (by rintro _ k rfl;simpa using hK [] k rfl);rintro j _ ak rfl;rw[aw0]at ak;have hw:=aI ak aj;obtain⟨h1,h2⟩:=hc _ (awd ak);have Lb:=v138 L[j] h1;rw[h2]at Lb;simp[SE.den,nq,sU,ax2,ao,aN,lH,hw,wQ];exact⟨_,Lb,by simp,by simp,.inr ⟨by simp,.mk [] rfl ak rfl⟩⟩
 .refine tK (L.map lH) (λ_ w=>∃b,w=[iB b]) [iB af] rfl (by simp[SE.den]) ⟨_,rfl⟩ hS (by simp[lH,ao];exactλ_ _=>rfl) (by rintro j _ ⟨b,rfl⟩;rfl) ?_ (by rintro _ k ⟨b,rfl⟩;simpa using hK [iB b] k rfl);rintro j _ ak ⟨b,rfl⟩;rw[aw0]at ak;have hw:=aI ak aj;obtain⟨h1,h2⟩:=hc _ (awd ak);have Lb:=v138 L[j] h1;rw[h2]at Lb;simp[SE.den,nq,sU,ax2,ao,aN,lH,hw,wQ];exact⟨_,Lb,by simp,by simp,.inr ⟨by simp,.mk [iB ab] rfl ak (.inr rfl)⟩⟩
end
def amh{ds:List De}{r:Rl}{x2:IV}(h:pz ds r)(o:zy ds r):La.sat Tryz.prog CC (wo (·=0)) [] [fY ds,aR r,x2]:=by
 have e:∀l,En (fY ds::aR r::l) ds r:=λl=>⟨rfl,rfl⟩;have hM:=λ(a:At) (l:List At) (h1:a∈l) (h2:∀x∈l,x∈r.aw++r.az)=>(⟨h.n.hs a (h2 a h1),o.hs a (h2 a h1)⟩:pZ a/\lk a=ab);have hG:=λ(a:Gl) (l:List Gl) (h1:a∈l) (h2:∀x∈l,x∈r.aG++r.bc)=>(⟨h.n.gs a (h2 a h1),o.gs a (h2 a h1)⟩:qO a/\fx a=ab);unfold La;refine ac9 (e _) rfl (by have:=h.aw.1;omega) (λI=>by simp[SE.den]) rfl (.inl ⟨rfl,rfl,rfl⟩) (λa m=>hM a _ m λx=>aw3 _) λw k0 hw=>⟨by simp[SE.den],?_⟩;have:w=[]:=awG aj;subst this;refine ac9 (e _) rfl (by have:=h.az.1;omega) (λI=>by simp[SE.den]) rfl (.inr ⟨rfl,rfl,rfl⟩) (λa m=>hM a _ m λx=>axg _) λw k1 hw=>⟨by simp[SE.den],?_⟩;obtain⟨x4,rfl⟩:=ay6.1 (show w.length=1 by omega);refine ac_ (e _) rfl h.aG.1 (λI=>by simp[SE.den]) rfl (.inl ⟨rfl,rfl,rfl⟩) (λa m=>hG a _ m λx=>aw3 _) λw k2 hw=>⟨by simp[SE.den],?_⟩;have:w=[]:=awG aj;subst this;refine ac_ (e _) rfl h.bc.1 (λI=>by simp[SE.den]) rfl (.inr ⟨rfl,rfl,rfl⟩) (λa m=>hG a _ m λx=>axg _) λw k3 hw=>?_;obtain⟨x8,rfl⟩:=ay6.1 (show w.length=1 by omega);obtain⟨g1,g2⟩:=X_ h;obtain⟨g3,g4⟩:=aiV h;have hc:=Ef (a:=dS [r.aw,r.az]) (b:=du [r.aG,r.bc]) aj;have hR:=(aiW (r:=r) (n:=r.vars) (WB (λa ha=>Bm (o.hs a ha)) λa ha=>(xr (o.gs a ha)).2)).1 o.v;generalize dS [r.aw,r.az]=u at g1 g2 hc hR;generalize du [r.aG,r.bc]=v at g3 g4 hc hR;simp[SE.den,ao,cellsOf];refine⟨_,g2,_,g4,?_⟩;simp[hc];exact amg h o (u++v) (by rw[awi];omega) hR
def v84(ds:List De)(r:Rl)(hd:Sm ds)(hs:oa r)(hn:qP r)(o:zy ds r):CC 155 af [fY ds,cU r] (iI 0):=by
 have h:pz ds r:=⟨hd,hs,hn,hn.for (λa ha=>Bm (o.hs a ha)) λa ha=>xr (o.gs a ha)⟩;have h3:=hs.h;have hg:=hs.g;have hb:=hs.b;have hw:awK.wrap ((r.aw.length:Int)+r.az.length)=r.aw.length+r.az.length:=eT aj aj
 have hp:0<r.aw.length+r.az.length:=by
  have:=List.length_pos_iff.2 o.ne;rwa[awi]at this
 have hy:=amh (x2:=.aF []) h o
 suffices hh:∃b:Int,b=0/\CC 155 af [fY ds,cU r] (iI b) by
  obtain⟨_,rfl,h⟩:=hh;exact h
 refine CC.HX _ atW kr (λ_=>kr) (by intro x hx;rcases aws.1 hx with rfl|hx;exact KY _;obtain rfl:=awo.1 hx;exact jn r) (by rfl) ?_;rw[cu];simp[aho,SE.den,ao,hw];exact⟨_,ahp ab (.aF []),by omega,by omega,by omega,by omega,hy⟩
end
section rule
variable{Q:IV->Prop}{k0 k1 k2 k3 k4 k5:List IV->Prop}
end rule
section
variable{Q:IV->Prop}{k0:List IV->Prop}
def t32(a b:Int):oq Tryz.prog 85 (.aF [iI a,iI b])=ab:=by kernel_rfl
variable{k1 k2:List IV->Prop}{x0 x1 x2 x3 x4 x5 x6 x7 x8 x9 dT fD:IV}
def afu{ds:List De}{d:De}:ju ds d.s d.n=ab↔d∈ds:=by
 rw[yH];refine⟨λ⟨e,h1,h2,h3⟩=>?_,λh=>⟨d,h,rfl,rfl⟩⟩;cases d;cases e;simp only at h2 h3;subst h2;subst h3;exact h1
def aqt(p:Pg)(h:oe p)(o:Em p){x1:IV}(hk:k0 [iI 0]):X6.sat Tryz.prog CC Q [k0] [.agg [fY p.bN,mw p.aV],x1]:=by
 obtain⟨ds,rs⟩:=p;obtain⟨hd,hr,dn,qQ,LM⟩:=h;have o1:=o.d;have o2:=o.u;simp only at*
 refine aC ds.length (λj (dl:List De)=>[iI j,.aF (dl.map F2)]) (λj dl=>dl=ds.take j) [] ?_ rfl λj dl hj hdl=>?_
 .simp[SE.den]
 by_cases ak:j<ds.length
 .have hw:=aI ak aj;obtain⟨b83,z1,z2⟩:=o1 _ (awd ak);have h83:=XT ds[j].s;rw[b83]at h83;have g1:=(aiM dl ds[j]).2 λhm=>by have:=o2 j ak;rw[afu.2 (hdl▸hm)]at this;cases this
  simp only[iS,iI]at g1;simp[SE.den,ak,hw,OF ak,ao,aN];refine⟨_,h83,?_⟩;simp[aN,z1];refine .inl (.inr ⟨z2,?_⟩);simp[g1,aN];exact .mk (dl++[ds[j]]) (by simp[F2]) aj (by rw[awh ak,hdl])
 .simp[SE.den,ak,aN,ao];right;exact⟨by omega,hk⟩
def v32(p:Pg)(h:oe p)(o:Em p):∃a,CC 85 af [bn p] (.aF [iI a,iI 0]):=by
 suffices hh:∃a n:Int,n=0/\CC 85 af [bn p] (.aF [iI a,iI n]) by
  obtain⟨a,_,rfl,h⟩:=hh;exact⟨a,h⟩
 refine CC.alw _ atL kr t32 (by simpa using dN p) (by rfl) ?_;show aak.sat _ _ _ _ [.agg [fY p.bN,mw p.aV]];have hd:=h.d;have hr:=h.r;simp[aak,SE.den,ao];unfold X8;refine kW (λvs=>vs=[iI 0]) ?_ ?_
 .simp[SE.den,ao];exact⟨_,ahp ab (.aF []),.inr ⟨by omega,aqt p h o rfl⟩⟩
 .rintro vs rfl;refine⟨rfl,?_⟩;simp[SE.den,ao,K4];unfold X7;refine aC p.aV.length (λi (_:Unit)=>[iI i]) (λ_ _=>True) () ?_ trivial λi _ hi _=>?_
  .simp[SE.den]
  by_cases ak:i<p.aV.length
  .have hw:=aI ak aj;have hm:=awd ak;have hb:=v84 p.bN p.aV[i] (by unfold Sm;omega) (h.rs _ hm) (h.rn _ hm) (o.r _ hm);rw[cu]at hb;simp[SE.den,ak,hw,y9 ak,ao];refine⟨_,hb,?_⟩;simp[K4];exact .mk () rfl aj trivial
  .simp[SE.den,ak]
end
end
end Go.Proofs.YtabefplkfkfdfaaGreat
namespace Go.Proofs.YtabefplkfkfdfaaGreat
open Go Go.RowKit Go.Shelf Go.Sort
attribute [local go_sem] Oper.semAt_some
open Go.Ev
end Go.Proofs.YtabefplkfkfdfaaGreat
namespace Go.Proofs.YtabefplkfkfdfaaGreat
open Go Go.Ev
end Go.Proofs.YtabefplkfkfdfaaGreat
namespace Go.Proofs.YtabefplkfkfdfaaGreat
end Go.Proofs.YtabefplkfkfdfaaGreat
namespace Go.Proofs.YtabefplkfkfdfaaGreat
open Go Go.Ev
def ami(a b:List Int)(hl:Sm a):CC 93 ab [iL a,iL b] (iB (a==b)):=by
 refine CC.eF aql kr (λ_=>kr) ay (by rfl) ?_;generalize hS:(a==b)=S;simp[acV,SE.den];by_cases b_:a.length=b.length
 .right;simp[b_];unfold Vd;refine aC a.length (λi (_:Unit)=>[iI i]) (λi _=>a.take i=b.take i) () ?_ ay λi _ hi hI=>?_
  .simp[SE.den]
  by_cases ak:i<a.length
  .have WM:i<b.length:=aj;have hw:=aI ak hl;simp[SE.den,ak,hw,lI ak,lI WM,aN];by_cases h:a[i]=b[i]
   .right;exact⟨h,.mk () rfl aj (by rw[awh ak,awh WM,hI,h])⟩
   .left;refine⟨h,?_⟩;subst S;simp;exactλe=>h (by subst e;rfl)
  .rw[awr aj,awr aj]at hI;simp[SE.den,ak,aN];subst S;simp[hI]
 .left;refine⟨by omega,?_⟩;simp[aN];subst S;simp;exactλe=>b_ (by rw[e])
structure Ac where
 s:List UInt8
 n:Int
 ps:List Int
 deriving DecidableEq
def tj(a:Ac):IV:=.agg [iS a.s,iI a.n,iL a.ps]
abbrev eU(l:List Ac):IV:=.tree 3 (l.map tj)
def CL(a:Ac):Pure (tj a):=.agg _ ay
@[simp] theorem afv(l:List Ac):Pure (eU l):=jm 3 tj (λa=>⟨_,rfl,by simp⟩) l
def Vw{l:List Ac}{i:Nat}(h:i<l.length):cq 3 (eU l) (iI (i:Nat))=aa (.agg [iS l[i].s,iI l[i].n,iL l[i].ps]):=cP (by simp[h,tj]) rfl
def Dx(a:Ac):List Ac->Nat->Int
 |[],_=> -1
 |x::l,i=>if x=a then i else Dx a l (i+1)
def tn(l:List Ac)(a:Ac):Int:=Dx a l 0
def aiX{a:Ac}{l:List Ac}{i:Nat}(h:i<l.length):Dx a (l.drop i) i=if l[i]=a then(i:Int)else Dx a (l.drop (i+1)) (i+1):=by
 rw[awH h,Dx]
structure Yb(l:List Ac):Prop where
 len:l.length<=1000
 p:∀a∈l,a.ps.length<=8
def CC.OU{n:Nat}{new:Bool}{f:FuncId}{di:aq}{args:List IV}{cfg:fe}{s:Int}(he:aQ Tryz.prog cfg n new f=di)(hl:(Tryz.prog.funcs[f]?).map (·.params.size)=aa args.length)(ht:∀z,oq Tryz.prog f z=ab)(hp:∀x∈args,Pure x)(hn:noTwo di=ab)
 (hs:di.sat Tryz.prog CC (wo (·=s)) [] args):CC f new args (iI s):=by
 obtain⟨_,rfl,h⟩:=CC.HX (·=s) he hl ht hp hn hs;exact h
def aiY{P:Program}{f:FuncId}{xs:List IV}{z:IV}(h:eC P af ab f xs z):eC P af af f xs z:=by
 intro M w us hM hr;refine(h M w us hM hr).mono λe w' hR=>?_;cases e with
 |panicked ch=>exact absurd hR.1 ay
 |outgrown=>exact hR.elim
 |returned u=>
  obtain⟨_,M',h1,h2,_,h4,h5,h6,h7,h8,h9⟩:=hR
  have Ax:∀b c,M' b=aa c->w.heap.size<=b:=λb c hb=>by
   rcases h2 b c hb with⟨h,_⟩|h
   .cases h
   .exact h
  refine⟨rfl,λb=>if b<w.heap.size then M b else M' b,λb c hb=>?_,λb c hb=>?_,λ_ b c hb=>?_,Rv.mono (Z:=iY M') (aK:=iY λb=>if b<w.heap.size then M b else M' b) ⟨λ_ _ _ h=>h,λb c hb=>?_⟩ h4,h5,h6,h7,h8,h9⟩
  .simp only at hb;split at hb
   .rename_i ak;obtain⟨e,f,hh⟩:=hM b c hb;exact⟨e,f,by rw[h9 b ak];exact hh⟩
   .exact h1 b c hb
  .simp only at hb;split at hb
   .exact .inl ⟨rfl,hb⟩
   .exact .inr aj
  .simp only;rw[if_pos (hM.lt hb)];exact hb
  .have sH:M' b=aa c:=hb;show(if _ then _ else _)=_;rw[if_neg (by have:=Ax b c sH;omega)];exact sH
def CC.aav{f:FuncId}{xs:List IV}{z:IV}(hf:f<Tryz.prog.funcs.size)(h:CC f ab xs z):CC f af xs z:=
 CC.plain hf (aiY (h.1 hf).1) (h.1 hf).2.1 (h.1 hf).2.2
def k93(a b:List Int)(hl:Sm a):CC 93 af [iL a,iL b] (iB (a==b)):=(ami a b hl).aav (MV rfl)
def amj(l:List Ac)(a:At)(ps:List Int)(hl:Yb l):CC 116 af [eU l,dH a,iL ps] (iI (tn l ⟨a.s,a.ts.length,ps⟩)):=by
 refine CC.OU apz kr (λ_=>kr) (by intro x hx;rcases aws.1 hx with rfl|hx;exact afv l;rcases aws.1 hx with rfl|hx;exact Cw a;obtain rfl:=awo.1 hx;simp) (by rfl) ?_;have ha:dH a=.agg [iS a.s,iT a.ts]:=rfl;have QX:=hl.len;simp[agV,ha,SE.den,ao];unfold XJ;refine aC l.length (λi (_:Unit)=>[iI i]) (λi _=>tn l ⟨a.s,a.ts.length,ps⟩=Dx ⟨a.s,a.ts.length,ps⟩ (l.drop i) i) () ?_ (by simp[tn]) λi _ hi hI=>?_
 .simp[SE.den]
 by_cases ak:i<l.length
 .have hw:=aI ak aj;have Vx:=k93 l[i].ps ps (by have:=hl.p _ (awd ak);unfold Sm;omega);rw[aiX ak]at hI;simp[SE.den,ak,hw,Vw ak,ao];by_cases e1:l[i].s=a.s
  rotate_left
  .rw[if_neg (λh=>e1 (by rw[h]))]at hI;simp[e1];exact .mk () rfl aj hI
  by_cases e2:l[i].n=a.ts.length
  rotate_left
  .rw[if_neg (λh=>e2 (by rw[h]))]at hI;simp[e1,e2];exact .mk () rfl aj hI
  simp[e1,e2];refine⟨_,Vx,?_⟩;by_cases e3:l[i].ps=ps
  .rw[if_pos (by cases hli:l[i];simp_all)]at hI;simp[e3,ao,hI]
  .rw[if_neg (λh=>e3 (by rw[h]))]at hI;simp[e3,ao];exact .mk () rfl aj hI
 .rw[awY aj]at hI;simp[SE.den,ak,hI,Dx]
section
structure Part(p:Pg)(x:Pn)(k i n:Nat)(r:Rl)(a:At)(ps:List Int):Prop where
 oc:x.o.r=i
 ru:p.aV[i]?=aa r
 od:x.aJ[k]?=aa (n:Int)
 hd:(r.aw++r.az)[n]?=aa a
 kn:x.dQ[k]?=aa ps
section
variable{p:Pg}{x:Pn}{k i n:Nat}{r:Rl}{a:At}{ps:List Int}
def Vy(p:Pg)(x:Pn)(k:Nat):∀y∈[bn p,cD x,iI k],Pure y:=by
 intro y hy;rcases aws.1 hy with rfl|hy
 .exact dN p
 rcases aws.1 hy with rfl|hy
 .exact yI x
 obtain rfl:=awo.1 hy;simp
def afw(hp:oe p)(h:Part p x k i n r a ps):CC 115 af [bn p,cD x,iI k] (.aF [dH a,iL ps,iB ab]):=by
 refine CC.of apy kr kr (Vy p x k) (.aF _ (by simp[Cw])) ?_;obtain⟨hi,sL⟩:=awa.1 h.ru;obtain⟨hk,a_⟩:=awa.1 h.od;obtain⟨hn,Vz⟩:=awa.1 h.hd;obtain⟨yd,GG⟩:=awa.1 h.kn;have qQ:=(hp.rs r (sL▸awd hi)).h;have zw:=JT r aj;rw[cu]at zw;have hN:cD x=.agg [iI i,iI x.o.h,iB x.o.k,iL x.aJ,dr x.dQ,dr x.dt]:=by rw[cD,h.oc]
 have hP:bn p=.agg [fY p.bN,mw p.aV]:=rfl;have hR:=y9 hi;rw[sL]at hR;have hO:=lI hk;rw[a_]at hO;have hA:=py hn;rw[Vz]at hA;have hK:=F6 yd;rw[GG]at hK;rw[hN,hP];generalize r.aw++r.az=hs at*
 simp[agU,SE.den,ao,hk,hi,hR];refine⟨_,zw,?_⟩;simp[hO,a_,hn,yd,hK,hA,show¬x.dQ.length<=k by omega,dH]
def afx(p:Pg)(acc:List Ac)(x:Pn)(k:Nat):∀y∈[bn p,eU acc,cD x,iI k],Pure y:=by
 intro y hy;rcases aws.1 hy with rfl|hy
 .exact dN p
 rcases aws.1 hy with rfl|hy
 .simp
 rcases aws.1 hy with rfl|hy
 .exact yI x
 obtain rfl:=awo.1 hy;simp
def k97(hp:oe p)(h:Part p x k i n r a ps)(acc:List Ac)(hc:Yb acc):CC 97 af [bn p,eU acc,cD x,iI k] (iI (tn acc ⟨a.s,a.ts.length,ps⟩)):=by
 refine CC.OU atb kr (λ_=>kr) (afx p acc x k) (by rfl) ?_;have OV:=afw hp h;have aaw:=amj acc a ps hc;have hN:cD x=.agg [iI x.o.r,iI x.o.h,iB x.o.k,iL x.aJ,dr x.dQ,dr x.dt]:=rfl;have hP:bn p=.agg [fY p.bN,mw p.aV]:=rfl;rw[hN,hP]at*
 simp[ak5,SE.den,ao];refine⟨_,OV,?_⟩;simp[dH,ao];refine⟨_,aaw,?_⟩;simp
end
def Dy(ts:List Tm)(v:Int):List Tm:=if 0<=v then(match ts[v.toNat]? with
 |some t=>[t]
 |none=>[])else[]
def nU(ts:List Tm)(ps:List Int):List Tm:=ps.flatMap (Dy ts)
def afy(ts:List Tm)(v:Int):(Dy ts v).length<=1:=by
 unfold Dy;split
 .split<;>simp
 .simp
theorem VA(ts:List Tm):∀ps:List Int,(nU ts ps).length<=ps.length
 |[]=>by simp[nU]
 |v::ps=>by
  have h1:=VA ts ps;have h2:=afy ts v;unfold nU at h1⊢;rw[axP,awi,awJ];omega
def ada{ts:List Tm}{ps:List Int}{i:Nat}(h:i<ps.length):nU ts (ps.take (i+1))=nU ts (ps.take i)++Dy ts ps[i]:=by
 rw[awh h];unfold nU;rw[ayO];simp
section
variable{p:Pg}{x:Pn}{k i n:Nat}{r:Rl}{a:At}{ps:List Int}
def k98(hp:oe p)(h:Part p x k i n r a ps)(hl:ps.length<=400):CC 98 af [bn p,cD x,iI k] (iT (nU a.ts ps)):=by
 refine CC.of atc kr kr (Vy p x k) ay ?_;have OV:=afw hp h;have hN:cD x=.agg [iI x.o.r,iI x.o.h,iB x.o.k,iL x.aJ,dr x.dQ,dr x.dt]:=rfl;have hP:bn p=.agg [fY p.bN,mw p.aV]:=rfl;rw[hN,hP]at*
 simp[ak6,SE.den,ao];refine⟨_,OV,?_⟩;simp[dH,ao];unfold acb;refine aC ps.length (λi (acc:List Tm)=>[iI i,iT acc]) (λi acc=>acc=nU a.ts (ps.take i)) [] ?_ (by simp[nU]) λi acc hi hI=>?_
 .simp[SE.den]
 by_cases ak:i<ps.length
 .have hw:=aI ak aj;have ey:=VA a.ts (ps.take i);rw[<-hI]at ey;simp only[axe]at ey;have cy:=ada (ts:=a.ts) ak;rw[<-hI]at cy;simp[SE.den,ak,hw,lI ak,ao];by_cases h0:0<=ps[i]
  rotate_left
  .right;refine⟨by omega,.mk _ rfl aj (by rw[cy];simp[Dy,h0])⟩
  left;refine⟨h0,?_⟩;by_cases h1:ps[i]<a.ts.length
  rotate_left
  .right;refine⟨by omega,.mk _ rfl aj (by
    rw[cy];simp only[Dy,if_pos h0];rw[ayd aj];simp)⟩
  left;refine⟨h1,?_⟩;have xu:ps[i]=((ps[i].toNat:Nat):Int):=aj;have dY:ps[i].toNat<a.ts.length:=aj;have hT:=nP dY;rw[<-xu,bL]at hT;simp[hT,ao,cellsOf]
  have hc:dg 4 56 (iT acc) (.tree 4 [.agg [iI a.ts[ps[i].toNat].k,iI a.ts[ps[i].toNat].n,iS a.ts[ps[i].toNat].s,iT a.ts[ps[i].toNat].ts]])=aa (iT (acc++[a.ts[ps[i].toNat]])):=by
   have:=RV (a:=acc) (b:=[a.ts[ps[i].toNat]]) (by simp;omega);rw[<-this];show _=dg 4 56 _ (.tree 4 [er _]);rw[bL]
  refine⟨_,hc,.mk _ rfl aj ?_⟩;rw[cy];simp[Dy,h0,av_ dY]
 .simp[SE.den,ak];rw[hI,awr aj]
end
end
def aiZ{P:Program}{f:FuncId}{xs:List IV}{v:Value}(h:eC P af af f xs (.raw v)):eC P af ab f xs (.raw v):=by
 intro M w us hM hr;refine(h M w us hM hr).mono λe w' hR=>?_;cases e with
 |panicked ch=>exact absurd hR.1 ay
 |outgrown=>exact hR.elim
 |returned u=>
  obtain⟨_,M',h1,h2,_,h4,h5,h6,h7,h8,h9⟩:=hR;refine⟨rfl,λ_=>ah,λb c hb=>(by cases hb),λb c hb=>(by cases hb),λhc=>(by cases hc),?_,h5,h6,h7,h8,h9⟩;cases h4;exact .raw _
def CC.ahr{f:FuncId}{xs:List IV}{v:Value}(hf:f<Tryz.prog.funcs.size)(h:CC f af xs (.raw v)):CC f ab xs (.raw v):=
 CC.plain hf (aiZ (h.1 hf).1) (h.1 hf).2.1 (h.1 hf).2.2
section
def jg:List Int->List Gl->Bool
 |_,[]=>ab
 |vs,g::l=>fx g&&(if g.op=1 then jg vs l else decide (g.op=4)&&(match g.ts with
  |t::_=>decide (t.k=1)&&decide (t.n∉vs)&&jg (vs++[t.n]) l
  |[]=>af))
def adb{l:List Gl}{i:Nat}(h:i<l.length)(vs:List Int):jg vs (l.drop i)=(fx l[i]&&(if l[i].op=1 then jg vs (l.drop (i+1))else decide (l[i].op=4)&&(match l[i].ts with
 |t::_=>decide (t.k=1)&&decide (t.n∉vs)&&jg (vs++[t.n]) (l.drop (i+1))
 |[]=>af))):=by
 rw[awH h,jg]
def rR(r:Rl):List Int:=varsOf (fz (r.aw++r.az))
def nT{g:Gl}(h:fx g=ab)(h4:g.op=4):∃t ts,g.ts=t::ts:=by
 have h1:=(xr h).1 aj;rw[h4]at h1;cases hg:g.ts with
 |nil=>rw[hg]at h1;simp[jB]at h1
 |cons t ts=>exact⟨t,ts,rfl⟩
section
variable{k0:List IV->Prop}
def Bo{a:List Int}{v:Int}(h:a.length<=100000000):dg 1 8 (iL a) (.tree 1 [iI v])=aa (iL (a++[v])):=by
 have:=Ef (a:=a) (b:=[v]) (by simp;omega);exact this
end
def DO(k:Int):IV:=.aF [iI k,.agg []]
abbrev iM(ks:List Int):IV:=.aF (ks.map DO)
def Dz(ks:List Int)(k:Int):List Int:=if k∈ks then ks else ks++[k]
theorem Q1:∀ks:List Int,mf (ks.map DO)=aa (ks.map (axQ .i64))
 |[]=>rfl
 |k::ks=>by simp[mf,DO,Ev.keyOf,Q1 ks]
theorem Gb(k:Int):∀(ks:List Int) (n:Nat),(k∈ks->∃i,nowAt (.int .i64) (.int .i64 k) (ks.map (axQ .i64)) n=aa (aa (n+i))/\ks[i]?=aa k)/\(k∉ks->nowAt (.int .i64) (.int .i64 k) (ks.map (axQ .i64)) n=aa ah)
 |[],n=>by simp[nowAt]
 |a::ks,n=>by
  obtain⟨h1,h2⟩:=Gb k ks (n+1);by_cases h:k=a
  .subst h;refine⟨λ_=>⟨0,by simp[nowAt,azm],rfl⟩,λhn=>absurd ay hn⟩
  .refine⟨λhm=>?_,λhn=>?_⟩
   .obtain⟨i,g1,g2⟩:=h1 (by simpa[h]using hm);have hb:(k==a)=af:=by simpa using h
    exact⟨i+1,by simp[nowAt,azm,hb,g1];omega,by simpa using g2⟩
   .have hb:(k==a)=af:=by simpa using h
    simp[nowAt,azm,hb,h2 (λhm=>hn (by simp[hm]))]
def xw(ks:List Int)(k:Int):(k∈ks->∃i,eZ Tryz.prog 3 (ks.map DO) (iI k)=aa (aa i)/\ks[i]?=aa k)/\(k∉ks->eZ Tryz.prog 3 (ks.map DO) (iI k)=aa ah):=by
 have h:eZ Tryz.prog 3 (ks.map DO) (iI k)=nowAt (.int .i64) (.int .i64 k) (ks.map (axQ .i64)) 0:=by
  unfold eZ;rw[Q1];simp[xf,U7,Ev.keyOf]
 rw[h];have:=Gb k ks 0;simpa using this
def Lc{α:Type}{l:List α}{i:Nat}{a:α}(h:l[i]?=aa a):l.set i a=l:=by
 apply List.ext_getElem?;intro q;simp only[List.getElem?_set]
 grind
def OW{O:List IV}{m key:SE}{ks:List Int}{k:Int}(h1:m.den Tryz.prog O=aa (iM ks))(h2:key.den Tryz.prog O=aa (iI k)):(SE.ins 3 m key .an).den Tryz.prog O=aa (iM (Dz ks k)):=by
 simp only[SE.den,h1,h2,awc];by_cases hm:k∈ks
 .obtain⟨i,g1,g2⟩:=(xw ks k).1 hm;rw[g1];simp only[Dz,if_pos hm];rw[Lc];rw[awu,g2];rfl
 .rw[(xw ks k).2 hm];simp[Dz,if_neg hm,DO]
def OX{O:List IV}{m key:SE}{ks:List Int}{k:Int}(h1:m.den Tryz.prog O=aa (iM ks))(h2:key.den Tryz.prog O=aa (iI k)):(SE.has 3 m key).den Tryz.prog O=aa (iB (decide (k∈ks))):=by
 simp only[SE.den,h1,h2,awc];by_cases hm:k∈ks
 .obtain⟨i,g1,g2⟩:=(xw ks k).1 hm;rw[g1];simp[hm]
 .rw[(xw ks k).2 hm];simp[hm]
def OY{O:List IV}{m key:SE}{ks:List Int}{k:Int}(h1:m.den Tryz.prog O=aa (iM ks))(h2:key.den Tryz.prog O=aa (iI k)):(SE.lV 0 (.get 3 m key .an)).den Tryz.prog O=aa (.agg []):=by
 simp only[SE.den,h1,h2,awc];by_cases hm:k∈ks
 .obtain⟨i,g1,g2⟩:=(xw ks k).1 hm;rw[g1];simp[g2,DO]
 .rw[(xw ks k).2 hm];simp
def ai0(l:List Int)(x:Int):Dz l x=th l x:=rfl
def yJ{v x:Int}{l:List Int}:v∈Dz l x↔v∈l\/v=x:=by
 have:=rQ (v:=v) [x] l;simpa[db,ai0]using this
section
variable{Q:IV->Prop}{k0:List IV->Prop}{x0 x1 x4:IV}
def amk(i:Nat)(hi:i<1000)(ks l:List Int)(hl:Sm l)(hk:∀q,(∀v,v∈q↔v∈ks\/v∈l)->k0 [iI (i+1:Nat),iM q]):OD.sat Tryz.prog CC Q [k0] [x0,x1,iI i,iM ks,x4,iL l]:=by
 have kh:=aI hi aj;unfold OD;refine aC l.length (λj (q:List Int)=>[iI j,iM q]) (λj q=>∀v,v∈q↔v∈ks\/v∈l.take j) ks ?_ ay λj q hj hI=>?_
 .simp[SE.den]
 by_cases ak:j<l.length
 .have hw:=aI ak hl;have iu:=OW (O:=[iM q,iI l[j]]) (m:=.var 0) (key:=.var 1) (ks:=q) (k:=l[j]) rfl rfl;have px:=OY (O:=[iM q,iI l[j]]) (m:=.var 0) (key:=.var 1) (ks:=q) (k:=l[j]) rfl rfl;have Bp:=OX (O:=[iM q,iI l[j]]) (m:=.var 0) (key:=.var 1) (ks:=q) (k:=l[j]) rfl rfl;simp[SE.den]at iu px Bp;simp only[iI]at iu px Bp;obtain⟨hq,sQ,vR⟩:=Bp;simp[SE.den,ak,hw,lI ak,ao];refine⟨⟨_,px⟩,iB (decide (l[j]∈q)),⟨hq,sQ,by rw[vR]⟩,?_⟩;by_cases z:l[j]∈q
  .simp[z];refine .mk _ rfl aj λv=>?_;rw[hI,awh ak,awm,awo];have:=(hI l[j]).1 z;constructor
   .rintro(h|h)
    .exact .inl h
    .exact .inr (.inl h)
   .rintro(h|h|rfl)
    .exact .inl h
    .exact .inr h
    .exact this
  .simp[z];refine⟨_,iu,.mk _ rfl aj λv=>?_⟩;rw[yJ,hI,awh ak,awm,awo,or_assoc]
 .simp[SE.den,ak,kh];rw[awr aj]at hI;exact hk q hI
variable{x2:IV}
def aml(r:Rl)(h:oa r)(hn:qP r)(vs ks:List Int)(dz:∀v,v∈ks↔v∈vs):
 OE.sat Tryz.prog CC (xo (·=jg vs r.bc)) [k0] [cU r,x1,x2,iM ks]:=by
 have hb:=h.b;have sJ:∀g∈r.bc,qO g:=λg hg=>hn.gs g (by simp[hg]);generalize hS:jg vs r.bc=S;rw[cu];generalize r.bc=bd at*
 unfold OE;refine aC bd.length (λi (q:List Int)=>[iI i,iM q]) (λi q=>∃a:List Int,S=jg a (bd.drop i)/\∀v,v∈q↔v∈a) ks ?_ ⟨vs,by simp[hS],dz⟩ λi q hi hI=>?_
 .simp[SE.den]
 obtain⟨a,hI,hq⟩:=hI;by_cases ak:i<bd.length
 rotate_left
 .rw[awY aj,jg]at hI;simp[SE.den,ak,hI]
 have hw:=aI ak aj;have Lb:=v138 bd[i] (sJ _ (awd ak));rw[adb ak]at hI;simp[SE.den,ak,hw,xq ak,ao];refine⟨_,Lb,?_⟩;cases hr:fx bd[i]with
 |false=>rw[hr]at hI;simp[hI]
 |true=>
  rw[hr]at hI;simp only[ax_]at hI;simp;by_cases h1:bd[i].op=1
  .rw[if_pos h1]at hI;left;exact⟨h1,.mk q rfl aj ⟨a,hI,hq⟩⟩
  rw[if_neg h1]at hI;right;refine⟨h1,?_⟩;by_cases h4:bd[i].op=4
  rotate_left
  .left;refine⟨h4,?_⟩;simp[h4]at hI;simp[hI]
  right;refine⟨h4,?_⟩;obtain⟨t,ts,ht⟩:=nT hr h4
  have hT:cq 4 (iT bd[i].ts) (iI 0)=aa (.agg [iI t.k,iI t.n,iS t.s,iT t.ts]):=by
   have:=nP (l:=bd[i].ts) (i:=0) (by rw[ht];simp);simp only[ht,List.getElem_cons_zero,bL]at this⊢;exact this
  simp only[ht,h4,decide_true,ax_]at hI;simp[hT,ao];by_cases hk:t.k=1
  rotate_left
  .left;refine⟨hk,?_⟩;simp[hk]at hI;simp[hI]
  right;have iu:=OW (O:=[iM q,iI t.n]) (m:=.var 0) (key:=.var 1) (ks:=q) (k:=t.n) rfl rfl;have px:=OY (O:=[iM q,iI t.n]) (m:=.var 0) (key:=.var 1) (ks:=q) (k:=t.n) rfl rfl;have Bp:=OX (O:=[iM q,iI t.n]) (m:=.var 0) (key:=.var 1) (ks:=q) (k:=t.n) rfl rfl;simp[SE.den]at iu px Bp;simp only[iI]at iu px Bp;obtain⟨rj,sQ,vR⟩:=Bp;refine⟨hk,⟨_,px⟩,iB (decide (t.n∈q)),⟨rj,sQ,by rw[vR]⟩,?_⟩;by_cases hm:t.n∈q
  .have SK:=(hq _).1 hm;simp[SK,hk]at hI;simp[hm,hI]
  .have SK:t.n∉a:=λh=>hm ((hq _).2 h);simp[SK,hk]at hI;simp[hm];refine⟨_,iu,.mk _ rfl aj ⟨_,hI,λv=>?_⟩⟩;rw[yJ,hq];simp
def VB(r:Rl)(h:oa r)(hn:qP r)(hf:lY r):CC 101 af [cU r] (iB (jg (rR r) r.bc)):=by
 refine CC.eF apA kr (λ_=>kr) (by intro x hx;obtain rfl:=awo.1 hx;exact jn r) (by rfl) ?_;have zw:=JT r (by have:=h.h;omega);have hl:=h.h;have nX:=hn.hs;have hfA:=hf.hs;have w1:=λ(k0:List IV->Prop) (x1 x2:IV) ks dz=>aml (k0:=k0) (x1:=x1) (x2:=x2) r h hn (rR r) ks dz;have hV:rR r=varsOf (fz (r.aw++r.az)):=rfl;rw[<-awi]at hl;rw[cu]at*
 generalize r.aw++r.az=hs at*
 simp[agW,SE.den,ao];refine⟨_,zw,?_⟩;simp;unfold XK;refine aC hs.length (λi (q:List Int)=>[iI i,iM q]) (λi q=>∀v,v∈q↔v∈eA (fz (hs.take i))) [] ?_ (by simp[fz,eA]) λi q hi hI=>?_
 .simp[SE.den]
 by_cases ak:i<hs.length
 .have hm:=awd ak;have JU:=c46 af hs[i] (nX _ hm) (λt ht=>(hfA _ hm t ht).2)
  have zg:Sm (varsOf hs[i].ts):=by
   have:=(np λt ht=>(hfA _ hm t ht).2).len;unfold Sm;omega
  simp[SE.den,ak,py ak,ao];refine⟨_,JU,?_⟩;simp;refine amk i aj q _ zg λq' rj=>.mk q' rfl aj λv=>?_;rw[rj,hI,F_ ak,lZ,awm,jf]
 .rw[awr aj]at hI;simp[SE.den,ak];exact w1 _ _ _ q λv=>by rw[hI,hV,jf]
end
end
def afz:aq:=
 (js (tW 4) 9 8 1 mK 9 (dV 11 (qG 3 10 nc .an (lG 9 12))) (fZ 3 10))
def afA:aq:=
 (js s_ 10 9 1 sw 10 (gn nc (.lV 0 (IY 3 4 nc .an)) (Z9 3 Cj nc (tQ 12 (lG 6 7) (mU 2 10)))) (pn tZ (Dp 1 8 7 1 (nN 6) (lG 6 11))))
def afB:aq:=
 (tV 1 6 ua 4 (fc 5) 6 (qJ 4 8 204 8 8 8 8 (ja sw 9 afA)) (.ret po))
def afC:aq:=
 (js zQ 3 1 1 cb 3 (dV 5 (j2 203 (y6 0 0 0 1 0 2 0 3 (tR 0 4 0 5 tT)) c9 (.nt dR (lE 2 tT c9 (il 2 7 164 (mJ 7 7) (ja mK 8 afz))) (fZ 3 4)))) (lE 2 tT bZ (jo 2 5 ua afB)))
def ade:aq:=
 (sy 7 (ja bZ 1 afC))
def amm:aQ Tryz.prog (sB [⟨0,160,14,[(0,(12,0)),(0,(52,0))],[(2,0)],[],[]⟩,⟨0,160,3,[(0,(22,0))],[(1,0)],[],[]⟩,⟨0,160,17,[(0,(60,0))],[],[],[]⟩,⟨0,160,7,[(0,(36,0))],[(1,0)],[],[]⟩]) 400 ab 160=ade:=by kernel_rfl
section
def kE(hs:List At)(v:Int):List Tm:=if 0<=v then(match hs[v.toNat]? with
 |some a=>a.ts
 |none=>[])else[]
def lK(hs:List At)(done:List Int):List Tm:=done.flatMap (kE hs)
def Yc(vs:List Int)(t:Tm)(i:Nat):List Int:=if∀v∈varsOf [t],v∈vs then[(i:Int)]else[]
def rS(vs:List Int):List Tm->Nat->List Int
 |[],_=>[]
 |t::ts,i=>Yc vs t i++rS vs ts (i+1)
def p6(hs:List At)(done:List Int)(ts:List Tm):List Int:=rS (varsOf (lK hs done)) ts 0
def ai1{vs:List Int}{ts:List Tm}{i:Nat}(h:i<ts.length):rS vs (ts.drop i) i=Yc vs ts[i] i++rS vs (ts.drop (i+1)) (i+1):=by
 rw[awH h,rS]
def Nb{hs:List At}{done:List Int}{i:Nat}(h:i<done.length):lK hs (done.take (i+1))=lK hs (done.take i)++kE hs done[i]:=by
 rw[awh h];unfold lK;rw[ayO];simp
def afD{hs:List At}{v:Int}(h:∀a∈hs,a.ts.length<=8):(kE hs v).length<=8:=by
 unfold kE;split
 .split
  .rename_i a ha;exact h a (awq ha)
  .simp
 .simp
def yK(hs:List At)(done:List Int)(g:Gl):Bool:=decide (∀v∈varsOf g.ts,v∈varsOf (lK hs done))
def H6(b:Bool)(i:Nat):List Int:=if b then[(i:Int)]else[]
def kX(p:Gl->Bool):List Gl->Nat->List Int
 |[],_=>[]
 |g::gs,i=>H6 (p g) i++kX p gs (i+1)
def ai2{p:Gl->Bool}{gs:List Gl}{i:Nat}(h:i<gs.length):kX p (gs.drop i) i=H6 (p gs[i]) i++kX p (gs.drop (i+1)) (i+1):=by
 rw[awH h,kX]
theorem VC(p:Gl->Bool):∀(gs:List Gl) (i:Nat),(kX p gs i).length<=gs.length
 |[],_=>by simp[kX]
 |g::gs,i=>by
  have:=VC p gs (i+1);simp only[kX,awi,awJ];unfold H6;split<;>simp<;>omega
theorem VD{p:Gl->Bool}{v:Int}:∀(gs:List Gl) (i:Nat),v∈kX p gs i->(i:Int)<=v/\v<i+gs.length
 |[],_,h=>by simp[kX]at h
 |g::gs,i,h=>by
  rw[kX,awm]at h;rw[awJ];rcases h with h|h
  .unfold H6 at h;split at h
   .simp at h;omega
   .simp at h
  .have:=VD gs (i+1) h;omega
def at0(hs:List At)(done:List Int)(k:Nat)(g:Gl):Bool:=yK hs (done.take k) g&& !yK hs (done.take (k- 1)) g
def eH(hs:List At)(gs:List Gl)(done:List Int):List (List Int):=kX (yK hs []) gs 0::(axt done.length).map λk=>kX (at0 hs done (k+1)) gs 0
def eI(hs:List At):List Int->List Int->List (List Int)
 |_,[]=>[]
 |done,v::vs=>p6 hs done (kE hs v)::eI hs (done++[v]) vs
theorem Gc(hs:List At):∀(vs done:List Int),(eI hs done vs).length=vs.length
 |[],_=>rfl
 |v::vs,done=>by rw[eI,awJ,Gc hs vs,awJ]
def pB(hs:List At)(gs:List Gl)(done:List Int):(eH hs gs done).length=done.length+1:=by simp[eH]
def oR(r:Rl)(o:Oc)(order:List Int):Pn:=⟨o,order,eI (r.aw++r.az) [o.h] order,eH (r.aw++r.az) r.aG (o.h::order)⟩
def OZ{a:List (List Int)}{v:List Int}(h:a.length<=100000):dg 1 24 (dr a) (.tree 1 [iL v])=aa (dr (a++[v])):=by
 have h2:fV 1 [iL v]=ab:=rfl;simp[dg,h2];omega
def aqu{L:List Int}{l:Nat}(h1:l<=L.length):pU 1 (iL L) (iI 0) (iI (l:Nat))=aa (iL (L.take l)):=by
 simp[pU,ie,h1,List.map_take]
def afE(r:Rl)(done:List Int):∀x∈[cU r,iL done],Pure x:=by
 intro x hx;rcases aws.1 hx with rfl|hx
 .exact jn r
 obtain rfl:=awo.1 hx;simp
def pC(n:Nat)(order:List Int):Prop:=∀v∈order,0<=v/\v<n
def Gd{i kl n:Nat}{o:Oc}:o∈rM i kl n↔∃m:Nat,m<n/\o=⟨i,(m:Int),decide (m<kl)⟩:=by
 unfold rM;rw[awB];constructor
 .rintro⟨j,hj,rfl⟩;rw[axL]at hj;exact⟨n- 1- j,by omega,rfl⟩
 .rintro⟨m,hm,rfl⟩;refine⟨n- 1- m,by rw[axL];omega,?_⟩;rw[show n- 1-(n- 1- m)=m by omega]
structure H7(p:Pg)(o:Oc)(i m:Nat)(r:Rl):Prop where
 ru:p.aV[i]?=aa r
 or:o.r=i
 oh:o.h=m
 lt:m<(r.aw++r.az).length
 ok:o.k=decide (m<r.aw.length)
def xx{p:Pg}{o:Oc}:o∈occs p.aV↔∃i m r,H7 p o i m r:=by
 unfold occs;rw[List.mem_flatMap];constructor
 .rintro⟨⟨r,i⟩,h1,h2⟩;rw[ayP]at h1;obtain⟨m,hm,rfl⟩:=Gd.1 h2;exact⟨i,m,r,h1,rfl,rfl,by simpa using hm,rfl⟩
 .rintro⟨i,m,r,h⟩;refine⟨(r,i),by rw[ayP];exact h.ru,Gd.2 ⟨m,by simpa using h.lt,?_⟩⟩;obtain⟨a,b,c⟩:=o;have:=h.or;have:=h.oh;have:=h.ok
  simp_all
def parts(n:Nat)(h:Int):List Int:=(jx n).filter (·!=h)
def adf(n:Nat)(h:Int):(parts n h).length<=n:=by
 have:=List.length_filter_le (·!=h) (jx n);rw[oQ]at this;exact this
def rT{n:Nat}{h v:Int}:v∈parts n h↔(0<=v/\v<n)/\v≠h:=by
 unfold parts;rw[List.mem_filter,qe];simp
def CM(n:Nat):(jx n).Nodup:=by
 unfold jx;refine azy _ (λa b b_=>?_) (List.nodup_range (n:=n));exactλhe=>b_ aj
def qf(n:Nat)(h:Int):(parts n h).Nodup:=(CM n).filter _
def qR(n:Nat)(h:Int)(order:List Int):Bool:=decide ((parts n h).length=order.length)&&decide (∀v∈parts n h,v∈order)
theorem Ep:∀(a b:List Int),a.Nodup->(∀v∈a,v∈b)->b.length=a.length->∀v∈b,v∈a
 |[],b,_,_,hl,v,hv=>by
  rw[awG hl]at hv;cases hv
 |x::a,b,hn,hs,hl,v,hv=>by
  obtain⟨b1,b2,rfl⟩:=azB (hs x ay);have oX:=axi.1 hn
  have ih:=Ep a (b1++b2) oX.2 (λu hu=>by
   have:=hs u (awI _ hu);rw[awm,aws]at this;rw[awm];rcases this with h|rfl|h
   .exact .inl h
   .exact absurd hu oX.1
   .exact .inr h) (by simp at hl⊢;omega)
  rw[awm,aws]at hv;rcases hv with h|rfl|h
  .exact awI _ (ih v (aw3 _ h))
  .simp
  .exact awI _ (ih v (axg _ h))
def Jg{n:Nat}{h:Int}{order:List Int}(hp:qR n h order=ab):pC n order/\order.length<=n:=by
 unfold qR at hp;rw[awb,decide_eq_true_eq,decide_eq_true_eq]at hp;refine⟨λv hv=>(rT.1 (Ep _ _ (qf n h) hp.2 hp.1.symm v hv)).1,?_⟩;rw[<-hp.1];exact adf n h
def Er(p:Pg)(x:Pn):Bool:=decide (x.o∈occs p.aV)&&match p.aV[x.o.r.toNat]? with
 |none=>af
 |some r=>qR (r.aw++r.az).length x.o.h x.aJ&&decide (x=oR r x.o x.aJ)
def CN{p:Pg}{x:Pn}{i m:Nat}{r:Rl}(h:H7 p x.o i m r):Er p x=(qR (r.aw++r.az).length m x.aJ&&decide (x=oR r x.o x.aJ)):=by
 have hr:p.aV[x.o.r.toNat]?=aa r:=by rw[h.or];exact h.ru
 unfold Er;rw[decide_eq_true (xx.2 ⟨i,m,r,h⟩),hr,h.oh];rfl
def ai3(p:Pg)(x:Pn):∀y∈[bn p,cD x],Pure y:=by
 intro y hy;rcases aws.1 hy with rfl|hy
 .exact dN p
 obtain rfl:=awo.1 hy;exact yI x
end
def adg:List Nat:=[256,203,160,91,216,175,240,266,11,15,31,24,25,7,69,8,5,13,14,257,72,26,71,137,70,139,210,225,145,183,75,76,111,65,112,136,186,140,184,248,224,211,170,138,249,185,9,28,27,143,77,142,141,74,144,73,146,78,18,39,16,82,44,150,188,189,29,79,80,149,187,147,10,148,30,38,104,83,84,81,168,103,62,108,42,169,107,106,45,64,63,135,110,46,66,21,12,20,23,105,40,43,41,113,171,215,174,161,182,52,222,123,181,223,48,98,97,116,115,268,192,154,227,87,33,51,212,94,47,114,32,85,155,233,199,101,50,49,117,164,230,194,166,204,202,99,86,95,93,156,162,280]
def amn:List Nat:=adg.filter (·!=91)
def adh:List Nat:=[34,35,36,37,89,100,109,151,190,234]
def adi:List Nat:=[235,236,237,238,239,241,242]
def ahs:List Nat:=[185,247,209,173000151,500195,500196,500040,500041,500043,500082,500140,256]
def jv(l:List Hint):fe:=⟨adg,adh,adi,l++[⟨999997,0,0,[],[],[],[]⟩,⟨999999,0,0,[],[],[],[]⟩],ahs⟩
def aht(l:List Hint):fe:=⟨amn,adh,adi,l++[⟨999997,0,0,[],[],[],[]⟩,⟨999999,0,0,[],[],[],[]⟩],ahs⟩
def aax(n:Nat):aq:=
 (.loop (.ac (.var (n+4)) (.ac (.var (n+5)) .an))
 (.aE (.ok (.bin .gtr 3 (.var (n+6)) (.i 0)))
 (.test (.ok (.bin .gtr 3 (.var (n+6)) (.i 0)))
 (.aE (.idx 1 (.var (n+7)) (.var (n+6)))
 (.aE (.ok (.bin .sub 3 (.var (n+6)) (.i 1)))
 (.aE (.idx 1 (.var (n+7)) (.ok (.bin .sub 3 (.var (n+6)) (.i 1))))
 (.call 240 ab (.ac (.oY 1 (.var (n+7)) (.var (n+6)) 0) (.ac (.oY 1 (.var (n+7)) (.ok (.bin .sub 3 (.var (n+6)) (.i 1))) 0) .an))
 (.aE (.ok (.var (n+8)))
 (.test (.ok (.var (n+8)))
 (.aE (.ok (.bin .sub 3 (.var (n+6)) (.i 1)))
 (.aE (.ok (.bin .sub 3 (.var (n+6)) (.i 1)))
 (.aE (.idx 1 (.var (n+7)) (.ok (.bin .sub 3 (.var (n+6)) (.i 1))))
 (.aE (.idx 1 (.var (n+7)) (.var (n+6)))
 (.aE (.idx 1 (.var (n+7)) (.var (n+6)))
 (.bind (.yV 1 (.var (n+7)) (.var (n+6)) (.oY 1 (.var (n+7)) (.ok (.bin .sub 3 (.var (n+6)) (.i 1))) 0))
 (.aE (.idx 1 (.var (n+9)) (.ok (.bin .sub 3 (.var (n+6)) (.i 1))))
 (.bind (.yV 1 (.var (n+9)) (.ok (.bin .sub 3 (.var (n+6)) (.i 1))) (.oY 1 (.var (n+7)) (.var (n+6)) 0))
 (.aE (.ok (.bin .sub 3 (.var (n+6)) (.i 1)))
 (.next 5 (.ac (.ok (.bin .sub 3 (.var (n+6)) (.i 1))) (.ac (.var (n+10)) .an))))))))))))
 (.aE (.ok (.bin .add 3 (.var (n+4)) (.i 1)))
 (.next 4 (.ac (.ok (.bin .add 3 (.var (n+4)) (.i 1))) (.ac (.var (n+7)) .an))))))))))
 (.aE (.ok (.bin .add 3 (.var (n+4)) (.i 1)))
 (.next 4 (.ac (.ok (.bin .add 3 (.var (n+4)) (.i 1))) (.ac (.var (n+7)) .an)))))))
def aay(n:Nat):aq:=
 (.loop (.ac (.i 1) (.ac (.var (n+2)) .an))
 (.aE (.ok (.bin .lss 3 (.var (n+4)) (.len (.var (n+2)))))
 (.test (.ok (.bin .lss 3 (.var (n+4)) (.len (.var (n+2)))))
 (aax n)
 (.next 3 (.ac (.var (n+5)) .an)))))
def ahu(n:Nat):aq:=
 (.tG
 (aay n) 1
 (.next 0 (.ac (.var (n+4)) .an)))
def ahv(n:Nat):aq:=
 (.loop .an
 (.aE (.ok (.bin .sub 3 (.len (.var (n+2))) (.i 0)))
 (.aE (.ok (.bin .leq 3 (.ok (.bin .sub 3 (.len (.var (n+2))) (.i 0))) (.i 12)))
 (.test (.ok (.bin .leq 3 (.ok (.bin .sub 3 (.len (.var (n+2))) (.i 0))) (.i 12)))
 (ahu n)
 (.aE (.ok (.bin .eql 3 (.ok (.var (n+3))) (.i 0)))
 (.test (.ok (.bin .eql 3 (.ok (.var (n+3))) (.i 0)))
 (.fail 119)
 (.fail 119)))))))
def R5(n:Nat):aq:=
 (.loop (.ac (.i 0) (.ac (.tr 1 .an) .an))
 (.aE (.ok (.bin .lss 3 (.var (n+1)) (.len (.var n))))
 (.test (.ok (.bin .lss 3 (.var (n+1)) (.len (.var n))))
 (.aE (.idx 1 (.var n) (.var (n+1)))
 (.bind (.cat 1 8 (.var (n+2)) (.tr 1 (.ac (.oY 1 (.var n) (.var (n+1)) 0) .an)))
 (.aE (.ok (.bin .add 3 (.var (n+1)) (.i 1)))
 (.next 1 (.ac (.ok (.bin .add 3 (.var (n+1)) (.i 1))) (.ac (.var (n+3)) .an))))))
 (.aE (.len (.var (n+2)))
 (.aE (.ok (.cv 3 33 (.len (.var (n+2)))))
 (.call 202 af (.ac (.ok (.cv 3 33 (.len (.var (n+2))))) .an)
 (.aE (.ok (.var (n+3)))
 (ahv n))))))))
def aaz(n:Nat):aq:=
 (.loop (.ac (.i 0) .an)
 (.aE (.ok (.bin .lss 3 (.var (n+13)) (.len (.aO (.var 1) 5))))
 (.test (.ok (.bin .lss 3 (.var (n+13)) (.len (.aO (.var 1) 5))))
 (.bind (.idx 1 (.aO (.var 1) 5) (.var (n+13)))
 (.aE (.ok (.var (n+14)))
 (.bind (.idx 1 (.ok (.var (n+11))) (.var (n+13)))
 (.aE (.ok (.var (n+15)))
 (.call 93 af (.ac (.ok (.var (n+14))) (.ac (.ok (.var (n+15))) .an))
 (.aE (.ok (.var (n+16)))
 (.aE (.ok (.un .not (.ok (.var (n+16)))))
 (.test (.ok (.un .not (.ok (.var (n+16)))))
 (.ret (.b af))
 (.aE (.ok (.bin .add 3 (.var (n+13)) (.i 1)))
 (.next 3 (.ac (.ok (.bin .add 3 (.var (n+13)) (.i 1))) .an)))))))))))
 (.ret (.b ab)))))
def aaA(n:Nat):aq:=
 (.loop (.ac (.i 0) .an)
 (.aE (.ok (.bin .lss 3 (.var (n+12)) (.len (.aO (.var 1) 4))))
 (.test (.ok (.bin .lss 3 (.var (n+12)) (.len (.aO (.var 1) 4))))
 (.bind (.idx 1 (.aO (.var 1) 4) (.var (n+12)))
 (.aE (.ok (.var (n+13)))
 (.aE (.idx 1 (.var (n+10)) (.var (n+12)))
 (.call 93 ab (.ac (.ok (.var (n+13))) (.ac (.oY 1 (.var (n+10)) (.var (n+12)) 0) .an))
 (.aE (.ok (.var (n+14)))
 (.aE (.ok (.un .not (.ok (.var (n+14)))))
 (.test (.ok (.un .not (.ok (.var (n+14)))))
 (.ret (.b af))
 (.aE (.ok (.bin .add 3 (.var (n+12)) (.i 1)))
 (.next 2 (.ac (.ok (.bin .add 3 (.var (n+12)) (.i 1))) .an))))))))))
 (.aE (.len (.aO (.var 1) 5))
 (.aE (.len (.ok (.var (n+11))))
 (.aE (.ok (.bin .neq 3 (.len (.aO (.var 1) 5)) (.len (.ok (.var (n+11))))))
 (.test (.ok (.bin .neq 3 (.len (.aO (.var 1) 5)) (.len (.ok (.var (n+11))))))
 (.ret (.b af))
 (.aE (.len (.aO (.var 1) 5))
 (aaz n)))))))))
def aaB(n:Nat)(A:SE->SE)(H:SE):aq:=
 (.loop (.ac (.i 0) (.ac (.aO (.var 1) 0) (.ac (.aO (.var 1) 1) (.ac (.tr 1 (.ac (.aO (.var 1) 1) .an)) (.ac (.tr 1 .an) .an)))))
 (.aE (.ok (.bin .lss 3 (.var (n+6)) (.len (.aO (.var 1) 3))))
 (.test (.ok (.bin .lss 3 (.var (n+6)) (.len (.aO (.var 1) 3))))
 (.bind (.idx 1 (.aO (.var 1) 3) (.var (n+6)))
 (.aE (.ok (.var (n+11)))
 (.call 160 ab (.ac (A (.ac H .an)) (.ac (.var (n+9)) (.ac (.ok (.var (n+11))) .an)))
 (.aE (.ok (.var (n+12)))
 (.bind (.cat 1 24 (.var (n+10)) (.tr 1 (.ac (.ok (.var (n+12))) .an)))
 (.aE (.rw (.ok (.var (n+11))))
 (.bind (.cat 1 8 (.var (n+9)) (.tr 1 (.ac (.ok (.var (n+11))) .an)))
 (.aE (.ok (.bin .add 3 (.var (n+6)) (.i 1)))
 (.next 1 (.ac (.ok (.bin .add 3 (.var (n+6)) (.i 1))) (.ac (.var (n+7)) (.ac (.var (n+8)) (.ac (.var (n+14)) (.ac (.var (n+13)) .an))))))))))))))
 (.call 161 ab (.ac (A .an) (.ac (.var (n+9)) .an))
 (.aE (.ok (.var (n+11)))
 (.aE (.len (.aO (.var 1) 4))
 (.aE (.len (.var (n+10)))
 (.aE (.ok (.bin .neq 3 (.len (.aO (.var 1) 4)) (.len (.var (n+10)))))
 (.test (.ok (.bin .neq 3 (.len (.aO (.var 1) 4)) (.len (.var (n+10)))))
 (.ret (.b af))
 (.aE (.len (.aO (.var 1) 4))
 (aaA n)))))))))))
def R6(n:Nat)(A:SE->SE)(H:SE):aq:=
 (.loop (.ac (.i 0) (.ac (.len (.var (n+1))) (.ac (.len (.var (n+1))) (.ac (.var (n+1)) .an))))
 (.aE (.ok (.bin .lss 3 (.var (n+2)) (.var (n+3))))
 (.test (.ok (.bin .lss 3 (.var (n+2)) (.var (n+3))))
 (.aE (.idx 1 (.var (n+5)) (.var (n+2)))
 (.aE (.ok (.bin .neq 3 (.oY 1 (.var (n+5)) (.var (n+2)) 0) (.var (n+2))))
 (.test (.ok (.bin .neq 3 (.oY 1 (.var (n+5)) (.var (n+2)) 0) (.var (n+2))))
 (.ret (.b af))
 (.aE (.ok (.bin .add 3 (.var (n+2)) (.i 1)))
 (.next 0 (.ac (.ok (.bin .add 3 (.var (n+2)) (.i 1))) (.ac (.var (n+3)) (.ac (.var (n+4)) (.ac (.var (n+5)) .an)))))))))
 (.aE (.rw (.aO (.var 1) 1))
 (.aE (.len (.aO (.var 1) 3))
 (aaB n A H))))))
def aaC(t:SE):SE:=.ac (.aO (.var 4) 0) (.ac (.aO (.var 4) 1) (.ac (.aO (.var 4) 2) (.ac (.aO (.var 4) 3) (.ac (.aO (.var 4) 4) (.ac (.aO (.var 4) 5) t)))))
def adj:aq:=
 (.tG (FF 4 (R5 4)) 1 (Cp Cq .neq Cq bF (FF 5 (R6 4 (λt=>.ac (.s []) (.ac (.tr 2 .an) (.ac (.tr 2 .an) (.ac (.tr 3 .an) (.ac (.tr 3 .an) (.ac (.i 0) t)))))) (.tr 2 .an)))))
def O0:aq:=
 (.tG (FF 7 (R5 7)) 1 (FF 8 (gz m_ .neq (tb 8) m_ bF (FF 8 (R6 7 aaC (.ok (.var 6)))))))
def amo:aq:=
 (jo 2 0 (uF 6 1) (kO 87 gS 2 (j2 86 bZ (pw 1 1 1) (uJ dG dG (oN .lss 1 0 0 (IX xN (.rws xR) (KJ 1 8 (.tr 1 (fX xN)) xR adj)) (gz fP .geq zX fP (IX xN (.rws xR) (KJ 1 8 (.tr 1 (fX xN)) xR adj)) (xQ 6 fS zX 6 4 (lE 6 fS zX (wi 6 5 33 5 5 5 5 5 5 (FU dR (.rw xN) (.rws xR) (KJ 1 8 (.tr 1 (fX xN)) xR O0)))))))))))
def at1:aQ Tryz.prog (aht [⟨1,32062,4,[(1,(17,0))],[],[],[]⟩,⟨1,32057,4,[(1,(19,0))],[(16,3),(16,0),(14,1),(14,0),(13,4),(13,1),(13,0),(12,4)],[(1,16)],[]⟩,⟨3,32034008011,1000027,[],[(9,0)],[],[]⟩,⟨0,32,8,[(0,(35,0)),(0,(41,0)),(0,(42,0))],[(9,0)],[],[]⟩,⟨0,32,1000033,[],[(9,0)],[],[]⟩,⟨4,32034008011028,1,[(4,(6,0))],[(9,0)],[],[]⟩,⟨4,32034008011028,4,[(4,(7,0))],[(9,0)],[],[]⟩,⟨5,32034006005804000,1,[(5,(7,0))],[(9,0),(7,0)],[],[]⟩,⟨1,32068,4,[(1,(17,0))],[],[],[]⟩]) 400 af 32=amo:=by kernel_rfl
def ahw:aq:=
 (fR 7 0 (Cp cb .geq cb (Z4 (.nr (pY .lss 3 cb (FC 6)))) bF))
def aqv:aQ Tryz.prog (sB []) 400 af 203=ahw:=by kernel_rfl
def ahx:aq:=
 (sf (mv 266 bA (.nt bZ (v_ 266 cb dG dG kV (.nr (pY .lss 3 bA cb))) (.nr (pY .lss 3 bA cb)))))
def aqw:aQ Tryz.prog (sB []) 400 af 240=ahx:=by kernel_rfl
def amp:aq:=
 (tS (uF 3 1) (j2 156 bA (pw 1 1 1) (dV 2 (.nr (sj .geq bZ 0)))))
def at2:aQ Tryz.prog (sB []) 400 af 86=amp:=by kernel_rfl
section
def uP(r:Rl)(hs:List At):IV:=.agg [iS r.name,c_ r.aw,c_ r.az,gK r.aG,gK r.bc,iI r.vars,c_ hs]
def CO(r:Rl)(hs:List At):Pure (uP r hs):=.agg _ ay
def aar(r:Rl)(hs:List At)(v:Int):CC 203 af [uP r hs,iI v] (iB (decide (0<=v/\v<hs.length))):=by
 refine CC.eF aqv kr (λ_=>kr) (by intro x hx;rcases aws.1 hx with rfl|hx;exact CO r hs;obtain rfl:=awo.1 hx;simp) (by rfl) ?_;simp[ahw,uP,SE.den,ao];by_cases h:0<=v
 .simp[h]
 .right;refine⟨by omega,?_⟩;simp[h]
section
variable{Q:IV->Prop}{k0 k1:List IV->Prop}{x0 x1 x2 x3 x5 x6 x7:IV}
def amq(i:Nat)(hi:i<1000)(ks l:List Int)(hl:Sm l)(hk:∀q,(∀v,v∈q↔v∈ks\/v∈l)->k0 [iI (i+1:Nat),iM q]):OA.sat Tryz.prog CC Q [k0] [x0,x1,x2,iI i,iM ks,x5,x6,x7,iL l]:=by
 have kh:=aI hi aj;unfold OA;refine aC l.length (λj (q:List Int)=>[iI j,iM q]) (λj q=>∀v,v∈q↔v∈ks\/v∈l.take j) ks ?_ ay λj q hj hI=>?_
 .simp[SE.den]
 by_cases ak:j<l.length
 .have hw:=aI ak hl;have iu:=OW (O:=[iM q,iI l[j]]) (m:=.var 0) (key:=.var 1) (ks:=q) (k:=l[j]) rfl rfl;simp[SE.den]at iu;simp only[iI]at iu;simp[SE.den,ak,hw,lI ak,ao];refine⟨_,iu,.mk _ rfl aj λv=>?_⟩;rw[yJ,hI,awh ak,awm,awo,or_assoc]
 .simp[SE.den,ak,kh];rw[awr aj]at hI;exact hk q hI
def amr(ks vs l:List Int)(dz:∀v,v∈ks↔v∈vs)(hl:Sm l)(i:Nat)(hi:i<1000)(out:List Int)(ho:out.length<=i)(x8:IV)
 (hy:(∀v∈l,v∈vs)->k1 [iI (i+1:Nat),iL (out++[(i:Int)])])(hn:(¬∀v∈l,v∈vs)->k1 [iI (i+1:Nat),iL out]):
 OB.sat Tryz.prog CC Q [k0,k1] [x0,x1,x2,x3,iM ks,x5,iI i,iL out,x8,iL l]:=by
 have kh:=aI hi aj;unfold OB;refine aC l.length (λj (_:Unit)=>[iI j]) (λj _=>∀v∈l.take j,v∈vs) () ?_ ay λj _ hj hI=>?_
 .simp[SE.den]
 by_cases ak:j<l.length
 .have hw:=aI ak hl;have px:=OY (O:=[iM ks,iI l[j]]) (m:=.var 0) (key:=.var 1) (ks:=ks) (k:=l[j]) rfl rfl;have Bp:=OX (O:=[iM ks,iI l[j]]) (m:=.var 0) (key:=.var 1) (ks:=ks) (k:=l[j]) rfl rfl;simp[SE.den]at px Bp;simp only[iI]at px Bp;obtain⟨hq,sQ,vR⟩:=Bp;simp[SE.den,ak,hw,kh,lI ak,ao];refine⟨⟨_,px⟩,iB (decide (l[j]∈ks)),⟨hq,sQ,by rw[vR]⟩,?_⟩;by_cases z:l[j]∈ks
  .simp[z];exact .mk () rfl aj (cI ak hI ((dz _).1 z))
  .simp[z];exact hn λh=>z ((dz _).2 (h _ (awd ak)))
 .have bS:=dq ak hI;simp[SE.den,ak,kh,aN,cellsOf,Bo (show out.length<=100000000 by omega)];exact hy bS
def ams(x0:IV)(a:At)(ey:a.ts.length<=8)(hn:∀t∈a.ts,lX t)(hf:∀t∈a.ts,dM t)(vs ks:List Int)(dz:∀v,v∈ks↔v∈vs)(hQ:Q (iL (rS vs a.ts 0))):
 OC.sat Tryz.prog CC Q [k0] [x0,x1,x2,x3,iM ks,.agg [iS a.s,iT a.ts]]:=by
 unfold OC;refine aC a.ts.length (λi (out:List Int)=>[iI i,iL out]) (λi out=>out++rS vs (a.ts.drop i) i=rS vs a.ts 0/\out.length<=i) [] ?_ ay λi out hi hI=>?_
 .simp[SE.den]
 obtain⟨hI,DK⟩:=hI;by_cases ak:i<a.ts.length
 .have h88:=c88 af a.ts[i] (hn _ (awd ak)) (hf _ (awd ak));have hl:=(np λt ht=>by rw[awo.1 ht];exact hf _ (awd ak):Vr (varsOf [a.ts[i]])).len;rw[ai1 ak]at hI;rw[bL]at h88;simp[SE.den,ak,nP ak,bL,ao];refine⟨_,h88,?_⟩;simp;refine amr ks vs _ dz (by unfold Sm;omega) i aj out DK _ (λhm=>?_) λhm=>?_
  .rw[Yc,if_pos hm]at hI;exact .mk (out++[(i:Int)]) rfl aj ⟨by rw[<-hI];simp,by simp;omega⟩
  .rw[Yc,if_neg hm]at hI;exact .mk out rfl aj ⟨by rw[<-hI];simp,by omega⟩
 .rw[awY aj,rS,aww]at hI;simp[SE.den,ak,hI];exact hQ
end
def adk:ade=RR:=by rfl
def amt(r:Rl)(hs:List At)(hl:hs.length<=3)(ey:∀a∈hs,a.ts.length<=8)(eN:∀a∈hs,pZ a)(hf:∀a∈hs,∀t∈a.ts,WF t)(done:List Int)(hd:done.length<=100)(n:Nat)(a:At)(ha:hs[n]?=aa a):
 RR.sat Tryz.prog CC (y8 (·=p6 hs done a.ts)) [] [uP r hs,iL done,iI n]:=by
 have dD:=awq ha;obtain⟨hn,Vz⟩:=awa.1 ha;have hAn:=py hn;rw[Vz]at hAn;have Vq:=aar r hs;simp only[uP]at*
 simp[RR,SE.den,ao];unfold XI;refine aC done.length (λi (q:List Int)=>[iI i,iM q]) (λi q=>∀v,v∈q↔v∈eA (lK hs (done.take i))) [] ?_ (by simp[lK,eA]) λi q hi hI=>?_
 .simp[SE.den]
 by_cases ak:i<done.length
 .have hw:=aI ak aj;have cy:=Nb (hs:=hs) ak;simp[SE.den,ak,hw,lI ak,ao];refine⟨_,Vq _,?_⟩;by_cases z:0<=done[i]/\done[i]<hs.length
  rotate_left
  .rw[decide_eq_false z];simp;refine .mk q rfl aj λv=>?_;rw[hI,cy]
   have:kE hs done[i]=[]:=by
    unfold kE;split
    .rw[ayd aj]
    .rfl
   rw[this,aww]
  rw[decide_eq_true z];have xu:done[i]=((done[i].toNat:Nat):Int):=aj;have dY:done[i].toNat<hs.length:=aj;have hA:=py dY;rw[<-xu]at hA;have hm:=awd dY;have JU:=c46 af hs[done[i].toNat] (eN _ hm) (λt ht=>(hf _ hm t ht).2)
  have zg:Sm (varsOf hs[done[i].toNat].ts):=by
   have:=(np λt ht=>(hf _ hm t ht).2).len;unfold Sm;omega
  have sQ:kE hs done[i]=hs[done[i].toNat].ts:=by
   simp only[kE,if_pos z.1];rw[av_ dY]
  simp[hA,ao];refine⟨_,JU,?_⟩;simp;refine amq i aj q _ zg λq' rj=>.mk q' rfl aj λv=>?_;rw[rj,hI,cy,lZ,awm,sQ,jf]
 .rw[awr aj]at hI;simp[SE.den,ak,hAn,ao];refine ams _ a (ey a dD) (eN a dD).2.2 (λt ht=>(hf a dD t ht).2) (varsOf (lK hs done)) q (λv=>by rw[hI,jf]) ?_;rw[Av,p6]
def afF(new:Bool)(r:Rl)(hs:List At)(hl:hs.length<=3)(ey:∀a∈hs,a.ts.length<=8)(eN:∀a∈hs,pZ a)(hf:∀a∈hs,∀t∈a.ts,WF t)(done:List Int)(hd:done.length<=100)(n:Nat)(a:At)(ha:hs[n]?=aa a):
 CC 160 new [uP r hs,iL done,iI n] (iL (p6 hs done a.ts)):=by
 have hp:∀x∈[uP r hs,iL done,iI n],Pure x:=by
  intro x hx;rcases aws.1 hx with rfl|hx
  .exact CO r hs
  rcases aws.1 hx with rfl|hx
  .simp
  obtain rfl:=awo.1 hx;simp
 cases new with
 |false=>exact CC.CI apx kr (λ_=>kr) hp (by rfl) (amt r hs hl ey eN hf done hd n a ha)
 |true=>exact CC.CI amm kr (λ_=>kr) hp (by rfl) (adk▸amt r hs hl ey eN hf done hd n a ha)
end
def H8(k:Int):IV:=.aF [iI k,iB ab]
abbrev qS(ks:List Int):IV:=.aF (ks.map H8)
theorem Q2:∀ks:List Int,mf (ks.map H8)=aa (ks.map (axQ .i64))
 |[]=>rfl
 |k::ks=>by simp[mf,H8,Ev.keyOf,Q2 ks]
def Ge(ks:List Int)(k:Int):(k∈ks->∃i,eZ Tryz.prog 3 (ks.map H8) (iI k)=aa (aa i)/\ks[i]?=aa k)/\(k∉ks->eZ Tryz.prog 3 (ks.map H8) (iI k)=aa ah):=by
 have h:eZ Tryz.prog 3 (ks.map H8) (iI k)=nowAt (.int .i64) (.int .i64 k) (ks.map (axQ .i64)) 0:=by
  unfold eZ;rw[Q2];simp[xf,U7,Ev.keyOf]
 rw[h];have:=Gb k ks 0;simpa using this
def VE{O:List IV}{m key:SE}{ks:List Int}{k:Int}(h1:m.den Tryz.prog O=aa (qS ks))(h2:key.den Tryz.prog O=aa (iI k)):(SE.ins 3 m key (.b ab)).den Tryz.prog O=aa (qS (Dz ks k)):=by
 simp only[SE.den,h1,h2,awc];by_cases hm:k∈ks
 .obtain⟨i,g1,g2⟩:=(Ge ks k).1 hm;rw[g1];simp only[Dz,if_pos hm];rw[Lc];rw[awu,g2];rfl
 .rw[(Ge ks k).2 hm];simp[Dz,if_neg hm,H8]
def VF{O:List IV}{m key:SE}{ks:List Int}{k:Int}(h1:m.den Tryz.prog O=aa (qS ks))(h2:key.den Tryz.prog O=aa (iI k)):(SE.get 3 m key (.b af)).den Tryz.prog O=aa (iB (decide (k∈ks))):=by
 simp only[SE.den,h1,h2,awc];by_cases hm:k∈ks
 .obtain⟨i,g1,g2⟩:=(Ge ks k).1 hm;rw[g1];simp[g2,H8,hm]
 .rw[(Ge ks k).2 hm];simp[hm]
abbrev CP(l:List Bool):IV:=.tree 1 (l.map iB)
def amu{l:List Bool}{i:Nat}(h:i<l.length):cq 1 (CP l) (iI (i:Nat))=aa (iB l[i]):=cP (by simp[h]) rfl
def aqx{l:List Bool}{i:Nat}(b:Bool)(h:i<l.length):yz 1 (CP l) (iI (i:Nat)) (iB b)=aa (CP (l.set i b)):=by
 simp[yz,ie,h,cellsOf,aAo]
def pD(hs:List At)(done:List Int)(k:Nat)(g:Gl):Bool:=yK hs (done.take k) g
def tq(hs:List At)(done:List Int)(k:Nat)(g:Gl):Bool:=if k=0 then af else pD hs done (k- 1) g
def Bq(hs:List At)(done:List Int)(k:Nat)(g:Gl):Bool:=pD hs done k g&& !tq hs done k g
def aaD{hs:List At}{done:List Int}{j k:Nat}(h:j<=k):∀v∈varsOf (lK hs (done.take j)),v∈varsOf (lK hs (done.take k)):=by
 intro v hv;rw[jf]at*
 have:done.take k=done.take j++(done.take k).drop j:=by
  have:=axn j (done.take k);rw[List.take_take,azg h]at this;exact this.symm
 rw[this];unfold lK at*
 rw[ayO,lZ,awm];exact .inl hv
def Yd{hs:List At}{done:List Int}{k:Nat}{g:Gl}(h:tq hs done k g=ab):pD hs done k g=ab:=by
 unfold tq at h;split at h
 .cases h
 .unfold pD yK at*
  rw[decide_eq_true_eq]at*
  exactλv hv=>aaD aj v (h v hv)
def Q3{hs:List At}{gs:List Gl}{done:List Int}{k:Nat}(h:k<(eH hs gs done).length):(eH hs gs done)[k]=kX (Bq hs done k) gs 0:=by
 cases k with
 |zero=>
  show kX (yK hs []) gs 0=_
  congr 1
  funext g;simp[Bq,tq,pD]
 |succ k=>simp[eH];rfl
def Br(f g:Gl->Bool)(gs:List Gl)(i:Nat):List Bool:=(gs.take i).map f++(gs.drop i).map g
def Ye(f g:Gl->Bool)(gs:List Gl)(i:Nat):(Br f g gs i).length=gs.length:=by
 simp[Br];omega
def amv{f g:Gl->Bool}{gs:List Gl}{i:Nat}(h:i<gs.length):(Br f g gs i)[i]'(by rw[Ye];exact h)=g gs[i]:=by
 unfold Br;rw[List.getElem_append_right (by simp;omega)];simp[azg (aBD h)]
def ai4{f g:Gl->Bool}{gs:List Gl}{i:Nat}(h:i<gs.length):(Br f g gs i).set i (f gs[i])=Br f g gs (i+1):=by
 unfold Br;have hz:i-((gs.take i).map f).length=0:=by rw[aw0,axe];omega
 rw[awH h,awh h,awZ,axw,ay7 _ _ (by rw[aw0,axe];omega),hz,List.set_cons_zero];simp only[awZ,ayf,awv,azc]
def afG{f g:Gl->Bool}{gs:List Gl}{i:Nat}(h:i<gs.length)(he:f gs[i]=g gs[i]):Br f g gs i=Br f g gs (i+1):=by
 unfold Br;rw[awH h,awh h,awZ,axw];simp only[awZ,ayf,awv,azc,he]
def aaE(ks vs:List Int):Bool:=decide (∀v∈vs,v∈ks)
def amw{ks vs:List Int}(h:∀v∈vs,v∈ks):aaE ks vs=ab:=decide_eq_true h
def amx{ks vs:List Int}(h:¬∀v∈vs,v∈ks):aaE ks vs=af:=decide_eq_false h
def ai5{hs:List At}{done:List Int}{k:Nat}{g:Gl}{ks:List Int}(dz:∀v,v∈ks↔v∈varsOf (lK hs (done.take k))):pD hs done k g=aaE ks (varsOf g.ts):=by
 unfold pD yK aaE;rw[decide_eq_decide];exact⟨λh v hv=>(dz v).2 (h v hv),λh v hv=>(dz v).1 (h v hv)⟩
def aqy:List Nat:=[203,160,216,175,240,266,11,31,24,25,7,69,8,13,14,257,72,26,71,137,70,139,210,225,145,183,75,76,111,65,112,136,186,140,184,248,224,211,170,138,249,185,9,28,27,143,77,142,141,74,144,73,146,78,18,39,16,82,44,150,188,189,29,79,80,149,187,147,10,148,30,38,104,83,84,81,168,103,62,108,42,169,107,106,45,64,63,135,110,46,66,21,12,20,23,105,40,43,41,113,171,215,174,161,48,98,97,116,115,268,192,154,227,87,33,51,212,94,47,114,32,85,155,233,199,101,50,49,164,230,194,166,204,202,99,86,95,93,156,162,280]
def at3:List Nat:=[34,35,36,37,89,100,151,190,234]
def at4:List Nat:=[235,236,237,238,239,241,242]
def at5:List Nat:=[185,247,209,173000151,500195,500196,500040,500041,500043,500082,500140]
def ahy(l:List Hint):fe:=⟨aqy,at3,at4,l++[⟨999997,0,0,[],[],[],[]⟩,⟨999999,0,0,[],[],[],[]⟩],at5⟩
def ahz:aq:=
 (Co (.nr (pY .neq 3 bA bA)))
def aqz:aQ Tryz.prog (ahy []) 400 af 266=ahz:=by kernel_rfl
def Yf:aq:=
 (nf 2 dE 3 bA 2 (tX 3 3 28 (pw 1 1 1) (pw 3 3 3) Ci xM) I4)
def ahA:aq:=
 (tS (uF 3 1) (.aE dE Yf))
def aqA:aQ Tryz.prog (ahy [⟨0,156,2,[(0,(8,0))],[],[],[]⟩]) 400 af 156=ahA:=by kernel_rfl
end Go.Proofs.YtabefplkfkfdfaaGreat
namespace Go.Ev
open Go.RowKit
section
variable{P:Program}
def av7(r:Option (IV×St)):Bool:=
 match r with
 |some (.raw (.bool ab),_)=>ab
 |_=>af
def aaF:Value->Value->Bool
 |.int k n,.int k' n'=>decide (k=k')&&decide (n=n')
 |.bool a,.bool b=>a==b
 |.string a,.string b=>decide (a=b)
 |_,_=>af
def afH{a b:Value}(h:aaF a b=ab):a=b:=by
 unfold aaF at h;split at h
 .simp only[awb,decide_eq_true_eq]at h;rw[h.1,h.2]
 .rw[beq_iff_eq]at h;rw[h]
 .rw[decide_eq_true_eq]at h;rw[h]
 .cases h
def H9(p:IV->IV->Bool):List IV->List IV->Bool
 |[],[]=>ab
 |a::as_,b::bs=>p a b&&H9 p as_ bs
 |_,_=>af
theorem Ae{p:IV->IV->Bool}:∀{as_ bs:List IV},H9 p as_ bs=ab->as_.length=bs.length/\∀(i:Nat) a b,as_[i]?=aa a->bs[i]?=aa b->p a b=ab
 |[],[],_=>⟨rfl,λi a b h=>by simp at h⟩
 |a::as_,b::bs,h=>by
  simp only[H9,awb]at h;obtain⟨h1,h2⟩:=Ae h.2;refine⟨by simp[h1],λi=>?_⟩;cases i with
  |zero=>intro a' b' e1 e2;simp at e1 e2;subst e1 e2;exact h.1
  |succ i=>intro a' b' e1 e2;simp at e1 e2;exact h2 i a' b' e1 e2
 |[],_::_,h=>by simp[H9]at h
 |_::_,[],h=>by simp[H9]at h
def H_(G:St):Nat->IV->IV->Bool
 |0,_,_=>af
 |f+1,x,z=>
  match z with
  |.raw u=>match x with
   |.raw v=>aaF v u
   |_=>af
  |.agg ds=>match x with
   |.agg cs=>H9 (H_ G f) cs ds
   |_=>af
  |.aF ds=>match x with
   |.aF cs=>H9 (H_ G f) cs ds
   |_=>af
  |.tree s es=>match x with
   |.raw (.slice ah l c)=>es.isEmpty&&Nat.blt 0 s&&awl l 0&&awl c 0
   |.emp=>es.isEmpty&&Nat.blt 0 s
   |.tree s' aT=>es.isEmpty&&aT.isEmpty&&awl s s'
   |.sl id off len _ ep s'=>match G.at id with
    |some (.cells cs aD mn)=>axj mn ep&&axj ep aD&&awl es.length len&&axj (off+len*s) cs.length&&awl s s'&&
      es.zipIdx.all λ(e,i)=>awl (cellsOf e).length s&&(cellsOf e).zipIdx.all λ(d,j)=>match cs[off+i*s+j]? with
       |some c=>H_ G f c d
       |none=>ab
    |_=>af
   |_=>af
  |_=>af
theorem wt{fr:Bool}{G:St}:∀{f:Nat} {x z:IV},H_ G f x z=ab->Can fr G x z
 |0,_,_,h=>by simp[H_]at h
 |f+1,x,z,h=>by
  unfold H_ at h;split at h
  .split at h
   .rw[afH h];exact .raw _
   .cases h
  .split at h
   .obtain⟨h1,h2⟩:=Ae h;exact .agg _ _ h1 λi c d e1 e2=>wt (h2 i c d e1 e2)
   .cases h
  .split at h
   .obtain⟨h1,h2⟩:=Ae h;exact .aF _ _ h1 λi c d e1 e2=>wt (h2 i c d e1 e2)
   .cases h
  .split at h
   .rename_i es _ l c;simp only[awb,axT,aAa,awV]at h;obtain⟨⟨⟨h1,h2⟩,h3⟩,h4⟩:=h;subst h1 h3 h4;exact .nil _ h2
   .simp only[awb,axT,aAa]at h;obtain⟨h1,h2⟩:=h;subst h1;exact .emp _ h2
   .simp only[awb,axT,awV]at h;obtain⟨⟨h1,h2⟩,h3⟩:=h;subst h1 h2 h3;exact .eB _
   .split at h
    .rename_i aM;simp only[awb,awV,Nat.ble_eq,List.all_eq_true]at h;obtain⟨⟨⟨⟨⟨h1,h2⟩,h3⟩,h4⟩,h5⟩,h6⟩:=h;subst h5;refine .sl _ _ _ _ _ _ _ _ _ _ aM h1 h2 h3 h4 (λe he=>?_) λi e j c d e1 e2 e3=>?_
     .obtain⟨i,hi,rfl⟩:=List.getElem_of_mem he;exact(h6 (_,i) (axm.2 (av_ hi))).1
     .have:=(h6 (e,i) (axm.2 e1)).2 (d,j) (axm.2 e2);simp only[e3]at this;exact wt this
    .cases h
   .cases h
  .cases h
abbrev Hk:=FuncId->List (List IV×IV)
def hit(G:St)(args:List IV):List (List IV×IV)->Option IV
 |[]=>ah
 |(xs,z)::l=>if H9 (H_ G 40) args xs then aa z else hit G args l
theorem Q4{G:St}{args:List IV}{z:IV}:∀{l:List (List IV×IV)},hit G args l=aa z->∃xs,(xs,z)∈l/\NH ab G args xs
 |[],h=>by cases h
 |(xs,y)::l,h=>by
  rw[hit]at h;split at h
  .rename_i ha;cases h;obtain⟨h1,h2⟩:=Ae ha;exact⟨xs,.head _,h1,λi c d e1 e2=>wt (h2 i c d e1 e2)⟩
  .obtain⟨yh,h1,h2⟩:=Q4 h;exact⟨yh,.tail _ h1,h2⟩
def VG(H:Hk)(S:Self):Self:=⟨S.code,λro f args G=>match hit G args (H f)with
 |some z=>aa (z,G)
 |none=>S.call ro f args G,S.cd,S.zd⟩
def VH(P:Program)(H:Hk)(n:Nat):Self:=Nat.rec Self.none (λ_ S=>VG H (mX P S)) n
def adl{H:Hk}{S:Self}(hH:∀f xs z,(xs,z)∈H f->eC P af ab f xs z)(hC:eP P S):eP P (VG H S) where
 call:=by
  intro N ro f args G v au h hN Z us w hi hr;simp only[VG]at h;split at h
  .rename_i z hz;cases h;obtain⟨xs,h1,h2⟩:=Q4 hz;exact((hH f xs _ h1).Rq (ro:=ro) h2).2 N hN Z us w hi hr
  .exact hC.call N ro f args G v au h hN Z us w hi hr
 cd:=hC.cd
 zd:=hC.zd
 DO:=hC.DO
def adm{H:Hk}{S:Self}(hk:bK S):bK (VG H S) where
 call:=by
  intro ro f args G v au h;simp only[VG]at h;split at h
  .cases h;exact awe _
  .exact hk.call ro f args G v au h
 cd:=hk.cd
 zd:=hk.zd
theorem adn(fF:P.follows .mixedOrders=ab){H:Hk}(hH:∀f xs z,(xs,z)∈H f->eC P af ab f xs z):∀n,iv P (VH P H n) n/\eP P (VH P H n)/\bW (VH P H n)/\bK (VH P H n)
 |0=>agq (λ_ _ h1 h2 h3 h4=>W4 fF h1 h2 h3 h4) 0
 |n+1=>by
  obtain⟨h1,h2,h3,h4⟩:=adn fF hH n;exact⟨WV h1 h2 h3 h4 (W4 fF h1 h2 h3 h4),adl hH (NA h1 h2 h3 h4),PM h3 h4,adm (G2 h3 h4)⟩
def comes(r:Option (IV×St))(z:IV):Bool:=
 match r with
 |some (v,G)=>H_ G 40 v z
 |none=>af
def eC.run(fF:P.follows .mixedOrders=ab){H:Hk}(hH:∀f xs z,(xs,z)∈H f->eC P af ab f xs z){n:Nat}{new:Bool}{f:FuncId}{xs:List IV}{z:IV}(h:comes ((VH P H n).call 0 f xs ⟨0,.lf⟩) z=ab):eC P af new f xs z:=by
 unfold comes at h;split at h
 .rename_i v G hc;obtain⟨_,h2,_,h4⟩:=adn fF hH n;exact eC.of ⟨h4.call _ _ _ _ _ _ hc,λN hN Z us w hi hr=>h2.call N 0 f xs _ _ _ hc hN Z us w hi hr⟩ (wt h)
 .cases h
end
end Go.Ev
namespace Go.Proofs.YtabefplkfkfdfaaGreat
open Go Go.Ev
section
def at6(a:Int):CC 266 af [iI a] (iB af):=by
 refine CC.eF aqz kr (λ_=>kr) ay (by rfl) ?_;simp[ahz,SE.den,ao]
def at7(a b:Int):CC 240 af [iI a,iI b] (iB (decide (a<b))):=by
 refine CC.eF aqw kr (λ_=>kr) ay (by rfl) ?_;simp[ahx,SE.den,ao];exact⟨_,at6 a,by simp[ao]⟩
def aua(l:List Oc)(o:Oc)(hl:l.length<=1000):CC 156 af [p5 l,jP o] (iI (match l.findIdx? (·==o)with
 |some i=>(i:Int)
 |none=> -1)):=by
 refine CC.OU aqA kr (λ_=>kr) (by intro x hx;rcases aws.1 hx with rfl|hx;exact Vi l;obtain rfl:=awo.1 hx;exact H2 o) (by rfl) ?_;simp[ahA,jP,SE.den,ao];unfold Yf;refine aC l.length (λi (_:Unit)=>[iI i]) (λi _=>∀x∈l.take i,x≠o) () ?_ ay λi _ hi hI=>?_
 .simp[SE.den]
 by_cases ak:i<l.length
 .have hw:=aI ak aj;simp[SE.den,ak,hw,aam ak,ao];by_cases h1:l[i]=o
  .left;refine⟨by rw[h1];simp,?_⟩
   have:l.findIdx? (·==o)=aa i:=by
    rw[azz];refine⟨ak,by simp[h1],λj hj=>?_⟩;have:=hI l[j] (List.mem_take_iff_getElem.2 ⟨j,by omega,rfl⟩);simpa using this
   rw[this]
  .right;refine⟨?_,.mk () rfl aj (cI ak hI h1)⟩;intro e1 e2;refineλe3=>h1 ?_;cases hli:l[i];cases o
   simp_all
 .have h2:=dq ak hI
  have:l.findIdx? (·==o)=ah:=by
   rw[az1];intro x hx;simpa using h2 x hx
  simp[SE.den,ak,this]
def k86(l:List Oc)(o:Oc)(hl:l.length<=1000):CC 86 af [p5 l,jP o] (iB (decide (o∈l))):=by
 refine CC.eF at2 kr (λ_=>kr) (by intro x hx;rcases aws.1 hx with rfl|hx;exact Vi l;obtain rfl:=awo.1 hx;exact H2 o) (by rfl) ?_;have h:=aua l o hl;have hO:jP o=.agg [iI o.r,iI o.h,iB o.k]:=rfl;rw[hO]at*
 simp[amp,SE.den,ao];refine⟨_,h,?_⟩;simp;cases hf:l.findIdx? (·==o)with
 |none=>
  rw[az1]at hf;simp;intro hm;have:=hf o hm;simp at this
 |some i=>
  rw[azz]at hf;obtain⟨h1,h2,_⟩:=hf;simp at h2;simp;exact h2▸awd h1
def cvx(n:Int):L7 Tryz.prog 3 33 (iI n)=aa (.raw (.int .u64 (aBc.wrap n))):=by kernel_rfl
def aqB{n:Int}(h:0<=n/\n<=9223372036854775807):aBc.wrap n=n:=by
 simp[IntKind.wrap,IntKind.signed,IntKind.bits];omega
def aub{n:Nat}(h:n<=1000):L7 Tryz.prog 3 33 (iI (n:Nat))=aa (.raw (.int .u64 (n:Nat))):=by
 rw[cvx,aqB aj]
def auc(n:Nat)(h:n<=12):∃m,CC 202 af [.raw (.int .u64 (n:Nat))] (iI m):=by
 have hr:∀(m:Int) (n:Int),comes ((VH Tryz.prog (λ_=>[]) 300).call 0 202 [.raw (.int .u64 n)] ⟨0,.lf⟩) (iI m)=ab->∃m,CC 202 af [.raw (.int .u64 n)] (iI m):=λm n h=>⟨m,CC.plain (MV rfl) (eC.run mixed (λ_ _ _ h=>by cases h) h) ay kr⟩;rcases n with _|_|_|_|_|_|_|_|_|_|_|_|_|n
 .exact hr 0 0 (by as_aux_lemma=>kernel_rfl)
 .exact hr 1 1 (by as_aux_lemma=>kernel_rfl)
 .exact hr 2 2 (by as_aux_lemma=>kernel_rfl)
 .exact hr 2 3 (by as_aux_lemma=>kernel_rfl)
 .exact hr 3 4 (by as_aux_lemma=>kernel_rfl)
 .exact hr 3 5 (by as_aux_lemma=>kernel_rfl)
 .exact hr 3 6 (by as_aux_lemma=>kernel_rfl)
 .exact hr 3 7 (by as_aux_lemma=>kernel_rfl)
 .exact hr 4 8 (by as_aux_lemma=>kernel_rfl)
 .exact hr 4 9 (by as_aux_lemma=>kernel_rfl)
 .exact hr 4 10 (by as_aux_lemma=>kernel_rfl)
 .exact hr 4 11 (by as_aux_lemma=>kernel_rfl)
 .exact hr 4 12 (by as_aux_lemma=>kernel_rfl)
 .omega
def ahB{l:List Int}{i:Nat}(v:Int)(h:i<l.length):yz 1 (iL l) (iI (i:Nat)) (iI v)=aa (iL (l.set i v)):=by
 simp[yz,ie,h,cellsOf,aAo]
def swp(A B:List Int)(x y:Int):((A++y::x::B).set (A.length+1) y).set A.length x=A++x::y::B:=by
 rw[ay7 _ _ aj,ay7 _ _ aj];simp[show A.length+1- A.length=1 by omega]
section
variable{Q:IV->Prop}{k0 k1 k2 k3 k4:List IV->Prop}{x0 x1 x2 x3 x4 x5 x6 x7 x8 x9 dT:IV}
def amy(i:Nat)(hi:i<900)(P rest:List Int)(x:Int)(hP:P.length=i)(hs:P.Pairwise (·<=·))(hk:∀P':List Int,P'.Perm (x::P)->P'.Pairwise (·<=·)->k4 [iI (i+1:Nat),iL (P'++rest)]):
 (aax 7).sat Tryz.prog CC Q [k0,k1,k2,k3,k4] [x0,x1,x2,x3,x4,x5,x6,x7,x8,x9,dT,iI i,iL (P++x::rest)]:=by
 have kh:=aI (show i<1000 by omega) aj
 have Da:∀j,j<=i->(∀c∈P.drop j,x<=c)->(∀c∈P.take j,c<=x)->k4 [iI (i+1:Nat),iL (P.take j++x::(P.drop j++rest))]:=λj hj h1 h2=>by
  have:=hk (P.take j++x::P.drop j) (by
   have:=aAY (a:=x) (l₁:=P.take j) (l₂:=P.drop j);rwa[axn]at this) (by
   rw[aAp];have bp:=hs;rw[<-axn j P,aAp]at bp;refine⟨bp.1,List.pairwise_cons.2 ⟨h1,bp.2.1⟩,λa ha b hb=>?_⟩;rcases aws.1 hb with rfl|hb
   .exact h2 a ha
   .exact bp.2.2 a ha b hb)
  rw[awv,axk]at this;exact this
 unfold aax;refine jc (λ(j:Nat)=>[iI j,iL (P.take j++x::(P.drop j++rest))]) (λj=>j<=i/\∀c∈P.drop j,x<=c) (λj=>j) i ?_ ⟨awe _,by rw[awY aj];simp⟩ λj hj=>?_
 .have t1:P.take i=P:=awr aj;have t2:P.drop i=[]:=awY aj;rw[t1,t2];simp[SE.den]
 obtain⟨M_,hjc⟩:=hj;rcases j with _|q
 .have:=Da 0 aj hjc ay;simp[SE.den,kh]at this⊢;exact this
 have hqP:q<P.length:=aj
 have hl:P.take (q+1)++x::(P.drop (q+1)++rest)=P.take q++P[q]::x::(P.drop (q+1)++rest):=by
  rw[awh hqP,awv];rfl
 have hlen:(P.take q).length=q:=by rw[axe];omega
 have hsw:=swp (P.take q) (P.drop (q+1)++rest) x P[q];rw[hlen]at hsw;have GX:P.take q++x::(P.drop q++rest)=P.take q++x::P[q]::(P.drop (q+1)++rest):=by rw[awH hqP];rfl
 rw[<-GX]at hsw;rw[<-hl]at hsw
 have e1:(P.take (q+1)++x::(P.drop (q+1)++rest))[q+1]?=aa x:=by
  rw[hl,awD aj,hlen];simp[show q+1- q=1 by omega]
 have e0:(P.take (q+1)++x::(P.drop (q+1)++rest))[q]?=aa P[q]:=by
  rw[hl,awD aj,hlen];simp
 have hfq:=λh2=>Da (q+1) M_ hjc h2;generalize hL:P.take (q+1)++x::(P.drop (q+1)++rest)=L at*
 have i1:cq 1 (iL L) (iI ((q:Int)+1))=aa (iI x):=MW e1;have i0:=MW e0;have BB:q+1<L.length:=(awa.1 e1).1;have s1:yz 1 (iL L) (iI ((q:Int)+1)) (iI P[q])=aa (iL (L.set (q+1) P[q])):=ahB P[q] BB;have Jr:q<(L.set (q+1) P[q]).length:=by rw[List.length_set];omega
 have s2:=ahB x Jr;have i2:=MW (l:=L.set (q+1) P[q]) (i:=q) (x:=(L.set (q+1) P[q])[q]) (av_ Jr);rw[hsw]at s2;have aud:=(at7 x P[q]).ahr (MV rfl);have hws:awK.wrap (q:Int)=q:=eT aj aj;simp[SE.den,ao,cellsOf,hws,i1,i0];refine⟨_,aud,?_⟩;by_cases ak:x<P[q]
 .simp[ak,s1,s2,i2,cellsOf];refine .mk q rfl ⟨by omega,λc hc=>?_⟩ aj;rw[awH hqP]at hc;rcases aws.1 hc with rfl|hc
  .omega
  .exact hjc c hc
 .simp[ak,kh];refine hfq λc hc=>?_;obtain⟨m,hm,rfl⟩:=List.mem_iff_getElem.1 hc;rw[axe]at hm;rw[List.getElem_take];by_cases hmq:m=q
  .subst hmq;omega
  .have:=List.pairwise_iff_getElem.1 hs m q aj hqP aj;omega
def amz(l:List Int)(iP:l≠[])(hl:l.length<=800)(hk:∀L:List Int,L.Perm l->L.Pairwise (·<=·)->k3 [iL L]):
 (aay 7).sat Tryz.prog CC Q [k0,k1,k2,k3] [x0,x1,x2,x3,x4,x5,x6,x7,x8,iL l,dT]:=by
 unfold aay;refine jc (λ(a:Nat×List Int)=>[iI a.1,iL (a.2++l.drop a.1)]) (λa=>a.1<=l.length/\a.2.Perm (l.take a.1)/\a.2.Pairwise (·<=·)) (λa=>l.length- a.1) (1,l.take 1) ?_ ?_ λa ha=>?_
 .simp only[axn];simp[SE.den]
 .cases l with
  |nil=>exact absurd rfl iP
  |cons h t=>simp
 obtain⟨i,P⟩:=a;obtain⟨h1,h2,h3⟩:=ha;simp only at h1 h2 h3;have hPl:P.length=i:=by rw[h2.length_eq,axe];omega
 by_cases ak:i<l.length
 .have hd:=awH ak
  have hw:=amy (Q:=Q) (k0:=k0) (k1:=k1) (k2:=k2) (k3:=k3) (k4:=FX (λ(a:Nat×List Int)=>[iI a.1,iL (a.2++l.drop a.1)]) (λa=>a.1<=l.length/\a.2.Perm (l.take a.1)/\a.2.Pairwise (·<=·)) (λa=>l.length- a.1) (i,P))
   (x0:=x0) (x1:=x1) (x2:=x2) (x3:=x3) (x4:=x4) (x5:=x5) (x6:=x6) (x7:=x7) (x8:=x8) (x9:=iL l) (dT:=dT) i aj P (l.drop (i+1)) l[i] hPl h3 λP' p1 p2=>
   .mk (i+1,P') rfl ⟨by simp;omega,by
    simp only;rw[awh ak];exact p1.trans ((List.perm_append_singleton _ _).symm.trans (h2.append_right _)),p2⟩ (by simp;omega)
  rw[<-hd]at hw;simp[SE.den,ak];exact hw
 .have zk:i=l.length:=aj;rw[zk,ayJ]at h2;have:=hk P h2 h3;simp[SE.den,zk];exact this
def amA(l:List Int)(iP:l≠[])(hl:l.length<=12)(hk:∀L:List Int,L.Perm l->L.Pairwise (·<=·)->k0 [iL L]):
 (R5 7).sat Tryz.prog CC Q [k0] [x0,x1,x2,x3,x4,x5,x6,iL l]:=by
 unfold R5;refine aC l.length (λi (q:List Int)=>[iI i,iL q]) (λi q=>q=l.take i) [] ?_ ay λi q hi hI=>?_
 .simp[SE.den]
 by_cases ak:i<l.length
 .have hw:=aI ak aj;have hc:=Bo (a:=q) (v:=l[i]) (by rw[hI,axe];omega);simp[SE.den,ak,hw,lI ak,cellsOf,hc];exact .mk _ rfl aj (by rw[awh ak,hI])
 .rw[awr aj]at hI;subst hI;obtain⟨m,hm⟩:=auc q.length hl;have hcv:=aub (n:=q.length) aj;simp[SE.den,hcv,ao];right;refine⟨by omega,_,hm,?_⟩;simp;unfold ahv;refine aC 1 (λ_ (_:Unit)=>[]) (λ_ _=>True) () rfl trivial λ_ _ _ _=>?_;have hwl:awK.wrap (q.length:Int)=q.length:=eT aj aj;simp[SE.den,hwl,show(q.length:Int)<=12 by omega];unfold ahu;refine kW (λvs=>∃L:List Int,vs=[iL L]/\L.Perm q/\L.Pairwise (·<=·)) ?_ λvs dP=>?_
  .exact amz q iP aj λL h1 h2=>⟨L,rfl,h1,h2⟩
  .obtain⟨L,rfl,h1,h2⟩:=dP;refine⟨rfl,?_⟩;simp[SE.den];exact hk L h1 h2
end
def aaG(n:Nat):(jx n).Pairwise (·<=·):=by
 unfold jx;refine azy _ (λa b b_=>?_) (List.pairwise_lt_range (n:=n));exact Int.ofNat_le.2 (aBD b_)
def aaH{n:Nat}{h:Int}(h0:0<=h/\h<n):(h::parts n h).Perm (jx n):=by
 rw[List.perm_ext_iff_of_nodup (axi.2 ⟨λhm=>(rT.1 hm).2 rfl,qf n h⟩) (CM n)];intro a;rw[aws,rT,qe];constructor
 .rintro(rfl|h)
  .exact h0
  .exact h.1
 .intro ha;by_cases e:a=h
  .exact .inl e
  .exact .inr ⟨ha,e⟩
theorem VI:∀(a b:List Int),a.Nodup->(∀v∈a,v∈b)->b.length=a.length->b.Perm a
 |[],b,_,_,hl=>by rw[awG hl]
 |x::a,b,hn,hs,hl=>by
  obtain⟨b1,b2,rfl⟩:=azB (hs x ay);have oX:=axi.1 hn
  have ih:=VI a (b1++b2) oX.2 (λu hu=>by
   have:=hs u (awI _ hu);rw[awm,aws]at this;rw[awm];rcases this with h|rfl|h
   .exact .inl h
   .exact absurd hu oX.1
   .exact .inr h) (by simp at hl⊢;omega)
  exact aAY.trans (ih.cons x)
def ai6{n:Nat}{h:Int}{order L:List Int}(h0:0<=h/\h<n)(hp:L.Perm (h::order))(hs:L.Pairwise (·<=·)):L=jx n↔qR n h order=ab:=by
 have hpp:=aaH h0;have hlen:=hpp.length_eq;rw[awJ,oQ]at hlen;unfold qR;rw[awb,decide_eq_true_eq,decide_eq_true_eq];constructor
 .rintro rfl;have h1:=hp.length_eq;rw[oQ,awJ]at h1;refine⟨by omega,λv hv=>?_⟩;obtain⟨Qs,hv2⟩:=rT.1 hv;have:=hp.mem_iff.1 (qe.2 Qs);rcases aws.1 this with e|e
  .exact absurd e hv2
  .exact e
 .rintro⟨h1,h2⟩;have:=VI (parts n h) order (qf n h) h2 h1.symm;exact aBX (λa b _ _ h1 h2=>by omega) hs (aaG n) (hp.trans ((this.cons h).trans hpp))
end
def VJ:aq:=
 (js (Ch 4) 12 11 3 nc 12 (fR 3 14 (.bind (.lV 4 (.get 28 fa (pw 14 14 14) (FN (vV e_ 7)))) (m9 4 48 13 4 (nb 15 15 15 15) (vU 2 12 16)))) (m9 5 64 7 5 (Ft 8 0 8 1 (iH (.var 13) sw sq)) (lG 6 14)))
def VK:aq:=
 (tV 5 6 FK 2 oz 6 (fR 2 8 (uG 49 (yG gS 8 0 (fX (fc 8))) (dV 9 (uG 50 (yG gS 8 0 (fX (fc 8))) (dV 10 (uG 51 (yG gS 8 0 (fX (fc 8))) (ja nc 11 VJ))))))) (jN 52 (fX (iH po dG fP)) (y7 mK .neq 38 mK 0 (I2 (iH (Dn 5) oA bu) 6) (A_ (iH po dG fP) bu))))
def VL:aq:=
 (js zQ 4 2 6 bZ 4 (fR 6 6 (xP 11 gS dG (jb 6 6 6 6 6 6) (.aE (.lV 4 (HK 7 0)) (y7 (qM 7) .neq 38 (qM 7) 0 (A_ (iH (Dn 5) oA bu) (qM 7)) (MI 28 fa (pw 6 6 6) (o0 (wg 7) (wh 7) (ij (FB 7 2) (FB 7 3))) (fZ 4 8)))))) (jZ 0 VK))
def afI:aq:=
 (il 2 0 31 gS (ik cb cb (I2 (iH (Dn 5) oA bu) 2) (kO 47 gS 2 (j2 48 gS bZ (FU dG fP su VL)))))
def aqC:aQ Tryz.prog (jv [⟨0,15,15,[(0,(56,0))],[(4,3),(4,0),(2,0)],[],[]⟩,⟨0,15,19,[(0,(84,0))],[(7,3),(7,0),(6,2),(5,2)],[],[]⟩,⟨0,15,7,[(0,(32,0))],[(3,0)],[],[]⟩]) 400 af 15=afI:=by kernel_rfl
def ado:aq:=
 (js (Ch 6) 3 2 3 bZ 3 (fR 3 5 (xP 114 gS cb (pw 5 5 5) (fR 6 6 (sA 6 4 6 (jb 6 6 6 6 6 6) (fZ 3 7))))) MS)
def afJ:aq:=
 (il 2 0 113 gS (dV 1 (mv 87 gS (ja bZ 2 ado))))
def aqD:aQ Tryz.prog (jv [⟨0,47,4,[(0,(4,0)),(0,(12,0))],[(1,3),(1,0)],[],[]⟩]) 400 af 47=afJ:=by kernel_rfl
def VM:aq:=
 (Ox (o0 bu pj (tR 4 0 4 1 (FR 4))) .lss 3 5 (mP 4 3) (uG 115 (o0 gS (nO 7 8 (o0 (jY 4) qK (Oy 4 4 4 5))) (nN 5)) (.aE (.lV 2 (HK 10 0)) (MG (qM 10) (Uw 10 2) (jN 116 (iH tZ (ij (wg 10) (wh 10)) (qM 10)) (Aa nc nc (.aE (.len (wh 10)) (m9 3 48 6 3 (iH (wg 10) (.len (wh 10)) (qM 10)) (uH 1 5 (v7 12 7 8 9)))) (uH 1 5 (v7 6 7 8 9)))) (uH 1 5 (v7 6 7 8 9))))) (fZ 2 6))
def adp:aq:=
 (js (Ch 3) 2 1 6 cb 2 (jo 6 4 (mP 4 3) VM) (.ret pj))
def afK:aq:=
 (sy 2 (.aE j8 adp))
def aqE:aQ Tryz.prog (jv [⟨0,48,3,[(0,(5,0)),(0,(14,0))],[(1,3),(1,1),(1,0)],[],[]⟩,⟨0,48,6,[(0,(5,0)),(0,(21,0))],[(1,3),(1,1),(1,0),(2,3),(2,1),(2,0)],[],[]⟩]) 400 af 48=afK:=by kernel_rfl
def VN:aq:=
 (mG zQ 8 (lF 7) 4 (fc 7) 8 (ss 4 10 .neq 10 0 1 (ik (oB 8) (oB 8) kV (.nt MT qH (z_ 101 (HL 5 3 5 4 5 5 5 6 5 7 5 8) nc nc qH))) (.aE (.lV 0 (IY 3 9 (fc 10) .an)) (Cu 3 qK (fc 10) 11 (ik (oB 8) (oB 8) kV (.nt MT qH (z_ 101 (HL 5 3 5 4 5 5 5 6 5 7 5 8) zZ zZ qH))) (qG 3 9 (fc 10) .an (lG 8 12))))) kV)
def adq:aq:=
 (js s_ 4 3 9 dG 4 (fR 9 5 (.test aab (.nt MT qH (z_ 101 (HL 5 3 5 4 5 5 5 6 5 7 5 8) dR dR qH)) (oO 5 6 .gtr 5 6 0 (.nt MT qH (z_ 101 (HL 5 3 5 4 5 5 5 6 5 7 5 8) dR dR qH)) (kO 33 (HL 5 3 5 4 5 5 5 6 5 7 5 8) 6 (pq m_ .neq m_ 1 (.nt MT qH (z_ 101 (HL 5 3 5 4 5 5 5 6 5 7 5 8) kQ kQ qH)) (lE 2 dR bu (jo 2 7 (lF 7) VN))))))) bF)
def amB:aq:=
 (sy 2 (dV 2 (xP 117 gS cb bZ (ja dG 3 adq))))
def aqF:aQ Tryz.prog (jv [⟨3,49021028008,2,[(3,(8,0))],[(3,0)],[],[]⟩,⟨0,49,2,[(0,(14,0))],[],[],[]⟩]) 400 af 49=amB:=by kernel_rfl
def adr:aq:=
 (js s_ 4 3 9 dG 4 (ik (uF 9 5) aab qH (v_ 101 (HL 5 3 5 4 5 5 5 6 5 7 5 8) dR dR (.nt (zN .lss 4 0) (.nr z7) MS) qH)) (.nr z7))
def amC:aq:=
 (sy 2 (dV 2 (xP 117 gS cb bZ (ja dG 3 adr))))
def aqG:aQ Tryz.prog (jv [⟨1,50015,2,[(1,(8,0))],[],[],[]⟩]) 400 af 50=amC:=by kernel_rfl
def Yg:aq:=
 (js (Ch 9) 4 3 3 dG 4 (fR 3 6 (xQ 6 fS (mI 6) 6 7 (m9 9 144 5 9 (y6 6 0 6 1 6 2 7 0 (y6 7 1 7 2 7 3 7 4 (fX (vT 7 5)))) (fZ 4 8)))) (.ret fa))
def aaI:aq:=
 (sy 2 (dV 2 (xP 51 gS cb bZ (ja dG 3 Yg))))
def amD:aQ Tryz.prog (jv [⟨0,117,3,[(0,(7,0)),(0,(15,0))],[(1,3),(1,0)],[],[]⟩]) 400 af 117=aaI:=by kernel_rfl
def VO:aq:=
 (.loop (iH (xS m_) Cj (mI 5)) (.nt (oB 7) (gn ua (pY .lss 3 po ua) (ph 2 dR 7 (tX 2 10 9 (mI 10) cb (sb (lF 10) 3 (lF 10) bZ (RP pj po (pn (pY .lss 3 po ua) (m9 3 24 8 3 (iH pj po (pY .lss 3 po ua)) (Uu 1 .sub 3 7 1 (ta 11 9))))) (Uu 1 .sub 3 7 1 (ta 8 9))) (Uu 1 .sub 3 7 1 (ta 8 9))))) (fZ 3 8)))
def ads:aq:=
 (tV 3 3 fP 6 fS 3 (wi 6 5 33 5 5 5 5 5 5 (ja dR 6 (.aE (xS m_) VO))) MS)
def amE:aq:=
 (sy 2 (gn bZ fP ads))
def aqH:aQ Tryz.prog (jv [⟨2,51806000,1,[(2,(10,0))],[(6,0),(3,0)],[],[]⟩,⟨2,51806000,5,[(2,(6,0))],[(6,0),(7,0),(3,0)],[],[]⟩]) 400 af 51=amE:=by kernel_rfl
def Yh:aq:=
 (Ox s_ .lss 3 5 (tb 2) (.aE (.idx 3 mH fa) (jN 174 (ij (iH (.oY 3 mH fa 0) (.oY 3 mH fa 1) (.oY 3 mH fa 2)) (iH (wg 4) (wh 4) (FB 4 2))) (.nt dR (ik (oB 5) (oB 5) (m9 3 48 2 3 (iH (wg 4) (wh 4) (FB 4 2)) (fZ 1 7)) (fZ 1 2)) (mU 1 5)))) (m9 3 48 2 3 (iH (wg 4) (wh 4) (FB 4 2)) (fZ 1 6)))
def Yi:aq:=
 (tV 3 1 fP 6 fS 1 (wi 6 3 171 3 3 3 3 3 3 (MG (.lV 3 (HK 4 0)) (qM 4) (FF 2 Yh) (fZ 1 2))) Ci)
def aaJ:aq:=
 (jo 2 0 fP Yi)
def amF:aQ Tryz.prog (jv [⟨0,113,3,[(0,(3,0)),(0,(11,0))],[(1,3),(1,0)],[],[]⟩,⟨2,113025008,2,[(2,(8,0))],[],[],[]⟩]) 400 af 113=aaJ:=by kernel_rfl
def O1:aq:=
 (mG (yG bu 4 0 (fX xJ)) 8 (lF 4) 4 (fc 4) 8 (ss 4 11 .neq 11 0 1 qI (zW 3 10 fw (.k .i64 0) (Cu 3 (.var 10) fw 13 qI (qG 3 10 fw so (qN 8 9 14))))) qI)
def O2:aq:=
 (mG (yG bu 4 0 (fX xJ)) 10 (lF 4) 4 (fc 4) 10 (ss 4 13 .neq 13 0 1 qI (zW 3 12 (fc 13) (.k .i64 0) (Cu 3 xL (fc 13) 15 qI (qG 3 12 (fc 13) (.var 10) (qN 10 11 16))))) qI)
def O3:aq:=
 (tV 1 9 xO 4 (fc 3) 9 (fR 4 11 (zW 3 8 fw (.k .i64 0) (Cu 3 so fw 13 (MM xL qK qI (zO 13 (pn qK (Dp 1 8 10 1 (nN 9) (vU 2 9 14))) (vU 2 9 10))) (zO 13 (pn qK (Dp 1 8 10 1 (nN 9) (vU 2 9 14))) (vU 2 9 10))))) (A_ (o0 (mI 3) xO sg) gP))
def O4:aq:=
 (mG zQ 7 (lF 4) 4 (fc 4) 7 (ss 4 9 .neq 9 0 1 qI (zW 3 8 (fc 9) (.k .i64 0) (Cu 3 so (fc 9) 11 qI (qG 3 8 (fc 9) po (lG 7 12))))) (gn xO xO O3))
def O5:aq:=
 (mG zQ 5 xO 4 (fc 3) 5 (ss 4 7 .neq 7 0 1 (xl 4 1 O1) (zW 3 6 (fc 7) (.k .i64 0) (Cu 3 tZ (fc 7) 9 (xl 4 1 O2) (qG 3 6 (fc 7) fa (fZ 5 10))))) (xl 4 1 O4))
def aaK:aq:=
 (wi 6 0 33 0 0 0 0 0 0 (dV 1 (pq j8 .neq j8 2 qI (mv 212 (jb 0 0 0 0 0 0) (.nt bZ qI (oO 0 3 .gtr 0 3 0 qI (xQ 2 cb bu 2 3 (lE 2 cb j9 (A9 (uF 2 4) .neq 9 (mI 3) Jc qI (xl 3 1 (gz (lF 4) .neq xO (lF 4) qI (xl 3 1 O5))))))))))))
def amG:aQ Tryz.prog (jv [⟨0,171,13,[(0,(79,0))],[(9,0),(8,2)],[],[]⟩,⟨1,171061,3,[(1,(13,0))],[(7,0),(8,0)],[(0,55),(0,53),(0,56),(0,7),(1,2)],[]⟩,⟨1,171056,3,[(1,(13,0))],[(5,0)],[(1,2)],[]⟩]) 400 af 171=aaK:=by kernel_rfl
def adt:aq:=
 (fR 3 0 (tX 3 1 9 oz zX (KM 3 fS xN (uG 93 (Oy 0 2 1 2) (dV 2 (tc bZ))) (tc e_)) (tc e_)))
def ai7:aQ Tryz.prog (jv []) 400 ab 174=adt:=by kernel_rfl
def Yj:aq:=
 (nf 5 (ni 4) 1 (jY 4) 5 (dV 6 (j2 95 bZ dR (ik kQ kQ (ik (oB 5) (oB 5) kV si) (mU 1 5)))) kV)
def Yk:aq:=
 (nf 3 dE 3 bA 3 (tX 3 4 9 Jc cb (xl 4 2 Yj) si) bF)
def ahC:aq:=
 (sf (gn bZ dE Yk))
def amH:aQ Tryz.prog (jv [⟨2,215026008,2,[(2,(8,0))],[],[],[]⟩,⟨0,215,2,[(0,(12,0))],[],[],[]⟩]) 400 af 215=ahC:=by kernel_rfl
def adu:aq:=
 (sy 7 (gn bZ dG (xP 160 (y6 0 0 0 1 0 2 0 3 (tR 0 4 0 5 tT)) bZ dG (ja c8 4 (.aE (pY .mul 3 (.i 10) ub) (xQ 2 tT dG 2 5 (uG 215 (yG cb 5 0 (fX c8)) (.nt dR (j2 216 (y6 0 0 0 1 0 2 0 3 (tR 0 4 0 5 tT)) dG (.nt kQ (vY 101) (vY 100))) (j2 216 (y6 0 0 0 1 0 2 0 3 (tR 0 4 0 5 tT)) dG (.nt kQ (.aE (sj .add (pY .mul 3 (.i 10) ub) 1) (tc (sj .add (pY .mul 3 (.i 10) ub) 1))) (tc (pY .mul 3 (.i 10) ub))))))))))))
def ai8:aQ Tryz.prog (jv []) 400 ab 175=adu:=by kernel_rfl
def ahD:aq:=
 (sy 7 (jZ 1 (.nr (pY .geq 3 cb fP))))
def amI:aQ Tryz.prog (jv []) 400 af 216=ahD:=by kernel_rfl
def Ld:aq:=
 (js s_ 13 12 1 zZ 13 (dV 14 (Z5 (.get 3 fa (jA 14) e_) (tQ 15 (qN 8 9 10) (mU 2 13)))) (.aE (.idx 1 qK so) (.bind (.yV 1 qK so gP) (pn so (Dp 1 8 10 1 (nN 8) (qN 8 14 15))))))
def Lf:aq:=
 (js (tW 5) 15 14 1 (jA 14) 15 (dV 17 (qG 3 16 (jA 17) gP (vU 2 15 18))) (zR 4 (nO 16 9 (nN 11))))
def Lg:aq:=
 (mG (Fu bu tZ 1) 8 vZ 3 Cm 8 (fR 3 11 (ik (.idx 1 qK so) (.oY 1 qK so 0) (mv 230 (pw 11 11 11) (ja zZ 12 Ld)) (qN 8 9 10))) (Dp 1 24 7 1 sg (KL j8 .eql 3 4 j8 (.ret (.var 11)) (ph 1 cb 4 (Aa zZ zZ (zR 4 (nO 5 9 (nN 11))) (gz su .geq zZ su (zR 4 (nO 5 9 (nN 11))) (lE 2 bZ zZ (il 2 13 164 (mJ 13 13) (ja (jA 14) 14 Lf)))))))))
def Lh:aq:=
 (.loop (o0 bu xJ (vV pj 1)) (jZ 3 Lg))
def adv:aq:=
 (sy 6 (mv 33 (jb 0 0 0 0 0 0) (gn bZ vZ (.bind (.dec 10 vZ e_) (FU j8 (sj .add j8 1) (.dec 7 (sj .add j8 1) gP) Lh)))))
def ai9:aQ Tryz.prog (jv [⟨0,161,6,[(0,(9,0))],[(2,3),(2,0),(1,0),(3,0)],[(0,23)],[]⟩,⟨0,161,8,[(0,(10,0)),(0,(29,0))],[(4,0),(2,3),(2,0)],[],[]⟩,⟨1,161043,2,[(1,(10,0))],[],[(0,36)],[]⟩,⟨1,161068,2,[(1,(22,0))],[(1,0)],[],[]⟩]) 400 ab 161=adv:=by kernel_rfl
def aaL:aq:=
 (qF (FN (iH bu bu bu)) (mP 8 3) 10 (mP 8 3) 7 (FR 8) 10 (ss 7 15 .eql 15 0 6 (ph 7 (FR 8) 10 (jo 7 16 (lF 9) (gz (aaa 9 (.var 14)) .neq (fc 16) (aaa 9 (.var 14)) bF (.aE (zY 14 1) (uH 2 10 (nO 11 12 (ij (.var 13) (zY 14 1)))))))) (qC 15 0 3 (.aE (zY 13 1) (uH 2 10 (nO 11 12 (uI (zY 13 1) 14)))) 15 0 2 (.aE (zY 12 1) (uH 2 10 (Uv 11 (zY 12 1) (ta 13 14)))) (rG 15 0 9 (.aE (zY 11 1) (uH 2 10 (o0 (zY 11 1) xL (ta 13 14)))) (uH 2 10 (v7 11 12 13 14))))) (KL (ni 9) .neq 3 14 (ni 9) bF (FU (lF 9) (ni 9) (I5 9 9) (KL (xS (I5 9 9)) .neq 3 13 (xS (I5 9 9)) bF (KL (mP 9 3) .neq 3 12 (mP 9 3) bF (KL (mP 9 4) .neq 3 11 (mP 9 4) bF (mU 1 5)))))))
def aaM:aq:=
 (.loop s_ (ph 5 (wg 3) 4 (fR 5 6 (KL (ni 6) .lss 3 5 (ni 6) (ph 5 (wg 3) 4 (fR 5 7 (ph 4 (jY 7) 5 (ss 4 8 .lss 8 0 0 bF (gz fP .geq (mI 8) fP bF (xQ 6 fS (mI 8) 6 9 aaL)))))) qH))))
def ahE:aq:=
 (Oz s_ (.len (wg 3)) .lss 3 4 (.len (wg 3)) aaM (uG 14 .an (.nr c9)))
def cw5:aq:=
 (il 2 0 7 gS (ik cb cb kV (mv 9 gS (.aE (ng 2) (Cp (qM 2) .neq (qM 2) kV (mv 15 gS (.aE (.lV 3 Cn) (Cp Jb .neq Jb bF ahE))))))))
def aue:aQ Tryz.prog (jv [⟨0,5,10,[(0,(7,0))],[],[],[]⟩,⟨0,5,13,[(0,(8,0))],[],[],[]⟩,⟨0,5,21,[(0,(14,0)),(0,(13,0)),(0,(12,0)),(0,(11,0)),(0,(15,0))],[],[],[]⟩]) 400 af 5=cw5:=by kernel_rfl
section
section
variable{Q:IV->Prop}{k0 k1:List IV->Prop}{x0 x1 x2 x3 x4 x5 x6 x7 x8 x9 dT fD lq je:IV}
def amJ(i:Nat)(hi:i<1000)(ks vs:List Int)(dP:Sm vs)(pl:List Bool)(dZ:i<pl.length)(now:List Int)(av8:now.length<=1000)
 (hy:(∀v∈vs,v∈ks)->k1 [iI (i+1:Nat),CP (pl.set i ab),iL (now++[(i:Int)])])
 (hn:(¬∀v∈vs,v∈ks)->k1 [iI (i+1:Nat),CP pl,iL now]):
 Ld.sat Tryz.prog CC Q [k0,k1] [x0,x1,x2,x3,x4,qS ks,x6,x7,iI i,CP pl,iL now,fD,iL vs]:=by
 have kh:=aI hi aj;unfold Ld;refine aC vs.length (λj (_:Unit)=>[iI j]) (λj _=>∀v∈vs.take j,v∈ks) () ?_ ay λj _ hj hI=>?_
 .simp[SE.den]
 by_cases ak:j<vs.length
 .have hw:=aI ak dP;have px:=VF (O:=[qS ks,iI vs[j]]) (m:=.var 0) (key:=.var 1) (ks:=ks) (k:=vs[j]) rfl rfl;simp[SE.den]at px;simp only[iI]at px;simp[SE.den,ak,hw,kh,lI ak,ao];rw[px];refine⟨iB (decide (vs[j]∈ks)),rfl,?_⟩;by_cases z:vs[j]∈ks
  .simp[z];exact .mk () rfl aj (cI ak hI z)
  .simp[z];exact hn λh=>z (h _ (awd ak))
 .have bS:=dq ak hI;simp[SE.den,ak,kh,aN,cellsOf,Bo (show now.length<=100000000 by omega),amu dZ,aqx ab dZ];exact hy bS
def amK(k:Nat)(hk:k<1000)(ks vs:List Int)(dP:Sm vs)(hc:∀q,(∀v,v∈q↔v∈ks\/v∈vs)->k0 [iI (k+1:Nat),qS q,x9,fD]):
 Lf.sat Tryz.prog CC Q [k0,k1] [x0,x1,x2,x3,iI k,qS ks,x6,x7,x8,x9,dT,fD,lq,je,iL vs]:=by
 have VP:=aI hk aj;unfold Lf;refine aC vs.length (λj (q:List Int)=>[iI j,qS q]) (λj q=>∀v,v∈q↔v∈ks\/v∈vs.take j) ks ?_ ay λj q hj hI=>?_
 .simp[SE.den]
 by_cases ak:j<vs.length
 .have hw:=aI ak dP;have iu:=VE (O:=[qS q,iI vs[j]]) (m:=.var 0) (key:=.var 1) (ks:=q) (k:=vs[j]) rfl rfl;simp[SE.den]at iu;simp only[iI]at iu;simp[SE.den,ak,hw,lI ak,ao];refine⟨_,iu,.mk _ rfl aj λv=>?_⟩;rw[yJ,hI,awh ak,awm,awo,or_assoc]
 .simp[SE.den,ak,VP];rw[awr aj]at hI;exact hc q hI
def amL(r:Rl)(h:oa r)(eN:qP r)(hf:lY r)(hs:List At)(Vj:hs=r.aw++r.az)(done:List Int)(hd:done.length<=100)(k:Nat)(hk:k<=done.length)(ks:List Int)(dz:∀v,v∈ks↔v∈varsOf (lK hs (done.take k)))(out:List (List Int))(DK:out.length<=1000)
 (aqI:k=done.length->Q (dr (out++[kX (Bq hs done k) r.aG 0])))
 (aaN:k<done.length->∀q,(∀v,v∈q↔v∈varsOf (lK hs (done.take (k+1))))->k0 [iI (k+1:Nat),qS q,CP (r.aG.map (pD hs done k)),dr (out++[kX (Bq hs done k) r.aG 0])]):
 Lg.sat Tryz.prog CC Q [k0] [cU r,iL done,c_ hs,x3,iI k,qS ks,CP (r.aG.map (tq hs done k)),dr out]:=by
 have hg6:=h.g;have VP:=aI (show k<1000 by omega) aj;have hgG:∀g∈r.aG,qO g/\∀t∈g.ts,WF t:=λg hg=>⟨eN.gs g (aw3 _ hg),(hf.gs g (aw3 _ hg)).2⟩;have hhA:∀a∈hs,pZ a/\∀t∈a.ts,WF t:=λa ha=>⟨eN.hs a (Vj▸ha),hf.hs a (Vj▸ha)⟩;rw[cu];unfold Lg;refine aC r.aG.length (λi (now:List Int)=>[iI i,CP (Br (pD hs done k) (tq hs done k) r.aG i),iL now]) (λi now=>now++kX (Bq hs done k) (r.aG.drop i) i=kX (Bq hs done k) r.aG 0/\now.length<=i) [] ?_ ay λi now hi hI=>?_
 .simp[SE.den,Br]
 obtain⟨hI,Jp⟩:=hI;by_cases ak:i<r.aG.length
 .have hw:=aI ak aj;have dZ:i<(Br (pD hs done k) (tq hs done k) r.aG i).length:=by rw[Ye];exact ak
  have eM:=amu dZ;rw[amv ak]at eM;have Dd:=ai4 (f:=pD hs done k) (g:=tq hs done k) ak;have BV:=afG (f:=pD hs done k) (g:=tq hs done k) ak;obtain⟨hgn,hgw⟩:=hgG _ (awd ak);rw[ai2 ak]at hI;simp[SE.den,ak,hw,xq ak,ao,eM,cellsOf];cases hb:tq hs done k r.aG[i]with
  |true=>
   have hr:=Yd hb;right;rw[Bq,hb,hr]at hI;simp[H6]at hI;refine⟨by simp,.mk now ?_ aj ⟨hI,by omega⟩⟩;rw[BV (by rw[hb,hr])];rfl
  |false=>
   left;have GH:=c87 af r.aG[i] hgn (λt ht=>(hgw t ht).2);have zg:=(np λt ht=>(hgw t ht).2:Vr (varsOf r.aG[i].ts)).len;have eQ:=ai5 (g:=r.aG[i]) dz;refine⟨by simp,_,GH,?_⟩;simp;refine amJ i aj ks _ (by unfold Sm;omega) _ dZ now aj (λhm=>?_) λhm=>?_
   .rw[amw hm]at eQ;rw[Bq,hb,eQ]at hI;rw[eQ]at Dd;rw[Dd];simp[H6]at hI;exact .mk (now++[(i:Int)]) rfl aj ⟨by rw[<-hI];simp,by simp;omega⟩
   .rw[amx hm]at eQ;rw[Bq,hb,eQ]at hI;simp[H6]at hI;refine .mk now ?_ aj ⟨hI,by omega⟩;rw[BV (by rw[hb,eQ])]
 .have qY:i=r.aG.length:=aj;rw[awY aj,kX,aww]at hI
  have hpd:Br (pD hs done k) (tq hs done k) r.aG i=r.aG.map (pD hs done k):=by
   unfold Br;rw[qY];simp
  rw[hpd];subst hI;have hc:=OZ (a:=out) (v:=kX (Bq hs done k) r.aG 0) aj;simp[SE.den,ak,hc,ao,cellsOf];by_cases qx:k=done.length
  .left;exact⟨by omega,aqI qx⟩
  right;have eX:k<done.length:=aj;have cy:=Nb (hs:=hs) eX;refine⟨by omega,?_⟩;simp[lI eX,cellsOf,VP,ao];by_cases z0:done[k]<0
  .left;refine⟨z0,aaN eX ks λv=>?_⟩;rw[dz,cy];have:kE hs done[k]=[]:=by unfold kE;rw[if_neg aj]
   rw[this,aww]
  right;refine⟨by omega,?_⟩;by_cases z1:(hs.length:Int)<=done[k]
  .left;refine⟨z1,aaN eX ks λv=>?_⟩;rw[dz,cy]
   have:kE hs done[k]=[]:=by
    unfold kE;rw[if_pos aj,ayd aj]
   rw[this,aww]
  right;refine⟨by omega,?_⟩;have xu:done[k]=((done[k].toNat:Nat):Int):=aj;have dY:done[k].toNat<hs.length:=aj;have hA:=py dY;rw[<-xu]at hA;obtain⟨sQ,vR⟩:=hhA _ (awd dY);have JU:=c46 af hs[done[k].toNat] sQ (λt ht=>(vR t ht).2);have zg:=(np λt ht=>(vR t ht).2:Vr (varsOf hs[done[k].toNat].ts)).len
  have JH:kE hs done[k]=hs[done[k].toNat].ts:=by
   simp only[kE,if_pos (show 0<=done[k] by omega)];rw[av_ dY]
  simp[hA,ao];refine⟨_,JU,?_⟩;simp;refine amK k aj ks _ (by unfold Sm;omega) λq hq=>aaN eX q λv=>?_;rw[hq,dz,cy,jf,jf,jf,JH,lZ,awm]
def amM(r:Rl)(h:oa r)(eN:qP r)(hf:lY r)(hs:List At)(Vj:hs=r.aw++r.az)(done:List Int)(hd:done.length<=100)(hQ:Q (dr (eH hs r.aG done))):
 Lh.sat Tryz.prog CC Q [] [cU r,iL done,c_ hs,CP (r.aG.map λ_=>af)]:=by
 unfold Lh;refine jc (λ(a:Nat×List Int)=>[iI a.1,qS a.2,CP (r.aG.map (tq hs done a.1)),dr ((eH hs r.aG done).take a.1)]) (λa=>a.1<=done.length/\∀v,v∈a.2↔v∈varsOf (lK hs (done.take a.1))) (λa=>done.length- a.1) (0,[]) ?_ ⟨by omega,by simp[lK,jf,eA]⟩ λa ha=>?_
 .simp[SE.den,cu,ao,tq]
 obtain⟨k,ks⟩:=a;obtain⟨sQ,vR⟩:=ha;simp only at sQ vR;have hl:k<(eH hs r.aG done).length:=by rw[pB];omega
 have cy:=Q3 hl
 have SX:(eH hs r.aG done).take k++[kX (Bq hs done k) r.aG 0]=(eH hs r.aG done).take (k+1):=by
  rw[awh hl,cy]
 have hw:=amL (Q:=Q) (k0:=FX (λ(a:Nat×List Int)=>[iI a.1,qS a.2,CP (r.aG.map (tq hs done a.1)),dr ((eH hs r.aG done).take a.1)]) (λa=>a.1<=done.length/\∀v,v∈a.2↔v∈varsOf (lK hs (done.take a.1))) (λa=>done.length- a.1) (k,ks))
  (x3:=CP (r.aG.map λ_=>af))
  r h eN hf hs Vj done hd k sQ ks vR ((eH hs r.aG done).take k) (by simp[pB];omega) (λqx=>by
    rw[SX,awr (by rw[pB];omega)];exact hQ) (λeX q hq=>.mk (k+1,q) (by
    rw[SX];simp[tq]) ⟨by simp;omega,hq⟩ (by simp;omega))
 rw[cu]at*
 simp[SE.den,ao];exact hw
end
def amN(r:Rl)(h:oa r)(eN:qP r)(hf:lY r)(done:List Int)(hd:done.length<=100):CC 161 ab [cU r,iL done] (dr (eH (r.aw++r.az) r.aG done)):=by
 refine CC.of ai9 kr kr (afE r done) (F3 _) ?_;have zw:=JT r (by have:=h.h;omega);have hw:=amM (Q:=(·=dr (eH (r.aw++r.az) r.aG done))) r h eN hf _ rfl done hd rfl
 have Ds:jK 10 (iI r.aG.length) (iB af)=aa (CP (r.aG.map λ_=>af)):=by
  have h6:=h.g;have h7:(r.aG.length:Int)<=1000000:=aj;simp[jK,cellsOf,h7];exact(List.map_const' ..).symm
 have aqJ:jK 7 (iI (done.length+1)) (iB ab)=aa (iI (done.length+1)):=by
  simp[jK];omega
 have hwd:=aI (show done.length<1000 by omega) aj;rw[cu]at*
 generalize eH (r.aw++r.az) r.aG done=P at*
 simp[adv,SE.den,ao];refine⟨_,zw,?_⟩;simp[Ds,aqJ,hwd];exact hw
section
variable{Q:IV->Prop}{k0 k1 k2 k3 k4:List IV->Prop}{x0 x1 x2 x3 x4 x5 x6 x7 x8 x9 dT fD lq je ll wR og rO Bj rP:IV}
def amO(x:Pn)(hx:QT x)(hQ:Q (iB ab)):
 (aaz 7).sat Tryz.prog CC Q [k0,k1,k2] [x0,cD x,x2,x3,x4,x5,x6,x7,x8,x9,dT,fD,lq,je,ll,wR,og,rO,dr x.dt,rP]:=by
 have hN:cD x=.agg [iI x.o.r,iI x.o.h,iB x.o.k,iL x.aJ,dr x.dQ,dr x.dt]:=rfl;have hs:=hx.t;have wO:=hx.ts;rw[hN];generalize x.dt=ts at*
 unfold aaz;refine aC ts.length (λi (_:Unit)=>[iI i]) (λ_ _=>True) () ?_ trivial λi _ hi _=>?_
 .simp[SE.den]
 by_cases ak:i<ts.length
 .have hw:=aI ak hs;have Vx:=k93 ts[i] ts[i] (wO _ (awd ak));simp[SE.den,ak,hw,F6 ak,ao,cellsOf]at Vx⊢;exact⟨_,Vx,by simpa[ao]using .mk () rfl aj trivial⟩
 .simp[SE.den,ak,ao];exact hQ
def amP(x:Pn)(hx:QT x)(hQ:Q (iB ab)):
 (aaA 7).sat Tryz.prog CC Q [k0,k1] [x0,cD x,x2,x3,x4,x5,x6,x7,x8,x9,dT,fD,lq,je,ll,wR,og,dr x.dQ,dr x.dt]:=by
 have hN:cD x=.agg [iI x.o.r,iI x.o.h,iB x.o.k,iL x.aJ,dr x.dQ,dr x.dt]:=rfl;have hs:=hx.k;have dz:=hx.ks;unfold aaA;refine aC x.dQ.length (λi (_:Unit)=>[iI i]) (λ_ _=>True) () ?_ trivial λi _ hi _=>?_
 .simp[SE.den]
 by_cases ak:i<x.dQ.length
 .have hw:=aI ak hs;have Vx:=ami x.dQ[i] x.dQ[i] (dz _ (awd ak));rw[hN];simp[SE.den,ak,hw,F6 ak,ao,cellsOf]at Vx⊢;exact⟨_,Vx,by simpa[ao]using .mk () rfl aj trivial⟩
 .have hw:=amO (Q:=Q) (k0:=k0) (k1:=k1) (k2:=Be x.dQ.length (λi (_:Unit)=>[iI i]) (λ_ _=>True) i) (x0:=x0) (x2:=x2) (x3:=x3) (x4:=x4) (x5:=x5) (x6:=x6) (x7:=x7) (x8:=x8) (x9:=x9) (dT:=dT) (fD:=fD) (lq:=lq) (je:=je) (ll:=ll) (wR:=wR) (og:=og) (rO:=dr x.dQ) (rP:=iI i) x hx hQ;rw[hN]at*
  simp[SE.den,ak,ao];exact hw
def amQ(x:Pn)(hx:QT x)(ho:x.aJ.length<=50)(r:Rl)(h:oa r)(eN:qP r)(hf:lY r)(hv:pC (r.aw++r.az).length x.aJ)(Cc:x.dQ=eI (r.aw++r.az) [x.o.h] x.aJ)(Yl:x.dt=eH (r.aw++r.az) r.aG (x.o.h::x.aJ))(hQ:Q (iB ab)):
 (aaB 7 aaC (.ok (.var 6))).sat Tryz.prog CC Q [k0] [x0,cD x,x2,x3,cU r,x5,c_ (r.aw++r.az),x7,x8,x9,dT,fD,lq]:=by
 have hN:cD x=.agg [iI x.o.r,iI x.o.h,iB x.o.k,iL x.aJ,dr x.dQ,dr x.dt]:=rfl;have AG:=h.h;rw[<-awi]at AG;have uL:=λdone (hd:done.length<=100) n a ha=>afF ab r (r.aw++r.az) AG h.hs eN.hs hf.hs done hd n a ha;have y_:=amN r h eN hf (x.o.h::x.aJ) (by simp;omega);rw[<-Yl]at y_;have auf:=λ(k1:List IV->Prop) (je ll wR og:IV)=>amP (Q:=Q) (k0:=k0) (k1:=k1) (x0:=x0) (x2:=x2) (x3:=x3) (x4:=cU r) (x5:=x5) (x6:=c_ (r.aw++r.az)) (x7:=x7) (x8:=x8) (x9:=x9) (dT:=dT) (fD:=fD) (lq:=lq) (je:=je) (ll:=ll) (wR:=wR) (og:=og) x hx hQ;simp only[uP]at uL;rw[hN,cu]at*
 rw[Cc]at*
 clear Cc Yl;generalize hO:x.aJ=order at*
 generalize hS:r.aw++r.az=hs at*
 unfold aaB aaC;refine aC order.length (λi (q:List (List Int))=>[iI i,iI x.o.r,iI x.o.h,iL (x.o.h::order.take i),dr q]) (λi q=>q++eI hs (x.o.h::order.take i) (order.drop i)=eI hs [x.o.h] order/\q.length<=i) [] ?_ ay λi q hi hI=>?_
 .simp[SE.den,ao,cellsOf]
 obtain⟨hI,hql⟩:=hI;by_cases ak:i<order.length
 .have n_:=aI ak aj;obtain⟨hv0,Qs⟩:=hv _ (awd ak);have xu:order[i]=((order[i].toNat:Nat):Int):=aj;have dY:order[i].toNat<hs.length:=aj;have ya:=uL (x.o.h::order.take i) (by simp;omega) order[i].toNat _ (av_ dY);rw[<-xu]at ya
  have sQ:kE hs order[i]=hs[order[i].toNat].ts:=by
   simp only[kE,if_pos hv0];rw[av_ dY]
  rw[awH ak,eI,sQ]at hI;have cy:x.o.h::order.take (i+1)=(x.o.h::order.take i)++[order[i]]:=by rw[awh ak];rfl
  have bU:=Bo (a:=x.o.h::order.take i) (v:=order[i]) (by simp;omega);have mN:=OZ (a:=q) (v:=p6 hs (x.o.h::order.take i) hs[order[i].toNat].ts) aj;generalize hD:x.o.h::order.take i=D at*
  simp[SE.den,ak,n_,lI ak,ao];refine⟨_,ya,?_⟩;simp[ao,aN,cellsOf,bU,mN];refine .mk (q++[p6 hs D hs[order[i].toNat].ts]) ?_ aj ⟨by rw[cy,<-hI];simp,by simp;omega⟩;rw[cy];rfl
 .rw[awY aj,eI,aww]at hI;subst hI;have:=auf (Be order.length (λi (q:List (List Int))=>[iI i,iI x.o.r,iI x.o.h,iL (x.o.h::order.take i),dr q]) (λi (q:List (List Int))=>q++eI hs (x.o.h::order.take i) (order.drop i)=eI hs [x.o.h] order/\q.length<=i) i) (iI i) (iI x.o.r) (iI x.o.h) (iL (x.o.h::order.take i));rw[awr aj]at*
  simp[SE.den,ak,ao];exact⟨_,y_,by simpa[ao]using this⟩
def amR(x:Pn)(hx:QT x)(ho:x.aJ.length<=50)(r:Rl)(h:oa r)(eN:qP r)(hf:lY r)(n:Nat)(hn:(r.aw++r.az).length=n)(a_:pC n x.aJ)(Cc:x.dQ=eI (r.aw++r.az) [x.o.h] x.aJ)(Yl:x.dt=eH (r.aw++r.az) r.aG (x.o.h::x.aJ))(hQ:Q (iB ab)):
 (R6 7 aaC (.ok (.var 6))).sat Tryz.prog CC Q [] [x0,cD x,x2,x3,cU r,x5,c_ (r.aw++r.az),x7,iL (jx n)]:=by
 have hN:cD x=.agg [iI x.o.r,iI x.o.h,iB x.o.k,iL x.aJ,dr x.dQ,dr x.dt]:=rfl;have G6:=h.h;rw[<-awi,hn]at G6;have hL:=oQ n;have hrg:=ac5 n;unfold R6;refine aC n (λi (_:Unit)=>[iI i,iI n,iI n,iL (jx n)]) (λ_ _=>True) () ?_ trivial λi _ hi _=>?_
 .simp[SE.den,hL]
 by_cases ak:i<n
 .have hw:=aI ak aj;have dY:i<(jx n).length:=aj;have sL:=hrg i dY;rw[hN];simp[SE.den,ak,hw,lI dY,cellsOf,sL];exact .mk () rfl aj trivial
 .have:=amQ (Q:=Q) (k0:=Be n (λi (_:Unit)=>[iI i,iI n,iI n,iL (jx n)]) (λ_ _=>True) i) (x0:=x0) (x2:=x2) (x3:=x3) (x5:=x5) (x7:=x7) (x8:=iL (jx n)) (x9:=iI i) (dT:=iI n) (fD:=iI n) (lq:=iL (jx n)) x hx ho r h eN hf (hn▸a_) Cc Yl hQ;rw[hN]at*
  simp[SE.den,ak,ao,aN,cellsOf];exact this
end
def k32(p:Pg)(hp:oe p)(hf:∀r∈p.aV,lY r)(x:Pn)(hx:QT x)(h6:x.aJ.length<=6){i m:Nat}{r:Rl}(h:H7 p x.o i m r)(hpb:qR (r.aw++r.az).length m x.aJ=ab)(DZ:x=oR r x.o x.aJ):CC 32 af [bn p,cD x] (iB ab):=by
 refine CC.eF at1 kr (λ_=>kr) (ai3 p x) (by rfl) ?_;have GH:=k87 p hp;have DK:=uN p.aV hp.rs;have h86:=k86 (occs p.aV) x.o (by have:=hp.r;omega);have hN:cD x=.agg [iI x.o.r,iI x.o.h,iB x.o.k,iL x.aJ,dr x.dQ,dr x.dt]:=rfl;have hP:bn p=.agg [fY p.bN,mw p.aV]:=rfl;have hO:jP x.o=.agg [iI x.o.r,iI x.o.h,iB x.o.k]:=rfl;have sL:=h.ru;obtain⟨hi,sL⟩:=awa.1 sL;have dD:r∈p.aV:=sL▸awd hi;have qQ:=hp.rs r dD;have hR:=y9 hi;rw[sL]at hR;rw[decide_eq_true (xx.2 ⟨i,m,r,h⟩),hO]at h86;have zw:=JT r (by have:=qQ.h;omega);have pc:=Ef (a:=[x.o.h]) (b:=x.aJ) (by simp;omega);have DT:cq 6 (mw p.aV) (iI x.o.r)=aa (.agg [iS r.name,c_ r.aw,c_ r.az,gK r.aG,gK r.bc,iI r.vars]):=by rw[h.or];exact hR
 have Qa:=h.or
 have aug:O0.sat Tryz.prog CC (xo (·=ab)) [] [bn p,cD x,p5 (occs p.aV),iB ab,cU r,cU r,c_ (r.aw++r.az),iL (x.o.h::x.aJ)]:=by
  unfold O0;refine kW (λvs=>∃L:List Int,vs=[iL L]/\L.Perm (x.o.h::x.aJ)/\L.Pairwise (·<=·)) ?_ λvs dP=>?_
  .have:=amA (Q:=xo (·=ab)) (k0:=HN λvs=>∃L:List Int,vs=[iL L]/\L.Perm (x.o.h::x.aJ)/\L.Pairwise (·<=·)) (x0:=bn p) (x1:=cD x) (x2:=p5 (occs p.aV)) (x3:=iB ab) (x4:=cU r) (x5:=cU r) (x6:=c_ (r.aw++r.az)) (x.o.h::x.aJ) ay (by simp;omega) λL h1 h2=>⟨L,rfl,h1,h2⟩;generalize occs p.aV=l at*
   simp[SE.den]at this⊢;exact this
  .obtain⟨L,rfl,h1,h2⟩:=dP;refine⟨rfl,?_⟩;obtain rfl:=(ai6 (n:=(r.aw++r.az).length) (L:=L) (by have:=h.lt;omega) (h.oh▸h1) h2).2 hpb;have Cc:x.dQ=eI (r.aw++r.az) [x.o.h] x.aJ:=by rw[DZ];rfl
   have Yl:x.dt=eH (r.aw++r.az) r.aG (x.o.h::x.aJ):=by rw[DZ];rfl
   have:=amR (Q:=xo (·=ab)) (x0:=bn p) (x2:=p5 (occs p.aV)) (x3:=iB ab) (x5:=cU r) (x7:=iL (x.o.h::x.aJ)) x hx aj r qQ (hp.rn r dD) (hf r dD) _ rfl (Jg hpb).1 Cc Yl ay;have e:=oQ (r.aw++r.az).length;generalize occs p.aV=l at*
   generalize r.aw++r.az=hs at*
   simp[SE.den,ao,e];exact this
 rw[cu]at*
 rw[hN,hP]at*
 generalize occs p.aV=l at*
 generalize r.aw++r.az=hs at*
 simp[amo,SE.den,ao];refine⟨_,GH,?_⟩;simp;refine⟨_,h86,?_⟩;have z1:¬(x.o.r<0):=aj;have z2:¬((p.aV.length:Int)<=x.o.r):=aj;simp[z1,z2,DT,ao];refine⟨by omega,by omega,_,zw,?_⟩;simp[aN,cellsOf];exact⟨_,pc,aug⟩
end
structure In where
 op:Int
 a:Int
 b:Int
 g:Gl
 ts:List Tm
def eV:Gl:=⟨0,[],[]⟩
def eW(i:In):IV:=.agg [iI i.op,iI i.a,iI i.b,iI i.g.op,iS i.g.s,iT i.g.ts,iT i.ts]
abbrev cJ(l:List In):IV:=.tree 7 (l.map eW)
def adw(i:In):Pure (eW i):=.agg _ ay
@[simp] theorem auh(l:List In):Pure (cJ l):=jm 7 eW (λa=>⟨_,rfl,by simp⟩) l
def ai_(x:In):∃cs,eW x=.agg cs/\cs.length=7/\cs.all ao=ab:=⟨_,rfl,rfl,rfl⟩
def aqK{a b:List In}(h:a.length+b.length<=1000000):dg 7 96 (cJ a) (cJ b)=aa (cJ (a++b)):=by
 have h2:=Ad (s:=7) (enc:=eW) ai_ b;simp[dg,h2];omega
def nu{a:List In}{i:In}(h:a.length<=100000):dg 7 96 (cJ a) (.tree 7 [.agg [iI i.op,iI i.a,iI i.b,iI i.g.op,iS i.g.s,iT i.g.ts,iT i.ts]])=aa (cJ (a++[i])):=aqK (a:=a) (b:=[i]) (by simp;omega)
def dI(h:Int)(kn:List Int):List Tm->Nat->List In
 |[],_=>[]
 |t::ts,i=>(if(i:Int)∈kn then[]else[⟨1,h,i,eV,[t]⟩])++dI h kn ts (i+1)
def adx{h:Int}{kn:List Int}{ts:List Tm}{i:Nat}(hi:i<ts.length):dI h kn (ts.drop i) i=(if(i:Int)∈kn then[]else[⟨1,h,i,eV,[ts[i]]⟩])++dI h kn (ts.drop (i+1)) (i+1):=by
 rw[awH hi,dI]
theorem wu(h:Int)(kn:List Int):∀(ts:List Tm) (i:Nat),(dI h kn ts i).length<=ts.length
 |[],_=>by simp[dI]
 |t::ts,i=>by
  have:=wu h kn ts (i+1);rw[dI,awi,awJ];split<;>simp<;>omega
def dB(gs:List Gl)(l:List Int):List In:=l.map λv=>⟨2,0,0,(gs[v.toNat]?).getD eV,[]⟩
def wv(n:Nat)(l:List Int):Prop:=∀v∈l,0<=v/\v<n
def aaO{gs:List Gl}{l:List Int}{i:Nat}(h:i<l.length):dB gs (l.take (i+1))=dB gs (l.take i)++[⟨2,0,0,(gs[l[i].toNat]?).getD eV,[]⟩]:=by
 unfold dB;rw[awh h,axw];rfl
section
def nw(hs:List At)(h:Int)(a:At)(e:Int):List In:=match hs[e.toNat]? with
 |some b=>if b.s=a.s/\b.ts.length=a.ts.length then[⟨4,h,e,eV,[]⟩]else[]
 |none=>[]
def gL(hs:List At)(h:Int)(a:At)(es:List Int):List In:=es.flatMap (nw hs h a)
def aaP(hs:List At)(h:Int)(a:At)(e:Int):(nw hs h a e).length<=1:=by
 unfold nw;split
 .split<;>simp
 .simp
theorem Af(hs:List At)(h:Int)(a:At):∀es:List Int,(gL hs h a es).length<=es.length
 |[]=>by simp[gL]
 |e::es=>by
  have h1:=Af hs h a es;have h2:=aaP hs h a e;unfold gL at*
  rw[axP,awi,awJ];omega
def WC{hs:List At}{h:Int}{a:At}{es:List Int}{i:Nat}(hi:i<es.length):gL hs h a (es.take (i+1))=gL hs h a (es.take i)++nw hs h a es[i]:=by
 unfold gL;rw[awh hi,ayO];simp
def l7(hs:List At)(gs:List Gl)(acc:List Ac)(x:Pn)(k:Nat)(n:Int)(a:At)(ps te:List Int):List In:=
 ⟨3,n,tn acc ⟨a.s,a.ts.length,ps⟩,eV,nU a.ts ps⟩::(gL hs n a (x.o.h::x.aJ.take k)++dI n ps a.ts 0++dB gs te)
structure Jh(p:Pg)(x:Pn)(k i n:Nat)(r:Rl)(a:At)(ps te:List Int):Prop where
 h:Part p x k i n r a ps
 t:x.dt[k+2]?=aa te
 pl:ps.length<=400
 tl:te.length<=1000
 tv:wv r.aG.length te
 ov:pC (r.aw++r.az).length (x.o.h::x.aJ)
 ol:x.aJ.length<=50
section
variable{P:Program}{O:List IV}
def afL(j:Nat):IV->Option IV
 |.agg cs=>(cs[j]?).bind vJ
 |_=>ah
def afM(n:Nat):IV->Option IV
 |.agg cs=>if cs.length=n/\cs.all ao then aa (.agg cs)else ah
 |_=>ah
def acF(x:IV):IV->Option IV
 |.agg cs=>aa (.agg (x::cs))
 |_=>ah
def trF(q:Nat):IV->Option IV
 |.agg cs=>if 0<q/\cs.all (λe=>(cellsOf e).length==q)then aa (.tree q cs)else ah
 |_=>ah
def tpF:IV->Option IV
 |.agg cs=>aa (.aF cs)
 |_=>ah
def pE{j:Nat}{cs:List IV}:afL j (.agg cs)=(cs[j]?).bind vJ:=by rw[afL]
def Li{n:Nat}{cs:List IV}:afM n (.agg cs)=if cs.length=n/\cs.all ao then aa (.agg cs)else ah:=by rw[afM]
def Ji{x:IV}{cs:List IV}:acF x (.agg cs)=aa (.agg (x::cs)):=by rw[acF]
def O6{q:Nat}{cs:List IV}:trF q (.agg cs)=if 0<q/\cs.all (λe=>(cellsOf e).length==q)then aa (.tree q cs)else ah:=by rw[trF]
def aja{cs:List IV}:tpF (.agg cs)=aa (.aF cs):=by rw[tpF]
def fB{α β:Type}{a:α}{f:α->Option β}:(aa a).bind f=f a:=by rw[awc]
def jh{x:Nat}:(SE.var x).den P O=O[x]? :=by rw[SE.den]
def Gf{n:Int}:(SE.i n).den P O=aa (iI n):=by rw[SE.den]
def afN{t:Bool}:(SE.b t).den P O=aa (iB t):=by rw[SE.den]
def aui{l:List UInt8}:(SE.s l).den P O=aa (iS l):=by rw[SE.den]
def qT{e:SE}:(SE.ok e).den P O=(e.den P O).bind vJ:=by rw[SE.den]
def ady{n:Nat}{e:SE}:(SE.lV n e).den P O=(e.den P O).bind (afM n):=by rw[SE.den];rfl
def yL{e:SE}{j:Nat}:(SE.aO e j).den P O=(e.den P O).bind (afL j):=by rw[SE.den];rfl
def Es{q:Nat}{e x:SE}:(SE.idx q e x).den P O=(e.den P O).bind λa1=>(x.den P O).bind λb1=>cq q a1 b1:=by rw[SE.den]
def rU{e:SE}:(SE.len e).den P O=(e.den P O).bind Hq:=by rw[SE.den]
def aaQ:SE.an.den P O=aa (.agg []):=by rw[SE.den]
def aqL{q:Nat}{r:SE}:(SE.tr q r).den P O=(r.den P O).bind (trF q):=by rw[SE.den];rfl
def aaR{a r:SE}:(SE.ac a r).den P O=(a.den P O).bind λx=>(r.den P O).bind (acF x):=by rw[SE.den];rfl
def aqM{r:SE}:(SE.tp r).den P O=(r.den P O).bind tpF:=by rw[SE.den];rfl
def amS{q b:Nat}{e f:SE}:(SE.cat q b e f).den P O=(e.den P O).bind λa1=>(f.den P O).bind λb1=>dg q b a1 b1:=by rw[SE.den]
def Et{op:BinOp}{t:TypeId}{a b:SE}:(SE.bin op t a b).den P O=(a.den P O).bind λx1=>(b.den P O).bind λy1=>dc P op t x1 y1:=by rw[SE.den]
def aqN{op:UnOp}{a:SE}:(SE.un op a).den P O=(a.den P O).bind (RE P op):=by rw[SE.den]
def aqO{e:SE}:(SE.rw e).den P O=(e.den P O).bind λz=>if aN z then aa z else ah:=by rw[SE.den]
def VQ{q:Nat}{e lo hi:SE}:(SE.sub q e lo hi).den P O=(e.den P O).bind λa1=>(lo.den P O).bind λb1=>(hi.den P O).bind λc1=>pU q a1 b1 c1:=by rw[SE.den]
end
def jD:=aw_ @fB<|aw_ @jh<|aw_ @Gf<|aw_ @afN<|aw_ @aui<|aw_ @qT<|aw_ @ady<|aw_ @yL<|aw_ @Es<|aw_ @rU<|aw_ @aqL<|aw_ @aaR<|aw_ @aaQ<|aw_ @aqM<|aw_ @pE<|aw_ @Li<|aw_ @Ji<|aw_ @O6<|aw_ @aja<|aw_ @amS<|aw_ @Et<|aw_ @aqN<| @aqO
end
def tF(n k:Nat):aq:=
 (.loop (.ac (.i 0) (.ac (.var n) .an))
 (.aE (.ok (.bin .lss 3 (.var (n+2)) (.len (.ok (.var (n+1))))))
 (.test (.ok (.bin .lss 3 (.var (n+2)) (.len (.ok (.var (n+1))))))
 (.bind (.idx 1 (.ok (.var (n+1))) (.var (n+2)))
 (.aE (.ok (.var (n+4)))
 (.bind (.idx 3 (.aO (.var 5) 3) (.ok (.var (n+4))))
 (.aE (.lV 3 (.var (n+5)))
 (.bind (.cat 7 96 (.var (n+3)) (.tr 7 (.ac (.ac (.i 2) (.ac (.i 0) (.ac (.i 0) (.ac (.aO (.var (n+5)) 0) (.ac (.aO (.var (n+5)) 1) (.ac (.aO (.var (n+5)) 2) (.ac (.tr 4 .an) .an))))))) .an)))
 (.aE (.ok (.bin .add 3 (.var (n+2)) (.i 1)))
 (.next (k+1) (.ac (.ok (.bin .add 3 (.var (n+2)) (.i 1))) (.ac (.var (n+6)) .an)))))))))
 (.next k (.ac (.var (n+3)) .an)))))
def mF(n k:Nat)(C A W H:SE):aq:=
 (.loop (.ac (.i 0) (.ac C .an))
 (.aE (.ok (.bin .lss 3 (.var n) (.len A)))
 (.test (.ok (.bin .lss 3 (.var n) (.len A)))
 (.bind (.idx 4 A (.var n))
 (.aE (.lV 4 (.var (n+2)))
 (.call 95 af (.ac W (.ac (.var n) .an))
 (.aE (.ok (.var (n+3)))
 (.aE (.ok (.un .not (.ok (.var (n+3)))))
 (.test (.ok (.un .not (.ok (.var (n+3)))))
 (.bind (.cat 7 96 (.var (n+1)) (.tr 7 (.ac (.ac (.i 1) (.ac H (.ac (.var n) (.ac (.i 0) (.ac (.s []) (.ac (.tr 4 .an) (.ac (.tr 4 (.ac (.ac (.aO (.var (n+2)) 0) (.ac (.aO (.var (n+2)) 1) (.ac (.aO (.var (n+2)) 2) (.ac (.aO (.var (n+2)) 3) .an)))) .an)) .an))))))) .an)))
 (.aE (.ok (.bin .add 3 (.var n) (.i 1)))
 (.next (k+1) (.ac (.ok (.bin .add 3 (.var n) (.i 1))) (.ac (.var (n+4)) .an)))))
 (.aE (.ok (.bin .add 3 (.var n) (.i 1)))
 (.next (k+1) (.ac (.ok (.bin .add 3 (.var n) (.i 1))) (.ac (.var (n+1)) .an))))))))))
 (.next k (.ac (.var (n+1)) .an)))))
def qU(c n d:Nat)(φ E Y:SE):aq:=
 (.loop (.ac (.ok (.bin .sub 3 (.len (.aO (.var 5) 4)) (.i 1))) (.ac (.var c) φ))
 (.aE (.ok (.bin .geq 3 (.var n) (.i 0)))
 (.test (.ok (.bin .geq 3 (.var n) (.i 0)))
 (.bind (.idx 3 E (.var n))
 (.aE (.lV 3 (.var d))
 (.bind (.cat 7 96 (.var (n+1)) (.tr 7 (.ac (.ac (.i 9) (.ac (.i 0) (.ac (.i 0) (.ac (.aO (.var d) 0) (.ac (.aO (.var d) 1) (.ac (.aO (.var d) 2) (.ac (.tr 4 .an) .an))))))) .an)))
 (.aE (.ok (.bin .sub 3 (.var n) (.i 1)))
 (.next 3 (.ac (.ok (.bin .sub 3 (.var n) (.i 1))) (.ac (.var (d+1)) Y)))))))
 (.aE (.rw (.aO (.var 2) 0))
 (.aE (.rw (.aO (.var 5) 5))
 (.bind (.cat 7 96 (.var (n+1)) (.tr 7 (.ac (.ac (.i 10) (.ac (.aO (.var 2) 0) (.ac (.aO (.var 5) 5) (.ac (.i 0) (.ac (.s []) (.ac (.tr 4 .an) (.ac (.tr 4 .an) .an))))))) .an)))
 (.next 1 (.ac (.var d) .an))))))))
def VS:aq:=
 (.tG (xQ 2 dR (jA 15) 2 24 (lE 2 dR (jA 23) (tX 2 25 9 (mI 24) (mI 25) (lE 2 dR (jA 15) (jo 2 26 (lF 26) (lE 2 dR (jA 23) (jo 2 27 (lF 27) (.nx 3 (pY .eql 3 (lF 26) (lF 27)) .an))))) (.next 3 (fX e_))))) 1 (zO 24 (RP (jA 15) (jA 23) (sA 7 22 7 (jt ue (jA 15) (jA 23) bu (IW 4 4)) (vU 2 21 25))) (vU 2 21 22)))
def cE6(F:SE):aq:=
 (.tG
 (.aE (.len (.ok (.var 25)))
 (tF 24 3)) 1
 (.next 1 (.ac F (.ac (.var 26) .an))))
def cE7(F:SE):aq:=
 (.tG
 (.bind (.idx 2 (.ok (.var 6)) (.ok (.var 15)))
 (.aE (.lV 2 (.var 24))
 (.aE (.len (.aO (.var 24) 1))
 (mF 25 3 (.var 22) (.aO (.var 24) 1) (.ok (.var 23)) (.ok (.var 15)))))) 1
 (.aE (.ok (.bin .add 3 (.var 12) (.i 2)))
 (.bind (.idx 1 (.aO (.var 2) 5) (.ok (.bin .add 3 (.var 12) (.i 2))))
 (.aE (.ok (.var 25))
 (cE6 F)))))
def cE8(F:SE):aq:=
 (.loop (.ac (.i 0) (.ac (.var 18) .an))
 (.aE (.ok (.bin .lss 3 (.var 21) (.len (.ok (.var 20)))))
 (.test (.ok (.bin .lss 3 (.var 21) (.len (.ok (.var 20)))))
 (.bind (.idx 1 (.ok (.var 20)) (.var 21))
 (.aE (.ok (.var 23))
 VS))
 (.bind (.idx 1 (.aO (.var 2) 4) (.var 12))
 (.aE (.ok (.var 23))
 (cE7 F))))))
def cE9(F:SE):aq:=
 (.call 98 af (.ac (.ac (.aO (.var 0) 0) (.ac (.aO (.var 0) 1) .an)) (.ac (.ac (.aO (.var 2) 0) (.ac (.aO (.var 2) 1) (.ac (.aO (.var 2) 2) (.ac (.aO (.var 2) 3) (.ac (.aO (.var 2) 4) (.ac (.aO (.var 2) 5) .an)))))) (.ac (.var 12) .an)))
 (.aE (.ok (.var 17))
 (.bind (.cat 7 96 (.var 14) (.tr 7 (.ac (.ac (.i 3) (.ac (.ok (.var 15)) (.ac (.ok (.var 16)) (.ac (.i 0) (.ac (.s []) (.ac (.tr 4 .an) (.ac (.ok (.var 17)) .an))))))) .an)))
 (.aE (.rw (.aO (.var 2) 1))
 (.bind (.sub 1 (.aO (.var 2) 3) (.i 0) (.var 12))
 (.call 99 ab (.ac (.tr 1 (.ac (.tr 1 (.ac (.aO (.var 2) 1) .an)) (.ac (.var 19) .an))) .an)
 (.aE (.ok (.var 20))
 (.aE (.len (.ok (.var 20)))
 (cE8 F)))))))))
def O7:aq:=
 (.tG (ph 1 (FR 2) 12 (dV 15 (uG 97 (o0 gS cb (uI (jb 2 2 2 2 2 2) 12)) (Aa (jA 16) (jA 16) (cE9 (.i 13)) (cE9 (.var 13)))))) 2 (Cf 0 12 15 16))
def O8:aq:=
 (Oz (uI ua 15) m_ .lss 3 16 m_ (pn (.var 16) (sA 7 17 7 (jt (.i 6) (.var 16) bu bu (IW 4 4)) (vU 2 16 18))) (.test FJ (v_ 101 (jb 5 5 5 5 5 5) (jA 18) (jA 18) (sA 7 17 7 (jt (.i 7) bu bu bu (IW 4 4)) (FO 5 2 (sA 7 19 7 (yG (.i 8) 2 0 (FP 4 4)) (ud 5 4 5 4 1 (qU 20 21 23 .an (.aO (.var 5) 4) .an))) (ud 5 4 5 4 1 (qU 19 20 22 .an (.aO (.var 5) 4) .an)))) (FO 5 2 (sA 7 17 7 (yG (.i 8) 2 0 (FP 4 4)) (ud 5 4 5 4 1 (qU 19 20 22 .an (.aO (.var 5) 4) .an))) (ud 5 4 5 4 1 (qU 17 19 21 .an (.aO (.var 5) 4) .an)))) (FO 5 2 (sA 7 17 7 (yG (.i 8) 2 0 (FP 4 4)) (ud 5 4 5 4 1 (qU 18 19 21 .an (.aO (.var 5) 4) .an))) (ud 5 4 5 4 1 (qU 17 18 20 .an (.aO (.var 5) 4) .an)))))
def O9:aq:=
 (Oz (uI ua 14) m_ .lss 3 15 m_ (pn (.var 15) (sA 7 16 7 (jt (.i 6) (.var 15) bu bu (IW 4 4)) (vU 2 15 17))) (.test FJ (v_ 101 (jb 5 5 5 5 5 5) (jA 17) (jA 17) (sA 7 16 7 (jt (.i 7) bu bu bu (IW 4 4)) (FO 5 2 (sA 7 18 7 (yG (.i 8) 2 0 (FP 4 4)) (ud 5 4 5 4 1 (qU 19 20 23 (.ac (.tr 7 (.ac (.ac (.i 7) (.ac (.i 0) (.ac (.i 0) (.ac (.i 0) (.ac (.s []) (.ac (.tr 4 .an) (.ac (.tr 4 .an) .an))))))) .an)) .an) (.aO (.var 5) 4) (.ac (.var 22) .an)))) (ud 5 4 5 4 1 (qU 18 19 22 (.ac (.tr 7 (.ac (.ac (.i 7) (.ac (.i 0) (.ac (.i 0) (.ac (.i 0) (.ac (.s []) (.ac (.tr 4 .an) (.ac (.tr 4 .an) .an))))))) .an)) .an) (.aO (.var 5) 4) (.ac (.var 21) .an))))) (FO 5 2 (sA 7 16 7 (yG (.i 8) 2 0 (FP 4 4)) (ud 5 4 5 4 1 (qU 18 19 22 (.ac (.tr 7 (.ac (.ac (.i 8) (.ac (.aO (.var 2) 0) (.ac (.len (.ok (.var 6))) (.ac (.i 0) (.ac (.s []) (.ac (.tr 4 .an) (.ac (.tr 4 .an) .an))))))) .an)) .an) (.aO (.var 5) 4) (.ac (.var 21) .an)))) (ud 5 4 5 4 1 (qU 16 18 21 (.ac (.aO (.var 5) 4) .an) (.var 20) (.ac (.var 20) .an))))) (FO 5 2 (sA 7 16 7 (yG (.i 8) 2 0 (FP 4 4)) (ud 5 4 5 4 1 (qU 17 18 21 (.ac (.tr 7 (.ac (.ac (.i 8) (.ac (.aO (.var 2) 0) (.ac (.len (.ok (.var 6))) (.ac (.i 0) (.ac (.s []) (.ac (.tr 4 .an) (.ac (.tr 4 .an) .an))))))) .an)) .an) (.aO (.var 5) 4) (.ac (.var 20) .an)))) (ud 5 4 5 4 1 (qU 16 17 20 (.ac (.aO (.var 5) 4) .an) (.var 19) (.ac (.var 19) .an))))))
def O_:aq:=
 (.tG (ML 5 2 (Fx 5 2) (.aE m_ (FO 5 2 (sA 7 14 7 (yG (.i 5) 2 0 (FP 4 4)) (xl 5 1 O8)) (xl 5 1 O9)))) 1 (.nt (Z0 .neq 38 13 0) (Z1 (uI (FN (vV e_ 7)) 13)) (pq (tb 15) .gtr (tb 15) 200 (I2 (FN (vV e_ 7)) 6) (A_ (Ft 2 0 2 1 (uI FJ 15)) bu))))
def Pa:aq:=
 (Ox (FN (nN 11)) .lss 3 12 (mP 2 3) O7 O_)
def Pb:aq:=
 (.tG (.aE (qo 10) (tF 9 0)) 1 (xl 2 3 Pa))
def Pc:aq:=
 (.tG (.aE (qo 8) (tF 7 0)) 1 (lE 1 (vT 2 5) j9 (dV 10 Pb)))
def Pd:aq:=
 (.tG (lE 2 dR xK (jo 2 7 (lF 7) (mF 8 0 (.tr 7 .an) (.aO (.var 7) 1) (.tr 1 .an) (.aO (.var 2) 1)))) 1 (lE 1 (vT 2 5) bu (dV 8 Pc)))
def amT:aq:=
 (sy 2 (il 6 2 31 gS (ik dG dG (I2 (FN (vV e_ 7)) 2) (j2 32 gS (jb 2 2 2 2 2 2) (ik c8 c8 (I2 (FN (vV e_ 7)) 2) (lE 6 fS I1 (wi 6 5 33 5 5 5 5 5 5 (dV 6 Pd))))))))
def auj:aQ Tryz.prog (sB [⟨1,11064,1000082,[],[(5,0)],[],[]⟩,⟨1,11064,1000074,[],[(5,0)],[],[]⟩,⟨0,11,1000051,[],[(5,0)],[],[]⟩,⟨0,11,1000045,[],[(5,0)],[],[]⟩,⟨0,11,1000039,[],[(5,0)],[],[]⟩,⟨0,11,1000066,[],[(5,0),(8,0)],[],[]⟩,⟨3,11067818000,1,[(3,(3,0))],[(5,3),(5,0),(4,10),(8,3),(8,0)],[],[]⟩,⟨1,11067,7,[(1,(4,0))],[(5,0),(4,10),(8,0)],[(1,36),(1,35),(1,34),(1,33),(1,32),(1,31),(1,30),(1,29),(1,28),(1,27),(1,26),(1,25),(1,24),(1,23),(1,22),(1,21),(1,20),(1,19),(1,18),(1,17),(1,16),(1,15),(1,14),(1,13),(1,12),(1,11),(1,10),(1,9),(1,8),(1,7)],[]⟩,⟨0,11,9,[(0,(55,0))],[(5,3),(5,0),(4,11),(4,10)],[(0,53),(0,52),(0,51),(0,50),(0,49),(0,48),(0,47),(0,46),(0,45),(0,44),(0,43),(0,42),(0,41),(0,40),(0,39),(0,38),(0,37),(0,36),(0,35),(0,34),(0,33),(0,32),(0,31),(0,30),(0,29),(0,28),(0,27),(0,26),(0,25),(0,24),(0,23),(0,22),(0,21),(0,19),(0,18),(0,17),(0,16),(0,15),(0,14),(0,13),(0,12),(0,11)],[]⟩,⟨0,11,1000063,[],[(5,0),(4,11),(8,0)],[],[]⟩,⟨2,11064083,1,[(2,(8,0))],[(5,0),(8,0)],[],[]⟩,⟨2,11064075,1,[(2,(17,0))],[(5,0),(8,0)],[(2,14),(2,13),(2,12),(2,11),(2,10),(2,9),(2,8)],[]⟩,⟨1,11064,7,[(1,(52,0))],[(5,0),(8,0)],[(1,49),(1,48),(1,47),(1,46),(1,45),(1,44),(1,43),(1,42),(1,41),(1,40),(1,39),(1,38),(1,37),(1,36),(1,35),(1,34),(1,33),(1,32),(1,31),(1,30),(1,29),(1,28),(1,27),(1,26),(1,25),(1,24),(1,23),(1,22),(1,21),(1,20),(1,19),(1,18),(1,17),(1,16),(1,15),(1,14)],[]⟩,⟨1,11052,1,[(1,(8,0))],[(5,3),(5,0),(4,10)],[],[]⟩,⟨1,11046,1,[(1,(8,0))],[(5,3),(5,0),(4,10)],[],[]⟩,⟨1,11040,1,[(1,(17,0))],[(5,3),(5,0),(4,10)],[(1,14),(1,13),(1,12),(1,11),(1,10),(1,9),(1,8)],[]⟩,⟨1,11064,1000059,[(1,(59,0))],[],[],[]⟩]) 400 af 11=amT:=by kernel_rfl
section
def Nc(g:Gl):In:=⟨9,0,0,g,[]⟩
def za(n v:Int):In:=⟨10,n,v,eV,[]⟩
def ug(n m:Int):In:=⟨8,n,m,eV,[]⟩
def xW:In:=⟨7,0,0,eV,[]⟩
def lL(gs:List Gl):List In:=(gs.map Nc).reverse
def uh(gs:List Gl)(m:Nat):List In:=lL (gs.drop m)
def ajb(gs:List Gl):uh gs 0=lL gs:=rfl
def adz(gs:List Gl):uh gs gs.length=[]:=by simp[uh,lL]
def aaS{gs:List Gl}{m:Nat}(h:m<gs.length):uh gs m=uh gs (m+1)++[Nc gs[m]]:=by
 unfold uh lL;rw[awH h,awZ,List.reverse_cons]
def Q5(gs:List Gl)(m:Nat):(uh gs m).length<=gs.length:=by
 unfold uh lL;simp
def nV(o:Oc)(c:List In):IV:=.agg [iI o.r,iI o.h,iB o.k,cJ c]
section
variable{Q:IV->Prop}{k0 k1 k2:List IV->Prop}{hs:List At}{x0 x1 x2 x3 x4 x5 x6 x7 x8 x9 dT fD lq je ll wR og rO Bj rP zx GI JY JX:IV}
def xy{c n d:Nat}{φ E Y:SE}{O w:List IV}{u0 u1 u2 u3:IV}(hw:w=[]/\d=n+2\/(∃y,w=[y])/\d=n+3)(x:Pn)(r:Rl)(hX:jL Tryz.prog O φ=aa w)(hE:∀a b I,E.den Tryz.prog (O++(a::b::(w++I)))=aa (gK r.bc))(hY:∀a b I,jL Tryz.prog (O++(a::b::(w++I))) Y=aa w)
 (hb:r.bc.length<=6)(code:List In)(hl:code.length<=5000)(h2:O[2]?=aa (cD x))(h5:O[5]?=aa (.agg [u0,u1,u2,u3,gK r.bc,iI r.vars]))(hc:O[c]?=aa (cJ code))(hn:O.length=n)(hQ:k1 [cJ (code++lL r.bc++[za x.o.r r.vars])]):
 (qU c n d φ E Y).sat Tryz.prog CC Q [k0,k1,k2] O:=by
 subst hn;rw[show cD x=.agg [iI x.o.r,iI x.o.h,iB x.o.k,iL x.aJ,dr x.dQ,dr x.dt]from rfl]at h2;have a2:=λI=>wS (I:=I) h2;have a5:=λI=>wS (I:=I) h5;have g2:=λI (h:2<(O++I).length)=>Eo h (a2 I);have g5:=λI (h:5<(O++I).length)=>Eo h (a5 I);unfold qU;refine jc (λ(m:Nat)=>iI ((m:Int) - 1)::cJ (code++uh r.bc m)::w) (λm=>m<=r.bc.length) (λm=>m) r.bc.length ?_ (awe _) λm hm=>?_
 .simp[-awc,jD,h5,hc,hX,M7 (show r.bc.length<=1000 by omega),adz,ao]
 rcases m with _|m
 .have hct:=nu (a:=code++uh r.bc 0) (i:=za x.o.r r.vars) (by have:=Q5 r.bc 0;rw[awi];omega);rw[ajb]at*
  generalize code++lL r.bc++[za x.o.r r.vars]=C1 at*
  generalize code++lL r.bc=C at*
  rcases hw with⟨rfl,rfl⟩|⟨⟨y,rfl⟩,rfl⟩
  all_goals
   simp[-awc,jD,a2,a5,g2,g5,nq,sU,ao,aN,cellsOf];exact⟨_,hct,by simpa[nq,jh]using hQ⟩
 .have hmb:m<r.bc.length:=aj;have hG:=xq hmb;have zh:awK.wrap ((m:Int) - 1)=(m:Int) - 1:=eT aj aj;have hct:=nu (a:=code++uh r.bc (m+1)) (i:=Nc r.bc[m]) (by have:=Q5 r.bc (m+1);rw[awi];omega);rw[awv,<-aaS hmb]at hct;have wD:((m+1:Nat):Int) - 1=(m:Int):=aj;simp only[wD];generalize code++uh r.bc (m+1)=C1 at*
  have hE0:=hE (iI m) (cJ C1) [];have hY0:=hY (iI m) (cJ C1);rcases hw with⟨rfl,rfl⟩|⟨⟨y,rfl⟩,rfl⟩
  all_goals
   simp only[List.nil_append,aww,axk]at hE0 hY0;simp[-awc,jD,nq,sU,hE0,hY0,hG,zh,ao,cellsOf,ax2];exact⟨_,hct,.mk m rfl aj aj⟩
end
def uQ(n:Int):In:=⟨6,n,0,eV,[]⟩
def mz(n m:Int):In:=⟨5,n,m,eV,[]⟩
def mA(kl m:Nat):List In:=(axt (m- kl)).map λ(j:Nat)=>uQ ((kl+j:Nat):Int)
def Nd(kl:Nat):mA kl kl=[]:=by simp[mA]
def Lj(kl m:Nat):(mA kl m).length=m- kl:=by simp[mA]
def CQ{kl m:Nat}(h:kl<=m):mA kl (m+1)=mA kl m++[uQ m]:=by
 unfold mA;rw[show m+1- kl=(m- kl)+1 by omega,aA2,axw];simp only[awZ,ayf];rw[show kl+(m- kl)=m by omega]
def pF(b:Bool):List In:=if b then[xW]else[]
def pG(b:Bool)(n m:Int):List In:=if b then[ug n m]else[]
def lM(x:Pn)(r:Rl)(code:List In):List In:=
 code++mA r.aw.length (r.aw++r.az).length++pF (x.o.k&& !jg (rR r) r.bc)++pG (decide (r.az=[])) x.o.r (r.aw++r.az).length++lL r.bc++[za x.o.r r.vars]
section
variable{Q:IV->Prop}{k0 k1 k2:List IV->Prop}{hs:List At}{x0 x1 x2 x3 x4 x5 x6 x7 x8 x9 dT fD lq je ll wR og rO Bj rP zx GI JY JX:IV}
def amU(x:Pn)(r:Rl)(h:oa r)(hn:qP r)(hf:lY r)(hz:H3 r)(sJ:r.az=[])(code:List In)(hl:code.length<=1000)(hQ:k1 [cJ (lM x r code)]):
 O8.sat Tryz.prog CC Q [k0,k1] [x0,x1,cD x,x3,x4,cU r,c_ (r.aw++r.az),x7,x8,x9,dT,fD,lq,je,ll,cJ code]:=by
 obtain⟨⟨o1,o2,o3⟩,od,kn,te⟩:=x;have hN:cD ⟨⟨o1,o2,o3⟩,od,kn,te⟩=.agg [iI o1,iI o2,iB o3,iL od,dr kn,dr te]:=rfl;have qY:=VB r h hn hf;have hb:=h.b;have BI:=h.h;have hlen:(r.aw++r.az).length=r.aw.length+r.az.length:=awi
 have Jp:(r.az.length:Int)=0:=by
  rw[sJ];rfl
 unfold lM at hQ;rw[decide_eq_true sJ]at hQ;rw[cu]at qY;rw[hN,cu];generalize jg (rR r) r.bc=ib at*
 generalize r.aw++r.az=hs at*
 unfold O8;refine jc (λ(m:Nat)=>[iI m,cJ (code++mA r.aw.length m)]) (λm=>r.aw.length<=m/\m<=hs.length) (λm=>hs.length- m) r.aw.length ?_ ⟨awe _,by omega⟩ λm hm=>?_
 .simp[-awc,jD,Nd]
 obtain⟨wD,hm2⟩:=hm;have qu:=Lj r.aw.length m;by_cases ak:m<hs.length
 .have hw:=aI ak aj;have hc:=nu (a:=code++mA r.aw.length m) (i:=uQ m) (by rw[awi];omega);rw[awv,<-CQ wD]at hc;generalize code++mA r.aw.length m=C1 at*
  simp[-awc,jD,ak,hw,aN,cellsOf,ao];exact⟨_,hc,.mk (m+1) rfl ⟨by omega,by omega⟩ aj⟩
 .have uU:m=hs.length:=aj;subst uU;have Ym:(code++mA r.aw.length hs.length).length<=2000:=by rw[awi];omega
  generalize code++mA r.aw.length hs.length=C at*
  cases o3 with
  |false=>
   simp[-awc,jD,sJ,aN,cellsOf,ao];refine⟨_,nu (a:=C) (i:=ug o1 hs.length) (by first|omega|(simp;omega)),?_⟩;simp only[pF,pG,axu,ayl,ayH,ayB,ax_,ax8,if_true,if_false,aww,reduceCtorEq,awA]at hQ;exact xy (c:=18) (.inl ⟨rfl,rfl⟩) ⟨⟨o1,o2,af⟩,od,kn,te⟩ r rfl (λ_ _ _=>rfl) (λ_ _ _=>rfl) hb _ (by first|omega|(simp;omega)) rfl rfl rfl rfl hQ
  |true=>
   simp[-awc,jD,ao];refine⟨_,qY,?_⟩;cases ib with
   |false=>
    simp[-awc,jD,sJ,aN,cellsOf,ao];refine⟨_,nu (a:=C) (i:=xW) (by first|omega|(simp;omega)),?_⟩;have kj:C.length+1<=2001:=aj;generalize JZ:C++[xW]=C1 at*
    have av9:C1.length<=2001:=by rw[<-JZ];simp;omega
    refine⟨_,nu (a:=C1) (i:=ug o1 hs.length) (by first|omega|(simp;omega)),?_⟩;simp only[pF,pG,axu,ayl,ayH,ayB,ax_,ax8,if_true,if_false,aww,reduceCtorEq,awA,JZ]at hQ;exact xy (c:=20) (.inl ⟨rfl,rfl⟩) ⟨⟨o1,o2,ab⟩,od,kn,te⟩ r rfl (λ_ _ _=>rfl) (λ_ _ _=>rfl) hb _ (by first|omega|(simp;omega)) rfl rfl rfl rfl hQ
   |true=>
    simp[-awc,jD,sJ,aN,cellsOf,ao];refine⟨_,nu (a:=C) (i:=ug o1 hs.length) (by first|omega|(simp;omega)),?_⟩;simp only[pF,pG,axu,ayl,ayH,ayB,ax_,ax8,if_true,if_false,aww,reduceCtorEq,awA]at hQ;exact xy (c:=19) (.inl ⟨rfl,rfl⟩) ⟨⟨o1,o2,ab⟩,od,kn,te⟩ r rfl (λ_ _ _=>rfl) (λ_ _ _=>rfl) hb _ (by first|omega|(simp;omega)) rfl rfl rfl rfl hQ
def amV(x:Pn)(r:Rl)(h:oa r)(hn:qP r)(hf:lY r)(hz:H3 r)(sJ:r.az≠[])(code:List In)(hl:code.length<=1000)(hQ:k1 [cJ (lM x r code)]):
 O9.sat Tryz.prog CC Q [k0,k1] [x0,x1,cD x,x3,x4,cU r,c_ (r.aw++r.az),x7,x8,x9,dT,fD,lq,je,cJ code]:=by
 obtain⟨⟨o1,o2,o3⟩,od,kn,te⟩:=x;have hN:cD ⟨⟨o1,o2,o3⟩,od,kn,te⟩=.agg [iI o1,iI o2,iB o3,iL od,dr kn,dr te]:=rfl;have qY:=VB r h hn hf;have hb:=h.b;have BI:=h.h;have hlen:(r.aw++r.az).length=r.aw.length+r.az.length:=awi
 have Jp:¬(r.az.length:Int)=0:=by
  intro h0;exact sJ (awG aj)
 unfold lM at hQ;rw[decide_eq_false sJ]at hQ;rw[cu]at qY;rw[hN,cu];generalize jg (rR r) r.bc=ib at*
 generalize r.aw++r.az=hs at*
 unfold O9;refine jc (λ(m:Nat)=>[iI m,cJ (code++mA r.aw.length m)]) (λm=>r.aw.length<=m/\m<=hs.length) (λm=>hs.length- m) r.aw.length ?_ ⟨awe _,by omega⟩ λm hm=>?_
 .simp[-awc,jD,Nd]
 obtain⟨wD,hm2⟩:=hm;have qu:=Lj r.aw.length m;by_cases ak:m<hs.length
 .have hw:=aI ak aj;have hc:=nu (a:=code++mA r.aw.length m) (i:=uQ m) (by rw[awi];omega);rw[awv,<-CQ wD]at hc;generalize code++mA r.aw.length m=C1 at*
  simp[-awc,jD,ak,hw,aN,cellsOf,ao];exact⟨_,hc,.mk (m+1) rfl ⟨by omega,by omega⟩ aj⟩
 .have uU:m=hs.length:=aj;subst uU;have Ym:(code++mA r.aw.length hs.length).length<=2000:=by rw[awi];omega
  generalize code++mA r.aw.length hs.length=C at*
  cases o3 with
  |false=>
   simp[-awc,jD,sJ,aN,cellsOf,ao];simp only[pF,pG,axu,ayl,ayH,ayB,ax_,ax8,if_true,if_false,aww,reduceCtorEq,awA]at hQ;exact xy (c:=16) (.inr ⟨⟨_,rfl⟩,rfl⟩) ⟨⟨o1,o2,af⟩,od,kn,te⟩ r rfl (λ_ _ _=>rfl) (λ_ _ _=>rfl) hb _ (by first|omega|(simp;omega)) rfl rfl rfl rfl hQ
  |true=>
   simp[-awc,jD,ao];refine⟨_,qY,?_⟩;cases ib with
   |false=>
    simp[-awc,jD,sJ,aN,cellsOf,ao];refine⟨_,nu (a:=C) (i:=xW) (by first|omega|(simp;omega)),?_⟩;simp only[pF,pG,axu,ayl,ayH,ayB,ax_,ax8,if_true,if_false,aww,reduceCtorEq,awA]at hQ;exact xy (c:=18) (.inr ⟨⟨_,rfl⟩,rfl⟩) ⟨⟨o1,o2,ab⟩,od,kn,te⟩ r rfl (λ_ _ _=>rfl) (λ_ _ _=>rfl) hb _ (by first|omega|(simp;omega)) rfl rfl rfl rfl hQ
   |true=>
    simp[-awc,jD,sJ,aN,cellsOf,ao];simp only[pF,pG,axu,ayl,ayH,ayB,ax_,ax8,if_true,if_false,aww,reduceCtorEq,awA]at hQ;exact xy (c:=16) (.inr ⟨⟨_,rfl⟩,rfl⟩) ⟨⟨o1,o2,ab⟩,od,kn,te⟩ r rfl (λ_ _ _=>rfl) (λ_ _ _=>rfl) hb _ (by first|omega|(simp;omega)) rfl rfl rfl rfl hQ
end
end
end Go.Proofs.YtabefplkfkfdfaaGreat
