/- A part of the proof, no condition: the variables of terms and goals. -/
import Derived.RangeFuncNested
import Derived.RangeFuncBound
import Derived.RangeFuncCalls
import Derived.RangeFuncLeaves
import Derived.RangeFuncBox
import Derived.Shelf.Abstract
import Derived.Shelf.RegionOpen
import Derived.WalkKit
import Derived.OwnWalkIn
import Derived.TacticsInMore
import Derived.LoopNIn
import Derived.LoopIn
import Derived.Maps.OwnIn
import Derived.Maps.AppendAt
import Derived.Test.YtggffkaadeagbaaGreatProg
import Derived.Maps.Views
import Derived.Maps.OwnSet
import Derived.Test.YtggffkaadeagbaaGreatRgA
import Derived.Test.YtggffkaadeagbaaGreatEvH
open Go.Oper renaming semAt_some->atD
open Go.Proofs.Tryz renaming prog->aqD,func160->auI,ntmps160->avT,underlying3->ata,underlying192->atT,underlying4->atB,zeroValue4->auu
open List renaming size_toArray->arX,length_cons->ary,length_nil->ar0,push_toArray->arY,append_toArray->arO,nil_append->arI,cons_append->arV,append_nil->aqY,getElem?_eq_getElem->aqE,take_succ_eq_append_getElem->aqR,flatten_append->arS,flatten_cons->as9,flatten_nil->avo,length_append->aq3,take_append_drop->asi,append_assoc->aq4,take_of_length_le->aqT,foldl_append->ave,foldl_cons->arh,foldl_nil->avK,mem_map->aq5,eq_nil_of_length_eq_zero->arf,sizeOf_lt_of_mem->ar5,map_flatten->avp,getElem?_eq_some_iff->aqF,length_map->ar8,map_cons->arC
open Nat renaming reduceAdd->asm,reduceSub->asn,le_trans->aq2,le_refl->aqK,add_assoc->auF,mul_one->awn
open Array renaming replicate_succ->arK,replicate_zero->arL
open Go.Value renaming slice->auR,int->arG
open Go.World renaming grownBy_alloc->ate,size_alloc->avg,cell?->av1
open Go.RowKit.Below renaming refl->asl
open Go.Value.agg renaming injEq->auZ
open Array.mk renaming injEq->au7
open List.cons renaming injEq->arF
open Go.IntKind renaming i64->arc
open List.Pairwise renaming map->awc
open Subtype renaming ext->auE
open Go.Maps renaming IsMap->au8,int_keyed->aut
open Go.Boxed renaming new->avf
open Go.OwnFrom renaming and->avL
open Go.KeepsFrom renaming refl->awy,of_grownBy->awz
open Classical renaming choose_spec->asU,choose->awA
open SizeOf renaming sizeOf->atq
open Option.some renaming injEq->aqH
open Go.Fence renaming wide->arb
set_option linter.all false
namespace Go.Proofs.YtggffkaadeagbaaGreat
open Go Go.RowKit Go.Shelf
attribute [local go_sem] atD
set_option maxRecDepth 100000 in
set_option maxHeartbeats 1000000 in
theorem Tq(F:Fence)(n:Nat)(h:F.fn 212)(cx:F.round=none)(k m:Int)(s:ByteArray)(sl r:Value)(hr:r=if k=2 then sl else .slice none 0 0)(w:World):
 CallsIn F n aqD 212 #[.agg #[.int .i64 k,.int .i64 m,.string s,sl]] w fun e w'=>e=.returned r∧w'=w.alloc (.cells #[.int .i64 k,.int .i64 m,.string s,sl] 84):=by
 refine callsIn_of_wp Tryz.func212 rfl h ?_ cx;simp only[Tryz.ntmps212,arX,ary,ar0,asm,asn,arK,arL,arY,arO,arI,arV];subst hr
 gi_wp2
 all_goals first|(go_ret;exact⟨rfl,rfl⟩)|(exfalso;simp_all)
theorem wrap_small(i:Nat)(h:i+1≤9223372036854775807):wrap64 ((i:Int)+1)=((i+1:Nat):Int):=by unfold wrap64;omega
theorem Fv(n i:Nat)(h:i<n):n-(intOf (.int .i64 ((i+1:Nat):Int))).toNat<n-(intOf (.int .i64 (i:Int))).toNat:=by simp only[intOf];omega
abbrev fW:={x:Int//0≤x∧x≤1048576}
def SW(n₀:Nat)(W:World)(R:Value→List fW→Prop)(sl:Value)(jj:List (List fW)):Prop:=
 jj.length≤9223372036854775807∧((jj=[]∧∃a cap,sl=.slice a 0 cap)∨
 ∃b off cap,sl=.slice (some ⟨b,off,none⟩) jj.length cap∧b<n₀∧∀(i:Nat) (xs:List fW),jj[i]?=some xs→∃u0 u1 u2 u3,W.cell? ⟨b,off+i*4,none⟩=some u0∧W.cell? ⟨b,off+i*4+1,none⟩=some u1∧
  W.cell? ⟨b,off+i*4+2,none⟩=some u2∧W.cell? ⟨b,off+i*4+3,none⟩=some u3∧R (.agg #[u0,u1,u2,u3]) xs)
def TW(n₀:Nat)(W:World):Nat→Value→List fW→Prop
 |0,_,_=>False
 |d+1,v,xs=>∃k n s a l c,v=.agg #[.int .i64 k,.int .i64 n,.string s,.slice a l c]∧((k=1∧∃h,xs=[⟨n,h⟩])∨(k≠1∧k≠2∧xs=[])∨(k=2∧∃jj,SW n₀ W (TW n₀ W d) (.slice a l c) jj∧xs=jj.flatten))
theorem TW.form{n₀:Nat}{W:World}:∀{d:Nat} {v:Value} {xs:List fW},TW n₀ W d v xs→∃k n s a l c,v=.agg #[.int .i64 k,.int .i64 n,.string s,.slice a l c]
 |0,_,_,ht=>ht.elim
 |d+1,_,_,⟨k,n,s,a,l,c,h1,_⟩=>⟨k,n,s,a,l,c,h1⟩
theorem SW.below{n₀:Nat}{A B:World}(h:Below n₀ A B){R R':Value→List fW→Prop}(hR:∀v xs,R v xs→R' v xs){sl:Value}{jj:List (List fW)}(hs:SW n₀ A R sl jj):SW n₀ B R' sl jj:=by
 rcases hs with⟨hl,hs|⟨b,off,cap,h1,h2,h3⟩⟩
 ·exact⟨hl,.inl hs⟩
 ·refine⟨hl,.inr ⟨b,off,cap,h1,h2,fun i xs hi=>?_⟩⟩;obtain⟨u0,u1,u2,u3,g0,g1,g2,g3,g4⟩:=h3 i xs hi;exact⟨u0,u1,u2,u3,(h.cell h2).trans g0,(h.cell h2).trans g1,(h.cell h2).trans g2,(h.cell h2).trans g3,hR _ _ g4⟩
theorem TW.below{n₀:Nat}{A B:World}(h:Below n₀ A B):∀{d:Nat} {v:Value} {xs:List fW},TW n₀ A d v xs→TW n₀ B d v xs
 |0,_,_,ht=>ht
 |d+1,_,_,⟨k,n,s,a,l,c,h1,h2⟩=>⟨k,n,s,a,l,c,h1,h2.imp id fun h2=>h2.imp id fun⟨hk,jj,h3,h4⟩=>⟨hk,jj,h3.below h fun _ _=>TW.below h,h4⟩⟩
theorem MP{F:Fence}(hd:F.depth=none)(k:Nat):F.room k:=fun d h=>by rw[hd]at h;cases h
theorem RoundIn.D_{F:Fence}(hd:F.depth=none){m m':Nat}{P:Program}{l:Nat}{f:FuncId}{tmps:Array Value}{assign body:Code}{w:World}{R:Ending→World→Prop}
 (h:RoundIn F m P l f tmps assign body w R):RoundIn F m' P l f tmps assign body w R:=⟨h.1,fun c cs _=>h.2 c cs (MP hd _)⟩
theorem YieldAt.D_{F:Fence}(hd:F.depth=none){m:Nat}(m':Nat){P:Program}{l:Nat}{args:Array Value}{W:World}{R:Ending→World→Prop}(h:YieldAt F m P l args W R):YieldAt F m' P l args W R:=by
 obtain⟨fn,tmps,assign,body,hy,hR⟩:=h;exact⟨fn,tmps,assign,body,hy,RoundIn.D_ hd hR⟩
set_option maxRecDepth 100000 in
set_option maxHeartbeats 2000000 in
theorem ad6(F:Fence)(hd:F.depth=none)(Hd:F.fn 161)(Ea:F.fn 212)(cx:F.round=none)(l n₀ N:Nat)(J Jx:List fW→World→Prop)
 (LK:∀pre W W',J pre W→W.grownBy W' none→J pre W')
 (hY:∀m pre (x:fW) W,J pre W→pre.length<N→YieldAt F m aqD l #[.int .i64 x.1] W fun e W'=>
  (e=.returned (.bool true)∧J (pre++[x]) W'∧Below n₀ W W')∨(e=.returned (.bool false)∧Jx (pre++[x]) W')):
 ∀(d n:Nat) (v:Value) (xs pre:List fW) (W:World),TW n₀ W d v xs→n₀≤W.heap.size→J pre W→pre.length+xs.length≤N→
  CallsIn F n aqD 161 #[v,.func (.yield l) #[] #[]] W fun e W'=>
   (e=.returned (.bool true)∧J (pre++xs) W'∧Below n₀ W W')∨(e=.returned (.bool false)∧∃q,q<+:xs∧Jx (pre++q) W'):=by
 have xg:∀k:Nat,(F.depth.isSome=true→1≤k):=fun k h=>by rw[hd]at h;cases h
 intro d;induction d with
 |zero=>intro n v xs pre W ht;exact ht.elim
 |succ d ih=>
  intro n v xs pre W ht hn hJ hN;obtain⟨k,m,s,a0,l0,c0,rfl,Ts⟩:=ht;obtain⟨sl,oi⟩:∃sl,sl=auR a0 l0 c0:=⟨_,rfl⟩;rw[←oi]at Ts⊢;clear oi a0 l0 c0;refine callsIn_of_wp Tryz.func161 rfl Hd ?_ cx;simp only[Tryz.ntmps161,arX,ary,ar0,asm,asn,arK,arL,arY,arO,arI,arV];have bz:=LK pre W (W.alloc (.cells #[.int .i64 k,.int .i64 m,.string s,sl] 84)) hJ (ate W _ none);rcases Ts with⟨hk,Cx,rfl⟩|Ts
  ·subst hk;simp only[List.length_singleton]at hN⊢;obtain⟨fn,tmps,assign,body,hy,hR⟩:=hY (n- 1) pre ⟨m,Cx⟩ _ bz (by omega)
   gi_wp2_with ((try refine⟨xg _,?_⟩);refine hR.mono ?_;clear hR;rintro e W2 (⟨rfl,eQ,e_⟩|⟨rfl,vH⟩))
   ·go_ret
    exact .inl ⟨rfl,eQ,((asl n₀ W).alloc hn _).trans e_⟩
   ·go_ret
    exact .inr ⟨rfl,_,⟨[],aqY _⟩,vH⟩
  ·have hk:k≠1:=by
    rcases Ts with⟨h,_⟩|⟨h,_⟩
    ·exact h
    ·omega
   obtain⟨r,hr⟩:∃r,r=if k=2 then sl else auR none 0 0:=⟨_,rfl⟩
   obtain⟨us,FU,iC⟩:∃us:List (List fW),SW n₀ W (TW n₀ W d) r us∧us.flatten=xs:=by
    rcases Ts with⟨_,h2,rfl⟩|⟨h2,jj,hs,rfl⟩
    ·exact⟨[],by rw[hr,if_neg h2];exact⟨by simp,.inl ⟨rfl,none,0,rfl⟩⟩,rfl⟩
    ·exact⟨jj,by rw[hr,if_pos h2];exact hs,rfl⟩
   rw[←iC]at hN⊢;have hH:Hid (r=if k=2 then sl else auR none 0 0):=hr;clear iC hr Ts;rcases FU with⟨Sc,⟨rfl,a,cap,rfl⟩|⟨b,off,cap,rfl,C4,nK⟩⟩
   ·gi_wp2_with (first
     |((try refine⟨xg _,?_⟩);gi_at_call 212;refine(Tq F _ Ea cx k m s sl _ hH.out _).mono ?_;rintro e w' ⟨rfl,rfl⟩))
    gi_loopw [17] (fun p wr=>p=.int .i64 0∧J pre wr∧Below n₀ W wr) (fun _ _=>0)
    case atStart=>exact⟨rfl,LK _ _ _ bz (ate _ _ none),((asl n₀ W).alloc hn _).alloc (by simp;omega) _⟩
    case round=>
     obtain⟨rfl,y6,r7⟩:=hrel
     gi_wp2
     go_ret
     exact .inl ⟨rfl,by simpa using y6,r7⟩
   ·gi_wp2_with (first
     |((try refine⟨xg _,?_⟩);gi_at_call 212;refine(Tq F _ Ea cx k m s sl _ hH.out _).mono ?_;rintro e w' ⟨rfl,rfl⟩))
    gi_loopw [17] (fun p wr=>∃i:Nat,p=.int .i64 i∧i≤us.length∧J (pre++(us.take i).flatten) wr∧Below n₀ W wr) (fun p _=>us.length-(intOf p).toNat)
    case atStart=>exact⟨0,rfl,by omega,by simpa using LK _ _ _ bz (ate _ _ none),((asl n₀ W).alloc hn _).alloc (by simp;omega) _⟩
    case round=>
     obtain⟨i,rfl,hi,y6,r7⟩:=hrel;by_cases aa:i<us.length
     ·have fR:(i:Int)<(us.length:Int):=by omega
      obtain⟨u0,u1,u2,u3,g0,g1,g2,g3,g4⟩:=nK i us[i] (aqE aa);have c0:wr.cell? ⟨b,off+i*4,none⟩=some u0:=(r7.cell C4).trans g0;have c1:wr.cell? ⟨b,off+i*4+1,none⟩=some u1:=(r7.cell C4).trans g1;have c2:wr.cell? ⟨b,off+i*4+2,none⟩=some u2:=(r7.cell C4).trans g2;have c3:wr.cell? ⟨b,off+i*4+3,none⟩=some u3:=(r7.cell C4).trans g3;obtain⟨k',n',s',a',l',c',he⟩:=g4.form;simp only[auZ,au7,arF,and_true]at he;obtain⟨rfl,rfl,rfl,rfl⟩:=he;have aL:n₀≤wr.heap.size:=aq2 hn r7.size;have I5:(us.take (i+1)).flatten=(us.take i).flatten++us[i]:=by rw[aqR aa,arS];simp only[as9,avo,aqY]
      have hle:(us.take i).flatten.length+us[i].length≤us.flatten.length:=by
       rw[←aq3,←I5]
       conv=>rhs;rw[←asi (i+1) us,arS,aq3]
       omega
      have Y5:=ih (n- 1) _ us[i] (pre++(us.take i).flatten) (wr.alloc (.cells #[.int .i64 k',.int .i64 n',.string s',.slice a' l' c'] 84)) (g4.below (r7.alloc aL _)) (by simp;omega) (LK _ _ _ y6 (ate _ _ none)) (by rw[aq3];omega);clear g4 nK;have kT:wrap64 ((i:Int)+1)=((i+1:Nat):Int):=wrap_small i (by omega)
      gi_wp2_with ((try refine⟨xg _,?_⟩);refine Y5.mono ?_;clear Y5;rintro e W3 (⟨rfl,tN,dZ⟩|⟨rfl,q,hq,hx3⟩))
      ·go_roundw
       case rel=>exact⟨i+1,by first|rfl|rw[kT],aa,by rw[I5,←aq4];exact tN,(r7.alloc aL _).trans dZ⟩
       case measure=>first|exact Fv _ _ aa|(rw[kT];exact Fv _ _ aa)
      ·go_ret
       obtain⟨t,ht⟩:=hq;refine .inr ⟨rfl,(us.take i).flatten++q,⟨t++(us.drop (i+1)).flatten,?_⟩,by rw[←aq4];exact hx3⟩
       conv=>rhs;rw[←asi (i+1) us,arS,I5,←ht]
       simp[aq4]
     ·have fR:¬(i:Int)<(us.length:Int):=by omega
      gi_wp2
      go_ret
      have:us.take i=us:=aqT (by omega);exact .inl ⟨rfl,by rw[this]at y6;exact y6,r7⟩
set_option maxRecDepth 100000 in
set_option maxHeartbeats 2000000 in
theorem abg(F:Fence)(hd:F.depth=none)(He:F.fn 160)(Hd:F.fn 161)(Ea:F.fn 212)(cx:F.round=none)(n d l Bn n₀:Nat)(sl:Value)(us:List (List fW))(J Jx:List fW→World→Prop)
 (LK:∀pre W W',J pre W→W.grownBy W' none→J pre W')
 (hY:∀pre (x:fW) W,J pre W→pre.length<us.flatten.length→YieldAt F (n- 1) aqD l #[.int .i64 x.1] W fun e W'=>
  (e=.returned (.bool true)∧J (pre++[x]) W'∧Below n₀ W W')∨(e=.returned (.bool false)∧Jx (pre++[x]) W'))
 (W:World)(hb:Bn<n₀)(hn:n₀≤W.heap.size)(hBn:W.cell? ⟨Bn,0,none⟩=some sl)(hL:SW n₀ W (TW n₀ W d) sl us)(h0:J [] W):
 CallsIn F n aqD 160 #[.func (.yield l) #[] #[],.pointer (some ⟨Bn,0,none⟩)] W fun e W'=>(∃v,e=.returned v)∧
  ((∃ys,ys=us.flatten∧J ys W')∨(∃pre,pre<+:us.flatten∧Jx pre W')):=by
 have xg:∀k:Nat,(F.depth.isSome=true→1≤k):=fun k h=>by rw[hd]at h;cases h
 have hw:=ad6 F hd Hd Ea cx l n₀ us.flatten.length J Jx LK (fun m pre x W hj hl=>YieldAt.D_ hd m (hY pre x W hj hl)) d (n- 1);obtain⟨Sc,⟨rfl,a,cap,rfl⟩|⟨b,off,cap,rfl,C4,nK⟩⟩:=hL
 ·refine callsIn_of_wp auI rfl He ?_ cx;simp only[avT,arX,ary,ar0,asm,asn,arK,arL,arY,arO,arI,arV]
  gi_wp2
  gi_loopw [6] (fun p wr=>p=.int .i64 0∧J [] wr∧Below n₀ W wr) (fun _ _=>0)
  case atStart=>exact⟨rfl,h0,asl n₀ W⟩
  case round=>
   obtain⟨rfl,y6,r7⟩:=hrel
   gi_wp2
   go_end0
   exact⟨⟨_,rfl⟩,.inl ⟨_,rfl,y6⟩⟩
 ·refine callsIn_of_wp auI rfl He ?_ cx;simp only[avT,arX,ary,ar0,asm,asn,arK,arL,arY,arO,arI,arV]
  gi_wp2
  gi_loopw [6] (fun p wr=>∃i:Nat,p=.int .i64 i∧i≤us.length∧J (us.take i).flatten wr∧Below n₀ W wr) (fun p _=>us.length-(intOf p).toNat)
  case atStart=>exact⟨0,rfl,by omega,by simpa using h0,asl n₀ W⟩
  case round=>
   obtain⟨i,rfl,hi,y6,r7⟩:=hrel;have hBc:wr.cell? ⟨Bn,0,none⟩=some (.slice (some ⟨b,off,none⟩) us.length cap):=(r7.cell hb).trans hBn;by_cases aa:i<us.length
   ·have fR:(i:Int)<(us.length:Int):=by omega
    obtain⟨u0,u1,u2,u3,g0,g1,g2,g3,g4⟩:=nK i us[i] (aqE aa);have c0:wr.cell? ⟨b,off+i*4,none⟩=some u0:=(r7.cell C4).trans g0;have c1:wr.cell? ⟨b,off+i*4+1,none⟩=some u1:=(r7.cell C4).trans g1;have c2:wr.cell? ⟨b,off+i*4+2,none⟩=some u2:=(r7.cell C4).trans g2;have c3:wr.cell? ⟨b,off+i*4+3,none⟩=some u3:=(r7.cell C4).trans g3;have I5:(us.take (i+1)).flatten=(us.take i).flatten++us[i]:=by rw[aqR aa,arS];simp only[as9,avo,aqY]
    have hle:(us.take i).flatten.length+us[i].length≤us.flatten.length:=by
     rw[←aq3,←I5]
     conv=>rhs;rw[←asi (i+1) us,arS,aq3]
     omega
    have Y5:=hw _ us[i] (us.take i).flatten wr (g4.below r7) (aq2 hn r7.size) y6 hle;obtain⟨k',n',s',a',l',c',he⟩:=g4.form;simp only[auZ,au7,arF,and_true]at he;obtain⟨rfl,rfl,rfl,rfl⟩:=he;clear g4 nK hw;have kT:wrap64 ((i:Int)+1)=((i+1:Nat):Int):=wrap_small i (by omega)
    gi_wp2_with ((try refine⟨xg _,?_⟩);refine Y5.mono ?_;clear Y5;rintro e W3 (⟨rfl,tN,dZ⟩|⟨rfl,q,hq,hx3⟩))
    ·go_roundw
     case rel=>exact⟨i+1,by first|rfl|rw[kT],aa,by rw[I5];exact tN,r7.trans dZ⟩
     case measure=>first|exact Fv _ _ aa|(rw[kT];exact Fv _ _ aa)
    ·refine bodyPost_ret (results_none rfl _ _ _) rfl ?_;obtain⟨t,ht⟩:=hq;refine⟨⟨_,rfl⟩,.inr ⟨(us.take i).flatten++q,⟨t++(us.drop (i+1)).flatten,?_⟩,hx3⟩⟩
     conv=>rhs;rw[←asi (i+1) us,arS,I5,←ht]
     simp[aq4]
   ·have fR:¬(i:Int)<(us.length:Int):=by omega
    gi_wp2
    go_end0
    have:us.take i=us:=aqT (by omega);rw[this]at y6
    first|exact y6|exact⟨⟨_,rfl⟩,.inl y6⟩|exact .inl y6|exact⟨⟨_,rfl⟩,.inl ⟨_,rfl,y6⟩⟩
theorem V6(F:Fence)(hd:F.depth=none)(He:F.fn 160)(Hd:F.fn 161)(Ea:F.fn 212)(cx:F.round=none)(n d Bn n₀:Nat)(sl:Value)(us:List (List fW))(w:World)(hb:Bn<n₀)(hn:n₀≤w.heap.size)
 (hc:w.cell? ⟨Bn,0,none⟩=some sl)(hL:SW n₀ w (TW n₀ w d) sl us):
 SeqStopsK F n aqD 160 #[.pointer (some ⟨Bn,0,none⟩)] (fun x:fW=> #[arG .i64 x.1]) (Below n₀) (fun ys=>ys=us.flatten) (fun pre=>pre<+:us.flatten) us.flatten.length w:=fun l J Jx W hW hJ _ hY h0=>
 abg F hd He Hd Ea cx n d l Bn n₀ sl us J Jx (fun pre A B hj hg=>hJ pre A B none hj hg (fun r e=>by cases e)) hY W hb (aq2 hn hW.size) ((hW.cell (p:=⟨Bn,0,none⟩) (by show Bn<_;omega)).trans hc) (hL.below (hW.mono hn) fun _ _=>TW.below (hW.mono hn)) h0
set_option maxHeartbeats 1000000 in
theorem Km(F:Fence)(n:Nat)(h:F.fn 105)(cx:F.round=none)(a:Option Addr)(ln cp:Nat)(w:World):
 CallsIn F n aqD 105 #[.slice a ln cp] w fun e w'=>e=.returned (.func (.func 160) #[] #[.pointer (some ⟨w.heap.size,0,none⟩)])∧w'=w.alloc (.cells #[.slice a ln cp] 48):=by
 refine callsIn_of_wp Tryz.func105 rfl h ?_ cx;simp only[Tryz.ntmps105,arX,ary,ar0,asm,asn,arK,arL,arY,arO,arI,arV]
 gi_wp2
 go_ret
 exact⟨rfl,rfl⟩
end Go.Proofs.YtggffkaadeagbaaGreat
namespace Go.Proofs.YtggffkaadeagbaaGreat
open Go Go.RowKit Go.Shelf
attribute [local go_sem] atD
def uq(l:List fW):List fW:=l.foldl (fun acc x=>if x∈acc then acc else acc++[x]) []
theorem Qi(pre:List fW){x:fW}(h:x∈uq pre):uq (pre++[x])=uq pre:=by
 unfold uq at h⊢;rw[ave];simp only[arh,avK];rw[if_pos h]
theorem Kn(pre:List fW){x:fW}(h:x∉uq pre):uq (pre++[x])=uq pre++[x]:=by
 unfold uq at h⊢;rw[ave];simp only[arh,avK];rw[if_neg h]
theorem aoL(x:fW):(Lit.int .i64 x.1).wf=true:=by
 obtain⟨x,h1,h2⟩:=x;have e1:arc.min= -9223372036854775808:=by decide
 have e2:arc.max=9223372036854775807:=by decide
 simp[Lit.wf,e1,e2];omega
theorem Ko:∀(N:Nat) (l:List Int),l.Nodup→(∀x∈l,0≤x∧x<N)→l.length≤N
 |0,[],_,_=>by simp
 |0,x::l,_,h=>by have:=h x (by simp);omega
 |N+1,l,hn,h=>by
  have ih:=Ko N (l.erase (N:Int)) (hn.erase _) fun x hx=>by
   have h1:=h x (List.mem_of_mem_erase hx);have h2:x≠(N:Int):=fun he=>by rw[hn.mem_erase_iff]at hx;exact hx.1 he
   omega
  rw[List.length_erase]at ih;split at ih<;>omega
theorem abh(pre:List fW):(uq pre).Nodup:=by
 have key:∀(l acc:List fW),acc.Nodup→(l.foldl (fun acc x=>if x∈acc then acc else acc++[x]) acc).Nodup:=by
  intro l;induction l with
  |nil=>intro acc h;exact h
  |cons y l ih=>
   intro acc h;rw[arh];refine ih _ ?_;split
   ·exact h
   ·rename_i hy;rw[List.nodup_append];exact⟨h,by simp,fun a ha b hb=>by simp at hb;subst hb;exact fun he=>hy (he▸ha)⟩
 exact key pre [] (by simp)
theorem abi(pre:List fW):(uq pre).length≤1048577:=by
 have hn:((uq pre).map (·.1)).Nodup:=awc (fun x:fW=>x.1) (fun a b h he=>h (auE he)) (abh pre)
 have:=Ko 1048577 ((uq pre).map (·.1)) hn fun x hx=>by
  obtain⟨y,_,rfl⟩:=aq5.1 hx;have:=y.2;omega
 simpa using this
def y7{H:Type}(xs:List fW):DataW H:=xs.foldl (fun D x=>D.put (.int .i64 x.1) (.lit (.bool true))) (.map [])
theorem I6{H:Type}(pre:List fW)(x:fW):y7 (H:=H) (pre++[x])=(y7 pre).put (.int .i64 x.1) (.lit (.bool true)):=by simp[y7]
theorem RM{H:Type}(xs:List fW):au8 (y7 (H:=H) xs):=by
 have key:∀(l:List fW) (D:DataW H),au8 D→au8 (l.foldl (fun D x=>D.put (.int .i64 x.1) (.lit (.bool true))) D):=by
  intro l;induction l with
  |nil=>intro D h;exact h
  |cons y l ih=>
   intro D h;rw[arh];obtain⟨es,rfl⟩:=h;exact ih _ ⟨_,rfl⟩
 exact key xs _ ⟨[],rfl⟩
theorem Hf{H:Type}(x:fW):∀(n:Nat) (xs:List fW),xs.length=n→(y7 (H:=H) xs).atKey (.int .i64 x.1) (.lit (.bool false))=.lit (.bool (decide (x∈xs)))
 |0,xs,h=>by
  rw[arf h];rfl
 |n+1,xs,h=>by
  rcases List.eq_nil_or_concat xs with rfl|⟨ys,y,rfl⟩
  ·simp at h
  ·rw[List.concat_eq_append]at h⊢;rw[I6];by_cases SI:x=y
   ·subst SI;rw[Maps.atKey_put_same (RM ys) (by simp[WideAt.IsKeyLit])];simp
   ·rw[Maps.atKey_put_other (fun he=>SI (auE (by simpa using he))),Hf x n ys (by simpa using h)];simp[SI]
section
variable{H:Type}{F:Fence}{nF:Nat}{P:Program}(w:World){ops:Array Oper}{rest:List Oper}{o:Oper}{a:Act}{Q:Exit→Act→World→Prop}
theorem Eb{e:TypeId}(he:P.underlying e=some .bool){v:Value}{c:Bool}{ps:List MemPlace}(h:plainElem (H:=H) P e v=some (.lit (.bool c),ps)):v=.bool c:=by
 unfold plainElem at h;rw[he]at h;cases v<;>simp at h;rw[h.1]
theorem po(hg:o.guard=none)(m x:Operand)(t:TypeId)(fi:o.op=Op.lookup t m x false)
 (k e:TypeId)(K:Maps.Keyed P k)(ht:P.underlying t=some (.map k e))(he:P.underlying e=some .bool)(hz:(zeroValue e).run P w=.ok (.bool false) w)(b n:Nat)(D:DataW H)
 (hm:a.eval m=.map (some b))(kV:w.ownsMap P k (plainElem P e) b n D)(key:Value)(kl:Lit)(hx:a.eval x=key)(ma:keyOf P k key=some kl)(c:Bool)(aA:D.atKey kl (.lit (.bool false))=.lit (.bool c))
 (hK:wpListIn F nF P ops Q rest (a.put o.dst (.bool c)) w):
 wpListIn F nF P ops Q (o::rest) a w:=by
 refine wpListIn_plain hg fun K' hK'=>?_;obtain⟨v,ps,fF,hv⟩:=kV.lookup K ht hz (plainElem_bool he false) ma;rw[aA]at hv;obtain rfl:=Eb he hv;unfold Oper.wpIn;refine⟨by simp[Oper.about,fi],?_⟩;rw[Oper.semAt_plain F _ _ (by rw[fi];intro c wY;cases wY)];simp[execOp,fi,hm,hx,fF,Result.andThen];exact hK' _ _ hK
end
theorem Qj{H:Type}{P:Program}{k:TypeId}{R:Value→Option (DataW H×List MemPlace)}{W W':World}{b n:Nat}{D:DataW H}(h:W.ownsMap P k R b n D)(hb:W'.heap[b]?=W.heap[b]?):W'.ownsMap P k R b n D:=by
 obtain⟨es,clock,h1,h2⟩:=h;exact⟨es,clock,hb.trans h1,h2⟩
theorem alb:(aqD.info? 3).map (fun i=>(i.zero,i.size,i.bytes))=some (some (.int .i64 0),1,8):=by kernel_rfl
set_option maxRecDepth 100000 in
set_option maxHeartbeats 4000000 in
theorem ad7(F:Fence)(hd:F.depth=none)(n:Nat)(aoM:F.fn 104)(He:F.fn 160)(Hd:F.fn 161)(Ea:F.fn 212)(cx:F.round=none)(d Bn:Nat)(sl:Value)(us:List (List fW))(w:World)(hb:Bn<w.heap.size)
 (hc:w.cell? ⟨Bn,0,none⟩=some sl)(hL:SW w.heap.size w (TW w.heap.size w d) sl us):
 CallsIn F (n+3) aqD 104 #[.func (.func 160) #[] #[.pointer (some ⟨Bn,0,none⟩)]] w fun e W'=>∃v,e=.returned v∧W'.ownsRow w.heap.size 3 1 v (uq us.flatten).length ((uq us.flatten).map fun x=>arG .i64 x.1)∧(v=.slice none 0 0↔uq us.flatten=[])∧Below w.heap.size w W':=by
 have h1:1≤n+3:=by omega
 obtain⟨i0,hi,mG,mA,Ig⟩:=info_parts alb;have hmm:= @run_makeMap aqD;refine callsIn_of_wp_marks Tryz.func104 rfl aoM ?_ cx;simp only[Tryz.ntmps104,arX,ary,ar0,asm,asn,arK,arL,arY,arO,arI,arV]
 gi_wp2
 have bO0:=avf w 47 (.slice none 0 0);have Cc:=World.ownsMap_made (w.alloc (.cells #[.slice none 0 0] 47)) aqD 3 (plainElem (H:=Unit) aqD 4);have bS0:=avf ((w.alloc (.cells #[.slice none 0 0] 47)).alloc (.map #[] 0)) 192 (.map (some (w.heap.size+1)));simp only[avg]at Cc bS0;have C_:Below w.heap.size w (((w.alloc (.cells #[.slice none 0 0] 47)).alloc (.map #[] 0)).alloc (.cells #[.map (some (w.heap.size+1))] 192)):=(((asl _ w).alloc (aqK _) _).alloc (by simp) _).alloc (by simp;omega) _
 refine wpIn_rangeFunc_ownG cx h1 (gf:=160) (lb:= #[.pointer (some ⟨Bn,0,none⟩)]) rfl He (enters_of auI (by kernel_rfl) rfl)
  (V6 F hd He Hd Ea cx _ d Bn w.heap.size sl us _ hb (by simp;omega) ((C_.cell (p:=⟨Bn,0,none⟩) hb).trans hc) (hL.below C_ fun _ _=>TW.below C_)) belowK_t (belowK_b (by simp;omega)) (asl _ _) (fun _=>rfl)
  (fun pre W=>((∃v,Boxed W w.heap.size 47 v∧W.ownsRow w.heap.size 3 1 v (uq pre).length ((uq pre).map fun x=>arG .i64 x.1)∧(v=.slice none 0 0↔uq pre=[]))∧
   (Boxed W (w.heap.size+1+1) 192 (.map (some (w.heap.size+1)))∧W.ownsMap aqD 3 (plainElem (H:=Unit) aqD 4) (w.heap.size+1) (uq pre).length (y7 (uq pre))))∧Below w.heap.size w W)
  (fun _ _ _=>False)
  (avL (avL (Own.from (holdsRow_own w.heap.size w.heap.size 47 3 1 (fun pre=>(uq pre).length) (fun pre=>(uq pre).map fun x=>arG .i64 x.1) (fun pre v=>v=.slice none 0 0↔uq pre=[])) _)
   (fun s A B row hs hg hr=>⟨hs.1.kept hg (fun e=>by have:=(hr _ e.symm).1;simp at this;omega),hs.2.kept hg (fun e=>by have:=(hr _ e.symm).1;simp at this;omega)⟩)) (ownFrom_below (aqK _) (by simp;omega)))
  (fun _ _ _ _ _ hs _ _=>hs)
  ⟨⟨⟨_,(bO0.alloc _).alloc _,World.ownsRow_nil _ _ _ _,by simp[uq]⟩,⟨bS0,Cc.alloc _⟩⟩,C_⟩
  (fun x=>{tmps:= #[.func (.func 160) #[] #[.pointer (some ⟨Bn,0,none⟩)],undef,.slice none 0 0,.pointer (some ⟨w.heap.size,0,none⟩),.pointer (some ⟨w.heap.size+1+1,0,none⟩),.int .i64 x.1,.map (some (w.heap.size+1)),.func (.func 160) #[] #[.pointer (some ⟨Bn,0,none⟩)],.int .i64 x.1,undef,undef,undef,undef,undef,undef,undef,undef,undef,undef,undef],defers:=[]}) ?assign ?body ?done ?stop
 case assign=>
  intro l x W K hK
  gi_wp2
  exact hK
 case body=>
  rintro l pre x W ⟨⟨⟨v,hv,jQ,qg⟩,gb,kV⟩,hB⟩ aa;have bC:=gb.cell;have ma:=Maps.keyOf_int_mk ata (aoL x);have nC:=abi pre;have aL:w.heap.size≤W.heap.size:=hB.size;by_cases hx:x∈uq pre
  ·have aA:(y7 (H:=Unit) (uq pre)).atKey (.int .i64 x.1) (.lit (.bool false))=.lit (.bool true):=by rw[Hf x _ _ rfl];simp[hx]
   gi_wp2_with (gi_at_lookup;refine po _ rfl _ _ 192 rfl 3 4 (aut ata) atT atB (auu _) (w.heap.size+1) (uq pre).length _ rfl kV _ _ rfl ma true aA ?_)
   exact⟨awy _ _,asl _ _,⟨⟨v,hv,by rw[Qi pre hx];exact jQ,by rw[Qi pre hx];exact qg⟩,gb,by rw[Qi pre hx];exact kV⟩,hB⟩
  ·have aA:(y7 (H:=Unit) (uq pre)).atKey (.int .i64 x.1) (.lit (.bool false))=.lit (.bool false):=by rw[Hf x _ _ rfl];simp[hx]
   have CP:2000000≤maxLen:=by decide
   have KN:(uq pre).length<maxLen:=by omega
   have aoN:(uq pre).length+1≤maxLen:=by omega
   have hub:((uq pre).length+1)*8≤140737488355328:=by omega
   gi_wp2_with (first
    |(gi_at_lookup;refine po _ rfl _ _ 192 rfl 3 4 (aut ata) atT atB (auu _) (w.heap.size+1) (uq pre).length _ rfl kV _ _ rfl ma false aA ?_)
    |(gi_at_mapUpdate;refine wpListIn_mapUpdate_own _ rfl _ _ _ 192 rfl 3 4 (aut ata) atT _ (w.heap.size+1) (uq pre).length _ rfl kV KN _ _ _ rfl rfl ma _ [] (plainElem_bool atB true) ?_;intro w1 acF Ar;
      obtain⟨v1,SP,V7,aqe⟩:=holdsRow_own (β:=Unit) w.heap.size w.heap.size 47 3 1 (fun _=>(uq pre).length) (fun _=>(uq pre).map fun x=>arG .i64 x.1) (fun _ v=>v=.slice none 0 0↔uq pre=[]) () W w1 (some (w.heap.size+1)) ⟨v,hv,jQ,qg⟩ Ar (fun r e=>by cases e;obtain⟨es,ck,hh,_⟩:=kV;exact⟨_,hh,rfl⟩);
      have bH:=SP.cell;have V8:w.heap.size≤w1.heap.size:=aq2 aL Ar.size)
    |(gi_at_builtin;refine wpListIn_append_own _ rfl _ _ 47 rfl w.heap.size 3 i0 (.int .i64 0) 1 8 Tryz.underlying47 hi mG mA Ig rfl (by decide) _ _ _ rfl (V7.alloc _) ⟨w1.heap.size,0,none⟩ 1 1 [.int .i64 x.1] rfl rfl (cell_one_new _ _ _) (by simp[Value.oneCell']) aoN hub (aq2 V8 (by simp)) ?_;
      intro v' w2 Hr Y6 _;obtain⟨g',GY,rfl⟩:=ownsRow_succ Hr;obtain⟨Tt,hv3,hr3,hk3,dZ⟩:=SP.appended (by decide) V7 V8 (aqK _) Hr Y6;have gm:=Tt.cell;have Y7:=Tt.frozen))
   have C9:Boxed w1 (w.heap.size+1+1) 192 (.map (some (w.heap.size+1))):=gb.kept Ar (fun e=>by simp at e);have aoO:Boxed w2 (w.heap.size+1+1) 192 (.map (some (w.heap.size+1))):=(C9.alloc _).kept Y6 (C9.not_row (by decide) V7);have aoP:=aoO.other (B':=w.heap.size) (by omega) (.slice (some ⟨g',0,none⟩) ((uq pre).length+1) GY);have yQ:w1.heap[w.heap.size+1]?=_:=asU (asU acF)|>.1
   refine⟨(awz Ar (fun j e=>by cases e;simp)).trans (hk3.from _),((asl _ W).grown Ar aL (fun k e=>by cases e;omega)).trans dZ,
    ⟨⟨_,hv3,by rw[Kn pre hx];simpa using hr3,by rw[Kn pre hx];simp⟩,aoP,?_⟩,(hB.grown Ar aL (fun k e=>by cases e;omega)).trans dZ⟩
   rw[Kn pre hx,I6,aq3];exact Qj acF ((hk3.same _ _ yQ rfl).trans yQ.symm)
 case done=>
  rintro D ys W hD rfl ⟨⟨⟨v,hv,jQ,qg⟩,gb,kV⟩,hB⟩ hK;have hc:=hv.cell
  gi_wp2
  refine⟨by simp,.inl ⟨_,_,rfl,run_takeDeferred hK,?_⟩⟩;exact⟨_,results_tmp rfl _ _ _,v,rfl,ownsRow_putObj jQ _ hK rfl,qg,hB.trans (belowK_b (w:=w) (aqK _) W D _ _ (by simp at hD;omega) hK rfl rfl)⟩
 case stop=>
  rintro D c pre W _ _ h _;exact h.elim
end Go.Proofs.YtggffkaadeagbaaGreat
namespace Go.Proofs.YtggffkaadeagbaaGreat
open Go Go.RowKit Go.Shelf
attribute [local go_sem] atD
def fX:Tm→List Int
 |.mk k n _ ts=>if k=1 then[n]else if k=2 then Nf ts else[]
where Nf:List Tm→List Int
 |[]=>[]
 |t::ts=>fX t++Nf ts
theorem BX:∀l:List Tm,fX.Nf l=(l.map fX).flatten
 |[]=>rfl
 |t::l=>by simp[fX.Nf,BX l]
theorem eU{ι:Ev.Io}{v u:Value}(h:Ev.Rv ι (.raw v) u):u=v:=by cases h;rfl
theorem ad8{ι:Ev.Io}{a b c d:Ev.IV}{v:Value}(h:Ev.Rv ι (.agg [a,b,c,d]) v):∃x y z u,v=.agg #[x,y,z,u]∧Ev.Rv ι a x∧Ev.Rv ι b y∧Ev.Rv ι c z∧Ev.Rv ι d u:=by
 cases h with
 |agg _ vs hl hh=>
  match vs,hl,hh with
  |[x,y,z,u],_,hh=>exact⟨x,y,z,u,rfl,hh 0 _ _ rfl rfl,hh 1 _ _ rfl rfl,hh 2 _ _ rfl rfl,hh 3 _ _ rfl rfl⟩
theorem ad9{ι:Ev.Io}{a b:Ev.IV}{v:Value}(h:Ev.Rv ι (.agg [a,b]) v):∃x y,v=.agg #[x,y]∧Ev.Rv ι a x∧Ev.Rv ι b y:=by
 cases h with
 |agg _ vs hl hh=>
  match vs,hl,hh with
  |[x,y],_,hh=>exact⟨x,y,rfl,hh 0 _ _ rfl rfl,hh 1 _ _ rfl rfl⟩
theorem ad_{ι:Ev.Io}{a b c:Ev.IV}{v:Value}(h:Ev.Rv ι (.agg [a,b,c]) v):∃x y z,v=.agg #[x,y,z]∧Ev.Rv ι a x∧Ev.Rv ι b y∧Ev.Rv ι c z:=by
 cases h with
 |agg _ vs hl hh=>
  match vs,hl,hh with
  |[x,y,z],_,hh=>exact⟨x,y,z,rfl,hh 0 _ _ rfl rfl,hh 1 _ _ rfl rfl,hh 2 _ _ rfl rfl⟩
theorem Hg{ι:Ev.Io}{s:Nat}{es:List Ev.IV}{v:Value}(h:Ev.Rv ι (.tree s es) v):∃a l c,v=.slice a l c:=by
 cases h with
 |tree=>exact⟨_,_,_,rfl⟩
 |dN=>exact⟨_,_,_,rfl⟩
theorem V9{M:Ev.Fz}{w:World}(hM:Ev.tK M w):∀(d:Nat) (t:Tm) (v:Value),atq t≤d→nN t→dm t→Ev.Rv (Ev.eo M) (dB t) v→∃xs,TW w.heap.size w d v xs∧xs.map (·.1)=fX t:=by
 intro d;induction d with
 |zero=>intro t v h;obtain⟨k,n,s,ts⟩:=t;simp at h
 |succ d ih=>
  rintro⟨k,n,s,ts⟩ v hd hn hf hr;rw[ug]at hr;obtain⟨x,y,z,u,rfl,h1,h2,h3,h4⟩:=ad8 hr;obtain rfl:=eU h1;obtain rfl:=eU h2;obtain rfl:=eU h3;obtain⟨a,l,c,rfl⟩:=Hg h4;obtain⟨_,r8,cb⟩:=(mC _).1 hn;obtain⟨DI,Y7⟩:=(yY _).1 hf;simp only[Tm.k,Tm.n,Tm.ts]at r8 cb DI Y7;by_cases mK:k=1
  ·exact⟨[⟨n,DI mK⟩],⟨k,n,_,a,l,c,rfl,.inl ⟨mK,DI mK,rfl⟩⟩,by simp[fX,mK]⟩
  by_cases zH:k=2
  rotate_left
  ·exact⟨[],⟨k,n,_,a,l,c,rfl,.inr (.inl ⟨mK,zH,rfl⟩)⟩,by simp[fX,mK,zH]⟩
  obtain⟨jj,hs,hv⟩:∃jj,SW w.heap.size w (TW w.heap.size w d) (.slice a l c) jj∧jj.map (fun xs=>xs.map (·.1))=ts.map fX:=acG hM r8 h4 fun t ht v hv=>by
   have:=ar5 ht;exact ih t v (by simp at hd;omega) (cb t ht) (Y7 zH t ht) hv
  refine⟨jj.flatten,⟨k,n,_,a,l,c,rfl,.inr (.inr ⟨zH,jj,hs,rfl⟩)⟩,?_⟩;rw[avp];simp[fX,zH,BX,hv]
where
 acG {M:Ev.Fz} {w:World} (hM:Ev.tK M w) {ts:List Tm} {a:Option Addr} {l c:Nat} (r8:Sm ts) (h4:Ev.Rv (Ev.eo M) (iT ts) (.slice a l c)) {R:Value→List fW→Prop} (ih:∀t∈ts,∀v,Ev.Rv (Ev.eo M) (dB t) v→∃xs,R v xs∧xs.map (·.1)=fX t):
  ∃jj,SW w.heap.size w R (.slice a l c) jj∧jj.map (fun xs=>xs.map (·.1))=ts.map fX:=by
  have gS:∀(b off k:Nat) (u:Value),Ev.oe M b (off+k)=some u→b<w.heap.size∧w.cell? ⟨b,off+k,none⟩=some u:=by
   intro b off k u h;unfold Ev.oe at h;cases hb:M b with
   |none=>rw[hb]at h;cases h
   |some cs=>
    rw[hb]at h;obtain⟨e,f,hh⟩:=hM b cs hb;exact⟨hM.lt hb,by simp only[av1,hh];exact h⟩
  obtain⟨es,gl⟩:∃es,es=ts.map dB:=⟨_,rfl⟩;have h4':Ev.Rv (Ev.eo M) (.tree 4 es) (.slice a l c):=by rw[gl];exact h4
  cases h4' with
  |dN _ _ _ hs hn=>
   have:ts=[]:=by simpa using gl.symm
   subst this;exact⟨[],⟨by simp,.inl ⟨rfl,_,_,rfl⟩⟩,rfl⟩
  |tree _ _ b off _ us hs hc bC hu hh=>
   subst gl;rcases Nat.eq_zero_or_pos ts.length with h0|sj
   ·have:ts=[]:=arf h0;subst this;exact⟨[],⟨by simp,.inl ⟨rfl,_,_,rfl⟩⟩,rfl⟩
   have nK:∀i (hi:i<ts.length),∃xs,R (.agg #[us (i*4),us (i*4+1),us (i*4+2),us (i*4+3)]) xs∧xs.map (·.1)=fX ts[i]:=by
    intro i hi;refine ih ts[i] (List.getElem_mem hi) _ ?_;have su:(ts.map dB)[i]?=some (dB ts[i]):=by simp[hi]
    have qx:=fun j c=>hh i (dB ts[i]) j c su;generalize ts[i]=t at qx;obtain⟨k,n,s,ts'⟩:=t;rw[ug]at qx⊢;refine .agg _ [us (i*4),us (i*4+1),us (i*4+2),us (i*4+3)] rfl fun j c v h1 h2=>?_;have:=qx j c h1;have hj:j<4:=by have:=(aqF.1 h1).1;simpa using this
    match j,hj with
    |0,_=>simp at h2;subst h2;exact this
    |1,_=>simp at h2;subst h2;exact this
    |2,_=>simp at h2;subst h2;exact this
    |3,_=>simp at h2;subst h2;exact this
   have Y8:∀k,k<ts.length*4→b<w.heap.size∧w.cell? ⟨b,off+k,none⟩=some (us k):=fun k hk=>gS b off k _ (hu k (by simpa using hk));refine⟨List.ofFn fun i:Fin ts.length=>awA (nK i.1 i.2),⟨by simpa using r8,.inr ⟨b,off,_,by simp;rfl,(Y8 0 (by omega)).1,fun i xs hi=>?_⟩⟩,?_⟩
   ·rw[List.getElem?_ofFn]at hi;split at hi
    ·rename_i aa;simp only[aqH]at hi;subst hi;refine⟨_,_,_,_,(Y8 (i*4) (by omega)).2,?_,?_,?_,(asU (nK i aa)).1⟩
     ·rw[auF];exact(Y8 (i*4+1) (by omega)).2
     ·rw[auF];exact(Y8 (i*4+2) (by omega)).2
     ·rw[auF];exact(Y8 (i*4+3) (by omega)).2
    ·cases hi
   ·refine List.ext_getElem (by simp) fun i h1 h2=>?_;simp only[List.getElem_map,List.getElem_ofFn];exact(asU (nK i (by simpa using h1))).2
theorem Hh{M:Ev.Fz}{w W':World}{new:Bool}{u:Value}{l:List Int}(hM:Ev.tK M w)(hB:Below w.heap.size w W')(hr:W'.ownsRow w.heap.size 3 1 u l.length (l.map fun x=>arG .i64 x)):Ev.JC new M w (Ev.iL l) u W':=by
 have sE:∀b,b<w.heap.size→W'.heap[b]?=w.heap[b]? :=hB.block;refine⟨Ev.ri new M w W',?_,?_,?_,?_,hB.os,hB.tape,hB.output,hB.size,sE⟩
 ·intro b c hb;unfold Ev.ri at hb;split at hb
  ·rename_i aa;split at hb
   ·cases hb
   ·rw[sE b aa];exact hM b c hb
  ·split at hb
   ·rename_i c' e f hh;cases hb;exact⟨e,f,hh⟩
   ·cases hb
 ·intro b c hb;unfold Ev.ri at hb;split at hb
  ·split at hb
   ·cases hb
   ·rename_i hn;exact .inl ⟨by simpa using hn,hb⟩
  ·exact .inr (by omega)
 ·intro hn b c hb;have aa:=hM.lt hb;unfold Ev.ri;rw[if_pos aa,if_neg (by simp[hn])];exact hb
 ·obtain⟨hlen,⟨rfl,h0⟩|⟨g,cap,cur,rfl,hg,hh,fw,_,aL,I5⟩⟩:=hr
  ·have:l=[]:=arf h0;subst this;exact .dN 1 none 0 (by omega) (fun _=>rfl)
  ·by_cases hl:l=[]
   ·subst hl;exact .dN 1 _ _ (by omega) (by simp)
   have iJ:∀(k:Nat) (x:Int),l[k]?=some x→cur[k]?=some (arG .i64 x):=by
    intro k x hk;have ot:=(aqF.1 hk).1;have:(cur.toList.take (l.length*1))[k]?=some (arG .i64 x):=by rw[I5];simp[hk]
    rw[List.getElem?_take,if_pos (by omega)]at this;simpa using this
   have hcm:Ev.oe (Ev.ri new M w W') g=fun k=>cur[k]? :=by
    funext k;unfold Ev.oe Ev.ri;rw[if_neg (by omega),hh];rfl
   have:=Ev.Rv.tree (ι:=Ev.eo (Ev.ri new M w W')) 1 (l.map Ev.iI) g 0 cap (fun k=>(cur[k]?).getD Go.undef) (by omega) (by simpa using fw) (fun e he=>by obtain⟨x,_,rfl⟩:=aq5.1 he;rfl)
    (fun k hk=>by
     show Ev.oe (Ev.ri new M w W') g (0+k)=_;rw[hcm];simp only[ar8,awn]at hk;have:=iJ k l[k] (aqE hk);simp[this]) (fun i e j c he hc=>by
     rw[List.getElem?_map]at he;obtain⟨x,hx,rfl⟩:=Option.map_eq_some_iff.1 he
     have hj:j=0:=by
      have:=(aqF.1 hc).1;simp[Ev.cellsOf]at this;exact this
     subst hj;simp[Ev.cellsOf]at hc;subst hc;have:=iJ i x hx;simp only[awn,Nat.add_zero,this,Option.getD_some];exact .raw _)
   simpa using this
end Go.Proofs.YtggffkaadeagbaaGreat
namespace Go.Proofs.YtggffkaadeagbaaGreat
open Go Go.RowKit Go.Shelf
attribute [local go_sem] atD
theorem SW.wide{n₀ n₁:Nat}{A:World}(h:n₀≤n₁){R R':Value→List fW→Prop}(hR:∀v xs,R v xs→R' v xs){sl:Value}{jj:List (List fW)}(hs:SW n₀ A R sl jj):SW n₁ A R' sl jj:=by
 rcases hs with⟨hl,hs|⟨b,off,cap,h1,h2,h3⟩⟩
 ·exact⟨hl,.inl hs⟩
 ·refine⟨hl,.inr ⟨b,off,cap,h1,by omega,fun i xs hi=>?_⟩⟩;obtain⟨u0,u1,u2,u3,g0,g1,g2,g3,g4⟩:=h3 i xs hi;exact⟨u0,u1,u2,u3,g0,g1,g2,g3,hR _ _ g4⟩
theorem TW.wide{n₀ n₁:Nat}{A:World}(h:n₀≤n₁):∀{d:Nat} {v:Value} {xs:List fW},TW n₀ A d v xs→TW n₁ A d v xs
 |0,_,_,ht=>ht
 |d+1,_,_,⟨k,n,s,a,l,c,h1,h2⟩=>⟨k,n,s,a,l,c,h1,h2.imp id fun h2=>h2.imp id fun⟨hk,jj,h3,h4⟩=>⟨hk,jj,h3.wide h fun _ _=>TW.wide h,h4⟩⟩
theorem Qk{W:World}{b b':Nat}{e:TypeId}{s:Nat}{v:Value}{n:Nat}{xs:List Value}(h:b≤b')(hr:W.ownsRow b' e s v n xs):W.ownsRow b e s v n xs:=by
 obtain⟨h1,h2|⟨g,cap,cur,h2,h3,h4⟩⟩:=hr
 ·exact⟨h1,.inl h2⟩
 ·exact⟨h1,.inr ⟨g,cap,cur,h2,by omega,h4⟩⟩
def As(l:List Int):List Int:=l.foldl (fun acc x=>if x∈acc then acc else acc++[x]) []
theorem agP(xs:List fW):(uq xs).map (·.1)=As (xs.map (·.1)):=by
 have key:∀(l acc:List fW),(l.foldl (fun acc x=>if x∈acc then acc else acc++[x]) acc).map (·.1)=(l.map (·.1)).foldl (fun acc x=>if x∈acc then acc else acc++[x]) (acc.map (·.1)):=by
  intro l;induction l with
  |nil=>intro acc;rfl
  |cons y l ih=>
   intro acc;rw[arh,ih,arC,arh]
   congr 1
   have hm:y∈acc↔y.1∈acc.map (·.1):=by
    rw[aq5];exact⟨fun h=>⟨y,h,rfl⟩,fun⟨a,h1,h2⟩=>by rw[auE h2.symm];exact h1⟩
   by_cases h:y∈acc
   ·rw[if_pos h,if_pos (hm.1 h)]
   ·rw[if_neg h,if_neg (fun h'=>h (hm.2 h'))];simp
 exact key xs []
def varsOf(ts:List Tm):List Int:=As (ts.map fX).flatten
theorem Tu{w w2:World}{ts:List Tm}{a:Option Addr}{l c d:Nat}{jj:List (List fW)}(n Bn:Nat)(hB:Below w.heap.size w w2)(dE:SW w2.heap.size w2 (TW w2.heap.size w2 d) (.slice a l c) jj)(hv:jj.map (fun xs=>xs.map (·.1))=ts.map fX)(hb:Bn<w2.heap.size)
 (hc:w2.cell? ⟨Bn,0,none⟩=some (.slice a l c)):
 CallsIn arb n aqD 104 #[.func (.func 160) #[] #[.pointer (some ⟨Bn,0,none⟩)]] w2 fun e W'=>∃v,e=.returned v∧W'.ownsRow w.heap.size 3 1 v (varsOf ts).length ((varsOf ts).map fun x=>arG .i64 x)∧Below w.heap.size w W':=by
 have gR:(uq jj.flatten).map (·.1)=varsOf ts:=by
  rw[agP,avp,varsOf,hv]
 refine callsIn_wide.2 (callsIn_wide.1 ((ad7 arb rfl 0 trivial trivial trivial trivial rfl d Bn _ jj w2 hb hc dE).mono ?_));rintro e W' ⟨v,rfl,h1,_,h3⟩;refine⟨v,rfl,?_,hB.trans (h3.mono hB.size)⟩;rw[←gR,List.map_map,ar8];exact Qk hB.size h1
theorem Mb{M:Ev.Fz}{w w2:World}(hM:Ev.tK M w){ts:List Tm}(r8:Sm ts)(hn:∀t∈ts,nN t)(hf:∀t∈ts,dm t){a:Option Addr}{l c:Nat}(hr:Ev.Rv (Ev.eo M) (iT ts) (.slice a l c))(n Bn:Nat)(hB:Below w.heap.size w w2)(hb:Bn<w2.heap.size)
 (hc:w2.cell? ⟨Bn,0,none⟩=some (.slice a l c)):
 CallsIn arb n aqD 104 #[.func (.func 160) #[] #[.pointer (some ⟨Bn,0,none⟩)]] w2 fun e W'=>∃v,e=.returned v∧W'.ownsRow w.heap.size 3 1 v (varsOf ts).length ((varsOf ts).map fun x=>arG .i64 x)∧Below w.heap.size w W':=by
 obtain⟨d,hd⟩:∃d,∀t∈ts,atq t≤d:=⟨atq ts,fun t ht=>Nat.le_of_lt (ar5 ht)⟩;obtain⟨jj,hs,hv⟩:=V9.acG (R:=TW w.heap.size w d) hM r8 hr fun t ht v hv=>V9 hM d t v (hd t ht) (hn t ht) (hf t ht) hv;exact Tu n Bn hB ((hs.below hB fun _ _=>TW.below hB).wide hB.size fun _ _=>TW.wide hB.size) hv hb hc
theorem zu(W:World)(v:Value)(t:TypeId):(W.alloc (.cells #[v] t)).cell? ⟨W.heap.size,0,none⟩=some v:=(avf W t v).cell
set_option maxRecDepth 100000 in
set_option maxHeartbeats 2000000 in
theorem aoQ(new:Bool)(s:List UInt8){ts:List Tm}(r8:Sm ts)(hn:∀t∈ts,nN t)(hf:∀t∈ts,dm t):Ev.eV aqD false new 46 [.agg [Ev.iS s,iT ts]] (Ev.iL (varsOf ts)):=by
 intro M w us hM lq;obtain⟨v,oM,rfl,h1,h2⟩:=lq.sb;obtain rfl:=h2.of_nil;obtain⟨x,y,rfl,g1,g2⟩:=ad9 h1;obtain rfl:=eU g1;obtain⟨a,l,c,rfl⟩:=Hg g2;have Ah:Below w.heap.size w ((w.alloc (.cells #[.string ⟨s.toArray⟩,.slice a l c] 50)).alloc (.cells #[.slice a l c] 48)):=((asl _ w).alloc (aqK _) _).alloc (by simp) _;have Mc:=Mb hM r8 hn hf g2 0 (w.heap.size+1) Ah (by simp) (by have:=zu (w.alloc (.cells #[.string ⟨s.toArray⟩,.slice a l c] 50)) (.slice a l c) 48;simpa using this);clear g1 g2 h1 h2 lq;refine callsIn_of_wp Tryz.func46 rfl trivial ?_ rfl;simp only[Tryz.ntmps46,arX,ary,ar0,asm,asn,arK,arL,arY,arO,arI,arV]
 gi_wp2_with (first
  |(refine⟨trivial,rfl,?_⟩;refine(Km arb _ trivial rfl a l c _).mono ?_;rintro e w' ⟨rfl,rfl⟩)
  |(refine⟨trivial,rfl,?_⟩;refine Mc.mono ?_;clear Mc;rintro e W2 ⟨u,rfl,jQ,hB⟩))
 go_ret
 exact⟨rfl,Hh hM hB jQ⟩
set_option maxRecDepth 100000 in
set_option maxHeartbeats 2000000 in
theorem aoR(new:Bool)(op:Int)(s:List UInt8){ts:List Tm}(r8:Sm ts)(hn:∀t∈ts,nN t)(hf:∀t∈ts,dm t):Ev.eV aqD false new 87 [.agg [Ev.iI op,Ev.iS s,iT ts]] (Ev.iL (varsOf ts)):=by
 intro M w us hM lq;obtain⟨v,oM,rfl,h1,h2⟩:=lq.sb;obtain rfl:=h2.of_nil;obtain⟨x,z,y,rfl,g1,g3,g2⟩:=ad_ h1;obtain rfl:=eU g1;obtain rfl:=eU g3;obtain⟨a,l,c,rfl⟩:=Hg g2;have Ah:Below w.heap.size w ((w.alloc (.cells #[.int .i64 op,.string ⟨s.toArray⟩,.slice a l c] 88)).alloc (.cells #[.slice a l c] 48)):=((asl _ w).alloc (aqK _) _).alloc (by simp) _;have Mc:=Mb hM r8 hn hf g2 0 (w.heap.size+1) Ah (by simp) (by have:=zu (w.alloc (.cells #[.int .i64 op,.string ⟨s.toArray⟩,.slice a l c] 88)) (.slice a l c) 48;simpa using this);clear g1 g2 h1 h2 lq;refine callsIn_of_wp Tryz.func87 rfl trivial ?_ rfl;simp only[Tryz.ntmps87,arX,ary,ar0,asm,asn,arK,arL,arY,arO,arI,arV]
 gi_wp2_with (first
  |(refine⟨trivial,rfl,?_⟩;refine(Km arb _ trivial rfl a l c _).mono ?_;rintro e w' ⟨rfl,rfl⟩)
  |(refine⟨trivial,rfl,?_⟩;refine Mc.mono ?_;clear Mc;rintro e W2 ⟨u,rfl,jQ,hB⟩))
 go_ret
 exact⟨rfl,Hh hM hB jQ⟩
set_option maxRecDepth 100000 in
set_option maxHeartbeats 2000000 in
theorem aoS(new:Bool)(t:Tm)(hn:nN t)(hf:dm t):Ev.eV aqD false new 88 [dB t] (Ev.iL (varsOf [t])):=by
 intro M w us hM lq;obtain⟨v,oM,rfl,h1,h2⟩:=lq.sb;obtain rfl:=h2.of_nil;obtain⟨xs,htw,iC⟩:=V9 hM (atq t) t v (aqK _) hn hf h1;obtain⟨k,n,s,a,l,c,rfl⟩:=htw.form;have C_:Below w.heap.size w (w.alloc (.cells #[.int .i64 k,.int .i64 n,.string s,.slice a l c] 84)):=(asl _ w).alloc (aqK _) _;have Ah:Below w.heap.size w ((w.alloc (.cells #[.int .i64 k,.int .i64 n,.string s,.slice a l c] 84)).alloc (.cells #[.int .i64 k,.int .i64 n,.string s,.slice a l c] 84)):=C_.alloc (by simp) _;have IG:Below w.heap.size w (((w.alloc (.cells #[.int .i64 k,.int .i64 n,.string s,.slice a l c] 84)).alloc (.cells #[.int .i64 k,.int .i64 n,.string s,.slice a l c] 84)).alloc (.cells #[.slice (some ⟨w.heap.size+1,0,none⟩) 1 1] 48)):=Ah.alloc (by simp;omega) _;have eR:=World.alloc_heap_new (w.alloc (.cells #[.int .i64 k,.int .i64 n,.string s,.slice a l c] 84)) (.cells #[.int .i64 k,.int .i64 n,.string s,.slice a l c] 84);rw[avg]at eR;have acH:(((w.alloc (.cells #[.int .i64 k,.int .i64 n,.string s,.slice a l c] 84)).alloc (.cells #[.int .i64 k,.int .i64 n,.string s,.slice a l c] 84)).alloc (.cells #[.slice (some ⟨w.heap.size+1,0,none⟩) 1 1] 48)).heap[w.heap.size+1]?=some (.cells #[.int .i64 k,.int .i64 n,.string s,.slice a l c] 84):=(Below.heap_alloc _ _ _ (by simp)).trans eR
 have Mc:=Tu (ts:=[t]) (jj:=[xs]) (d:=atq t) (a:=some ⟨w.heap.size+1,0,none⟩) (l:=1) (c:=1) 0 (w.heap.size+1+1) IG
  ⟨by simp,.inr ⟨w.heap.size+1,0,1,rfl,by simp,fun i ys hi=>by
   cases i with
   |succ i=>simp at hi
   |zero=>
    simp at hi;subst hi;refine⟨.int .i64 k,.int .i64 n,.string s,.slice a l c,?_,?_,?_,?_,(TW.below IG htw).wide IG.size⟩
    all_goals (simp only[av1];rw[acH];rfl)⟩⟩ (by simp only[arC,List.map_nil,iC]) (by simp) (by have:=zu ((w.alloc (.cells #[.int .i64 k,.int .i64 n,.string s,.slice a l c] 84)).alloc (.cells #[.int .i64 k,.int .i64 n,.string s,.slice a l c] 84)) (.slice (some ⟨w.heap.size+1,0,none⟩) 1 1) 48;simpa using this)
 clear eR acH h1 h2 lq htw;refine callsIn_of_wp Tryz.func88 rfl trivial ?_ rfl;simp only[Tryz.ntmps88,arX,ary,ar0,asm,asn,arK,arL,arY,arO,arI,arV]
 gi_wp2_with (first
  |(refine⟨trivial,rfl,?_⟩;refine(Km arb _ trivial rfl _ 1 1 _).mono ?_;rintro e w' ⟨rfl,rfl⟩)
  |(refine⟨trivial,rfl,?_⟩;refine Mc.mono ?_;clear Mc;rintro e W2 ⟨u,rfl,jQ,hB⟩))
 go_ret
 exact⟨rfl,Hh hM hB jQ⟩
end Go.Proofs.YtggffkaadeagbaaGreat
