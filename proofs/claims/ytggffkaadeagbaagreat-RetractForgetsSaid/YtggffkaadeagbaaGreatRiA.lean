/- A part of the proof, no condition: the variables of terms and goals. -/
import Derived.RangeFuncNested
import Derived.RangeFuncBound
import Derived.RangeFuncCalls
import Derived.RangeFuncLeaves
import Derived.RangeFuncBox
import Derived.Shelf.Abstract
import Derived.Shelf.RegionOpen
import Derived.WalkKit
import Derived.OwnWalkIn
import Derived.TacticsInMore
import Derived.LoopNIn
import Derived.LoopIn
import Derived.Maps.OwnIn
import Derived.Maps.AppendAt
import Derived.Test.YtggffkaadeagbaaGreatProg
import Derived.Maps.Views
import Derived.Maps.OwnSet
import Derived.Test.YtggffkaadeagbaaGreatRgA
import Derived.Test.YtggffkaadeagbaaGreatEvH
open Go.Oper renaming semAt_some->au5
open Go.Proofs.Tryz renaming prog->ar3,func160->av8,ntmps160->axc,underlying3->auE,underlying192->avl,underlying4->au3,zeroValue4->avU
open List renaming size_toArray->ato,length_cons->asS,length_nil->att,push_toArray->atp,append_toArray->atf,nil_append->as7,cons_append->atm,append_nil->asp,getElem?_eq_getElem->ar4,take_succ_eq_append_getElem->asm,flatten_append->atu,flatten_cons->auD,flatten_nil->awI,length_append->asu,take_append_drop->auz,append_assoc->asv,take_of_length_le->asV,foldl_append->awB,foldl_cons->asI,foldl_nil->aw5,mem_map->asO,eq_nil_of_length_eq_zero->asH,sizeOf_lt_of_mem->atD,map_flatten->awJ,getElem?_eq_some_iff->ar5,length_map->atC,map_cons->asY
open Nat renaming reduceAdd->atP,reduceSub->atQ,le_trans->asr,le_refl->ar9,add_assoc->av2,mul_one->axM
open Array renaming replicate_succ->atb,replicate_zero->atc
open Go.Value renaming slice->awe,int->as8
open Go.World renaming grownBy_alloc->auG,size_alloc->awD,cell?->axm
open Go.RowKit.Below renaming refl->atO
open Go.Value.agg renaming injEq->awk
open Array.mk renaming injEq->aws
open List.cons renaming injEq->as5
open Go.IntKind renaming i64->aso
open List.Pairwise renaming map->axC
open Subtype renaming ext->av1
open Go.Maps renaming IsMap->awt,int_keyed->avT
open Go.Boxed renaming new->awC
open Go.OwnFrom renaming and->aw6
open Go.KeepsFrom renaming refl->axY,of_grownBy->axZ
open Classical renaming choose_spec->auq,choose->ax0
open SizeOf renaming sizeOf->auR
open Option.some renaming injEq->ar7
open Go.Fence renaming wide->asz
set_option linter.all false
namespace Go.Proofs.YtggffkaadeagbaaGreat
open Go Go.RowKit Go.Shelf
attribute [local go_sem] au5
set_option maxRecDepth 100000 in
set_option maxHeartbeats 1000000 in
theorem Td(F:Fence)(n:Nat)(h:F.fn 212)(cy:F.round=none)(k m:Int)(s:ByteArray)(sl r:Value)(hr:r=if k=2 then sl else .slice none 0 0)(w:World):
 CallsIn F n ar3 212 #[.agg #[.int .i64 k,.int .i64 m,.string s,sl]] w fun e w'=>e=.returned r∧w'=w.alloc (.cells #[.int .i64 k,.int .i64 m,.string s,sl] 84):=by
 refine callsIn_of_wp Tryz.func212 rfl h ?_ cy;simp only[Tryz.ntmps212,ato,asS,att,atP,atQ,atb,atc,atp,atf,as7,atm];subst hr
 gi_wp2
 all_goals first|(go_ret;exact⟨rfl,rfl⟩)|(exfalso;simp_all)
theorem wrap_small(i:Nat)(h:i+1≤9223372036854775807):wrap64 ((i:Int)+1)=((i+1:Nat):Int):=by unfold wrap64;omega
theorem Fp(n i:Nat)(h:i<n):n-(intOf (.int .i64 ((i+1:Nat):Int))).toNat<n-(intOf (.int .i64 (i:Int))).toNat:=by simp only[intOf];omega
abbrev fW:={x:Int//0≤x∧x≤1048576}
def SW(n₀:Nat)(W:World)(R:Value→List fW→Prop)(sl:Value)(jf:List (List fW)):Prop:=
 jf.length≤9223372036854775807∧((jf=[]∧∃a cap,sl=.slice a 0 cap)∨
 ∃b off cap,sl=.slice (some ⟨b,off,none⟩) jf.length cap∧b<n₀∧∀(i:Nat) (xs:List fW),jf[i]?=some xs→∃u0 u1 u2 u3,W.cell? ⟨b,off+i*4,none⟩=some u0∧W.cell? ⟨b,off+i*4+1,none⟩=some u1∧
  W.cell? ⟨b,off+i*4+2,none⟩=some u2∧W.cell? ⟨b,off+i*4+3,none⟩=some u3∧R (.agg #[u0,u1,u2,u3]) xs)
def TW(n₀:Nat)(W:World):Nat→Value→List fW→Prop
 |0,_,_=>False
 |d+1,v,xs=>∃k n s a l c,v=.agg #[.int .i64 k,.int .i64 n,.string s,.slice a l c]∧((k=1∧∃h,xs=[⟨n,h⟩])∨(k≠1∧k≠2∧xs=[])∨(k=2∧∃jf,SW n₀ W (TW n₀ W d) (.slice a l c) jf∧xs=jf.flatten))
theorem TW.form{n₀:Nat}{W:World}:∀{d:Nat} {v:Value} {xs:List fW},TW n₀ W d v xs→∃k n s a l c,v=.agg #[.int .i64 k,.int .i64 n,.string s,.slice a l c]
 |0,_,_,ht=>ht.elim
 |d+1,_,_,⟨k,n,s,a,l,c,h1,_⟩=>⟨k,n,s,a,l,c,h1⟩
theorem SW.below{n₀:Nat}{A B:World}(h:Below n₀ A B){R R':Value→List fW→Prop}(hR:∀v xs,R v xs→R' v xs){sl:Value}{jf:List (List fW)}(hs:SW n₀ A R sl jf):SW n₀ B R' sl jf:=by
 rcases hs with⟨hl,hs|⟨b,off,cap,h1,h2,h3⟩⟩
 ·exact⟨hl,.inl hs⟩
 ·refine⟨hl,.inr ⟨b,off,cap,h1,h2,fun i xs hi=>?_⟩⟩;obtain⟨u0,u1,u2,u3,g0,g1,g2,g3,g4⟩:=h3 i xs hi;exact⟨u0,u1,u2,u3,(h.cell h2).trans g0,(h.cell h2).trans g1,(h.cell h2).trans g2,(h.cell h2).trans g3,hR _ _ g4⟩
theorem TW.below{n₀:Nat}{A B:World}(h:Below n₀ A B):∀{d:Nat} {v:Value} {xs:List fW},TW n₀ A d v xs→TW n₀ B d v xs
 |0,_,_,ht=>ht
 |d+1,_,_,⟨k,n,s,a,l,c,h1,h2⟩=>⟨k,n,s,a,l,c,h1,h2.imp id fun h2=>h2.imp id fun⟨hk,jf,h3,h4⟩=>⟨hk,jf,h3.below h fun _ _=>TW.below h,h4⟩⟩
theorem Mj{F:Fence}(hd:F.depth=none)(k:Nat):F.room k:=fun d h=>by rw[hd]at h;cases h
theorem RoundIn.Ek{F:Fence}(hd:F.depth=none){m m':Nat}{P:Program}{l:Nat}{f:FuncId}{tmps:Array Value}{assign body:Code}{w:World}{R:Ending→World→Prop}
 (h:RoundIn F m P l f tmps assign body w R):RoundIn F m' P l f tmps assign body w R:=⟨h.1,fun c cs _=>h.2 c cs (Mj hd _)⟩
theorem YieldAt.Ek{F:Fence}(hd:F.depth=none){m:Nat}(m':Nat){P:Program}{l:Nat}{args:Array Value}{W:World}{R:Ending→World→Prop}(h:YieldAt F m P l args W R):YieldAt F m' P l args W R:=by
 obtain⟨fn,tmps,assign,body,hy,hR⟩:=h;exact⟨fn,tmps,assign,body,hy,RoundIn.Ek hd hR⟩
set_option maxRecDepth 100000 in
set_option maxHeartbeats 2000000 in
theorem aeq(F:Fence)(hd:F.depth=none)(G9:F.fn 161)(El:F.fn 212)(cy:F.round=none)(l n₀ N:Nat)(J Jx:List fW→World→Prop)
 (Lo:∀pre W W',J pre W→W.grownBy W' none→J pre W')
 (hY:∀m pre (x:fW) W,J pre W→pre.length<N→YieldAt F m ar3 l #[.int .i64 x.1] W fun e W'=>
  (e=.returned (.bool true)∧J (pre++[x]) W'∧Below n₀ W W')∨(e=.returned (.bool false)∧Jx (pre++[x]) W')):
 ∀(d n:Nat) (v:Value) (xs pre:List fW) (W:World),TW n₀ W d v xs→n₀≤W.heap.size→J pre W→pre.length+xs.length≤N→
  CallsIn F n ar3 161 #[v,.func (.yield l) #[] #[]] W fun e W'=>
   (e=.returned (.bool true)∧J (pre++xs) W'∧Below n₀ W W')∨(e=.returned (.bool false)∧∃q,q<+:xs∧Jx (pre++q) W'):=by
 have FE:∀k:Nat,(F.depth.isSome=true→1≤k):=fun k h=>by rw[hd]at h;cases h
 intro d;induction d with
 |zero=>intro n v xs pre W ht;exact ht.elim
 |succ d ih=>
  intro n v xs pre W ht hn hJ hN;obtain⟨k,m,s,a0,l0,c0,rfl,Te⟩:=ht;obtain⟨sl,oE⟩:∃sl,sl=awe a0 l0 c0:=⟨_,rfl⟩;rw[←oE]at Te⊢;clear oE a0 l0 c0;refine callsIn_of_wp Tryz.func161 rfl G9 ?_ cy;simp only[Tryz.ntmps161,ato,asS,att,atP,atQ,atb,atc,atp,atf,as7,atm];have bk:=Lo pre W (W.alloc (.cells #[.int .i64 k,.int .i64 m,.string s,sl] 84)) hJ (auG W _ none);rcases Te with⟨hk,CP,rfl⟩|Te
  ·subst hk;simp only[List.length_singleton]at hN⊢;obtain⟨fn,tmps,assign,body,hy,hR⟩:=hY (n- 1) pre ⟨m,CP⟩ _ bk (by omega)
   gi_wp2_with ((try refine⟨FE _,?_⟩);refine hR.mono ?_;clear hR;rintro e W2 (⟨rfl,dP,fB⟩|⟨rfl,v_⟩))
   ·go_ret
    exact .inl ⟨rfl,dP,((atO n₀ W).alloc hn _).trans fB⟩
   ·go_ret
    exact .inr ⟨rfl,_,⟨[],asp _⟩,v_⟩
  ·have hk:k≠1:=by
    rcases Te with⟨h,_⟩|⟨h,_⟩
    ·exact h
    ·omega
   obtain⟨r,hr⟩:∃r,r=if k=2 then sl else awe none 0 0:=⟨_,rfl⟩
   obtain⟨us,HL,il⟩:∃us:List (List fW),SW n₀ W (TW n₀ W d) r us∧us.flatten=xs:=by
    rcases Te with⟨_,h2,rfl⟩|⟨h2,jf,hs,rfl⟩
    ·exact⟨[],by rw[hr,if_neg h2];exact⟨by simp,.inl ⟨rfl,none,0,rfl⟩⟩,rfl⟩
    ·exact⟨jf,by rw[hr,if_pos h2];exact hs,rfl⟩
   rw[←il]at hN⊢;have hH:Hid (r=if k=2 then sl else awe none 0 0):=hr;clear il hr Te;rcases HL with⟨Rx,⟨rfl,a,cap,rfl⟩|⟨b,off,cap,rfl,Dh,tz⟩⟩
   ·gi_wp2_with (first
     |((try refine⟨FE _,?_⟩);gi_at_call 212;refine(Td F _ El cy k m s sl _ hH.out _).mono ?_;rintro e w' ⟨rfl,rfl⟩))
    gi_loopw [17] (fun p wr=>p=.int .i64 0∧J pre wr∧Below n₀ W wr) (fun _ _=>0)
    case atStart=>exact⟨rfl,Lo _ _ _ bk (auG _ _ none),((atO n₀ W).alloc hn _).alloc (by simp;omega) _⟩
    case round=>
     obtain⟨rfl,zE,sb⟩:=hrel
     gi_wp2
     go_ret
     exact .inl ⟨rfl,by simpa using zE,sb⟩
   ·gi_wp2_with (first
     |((try refine⟨FE _,?_⟩);gi_at_call 212;refine(Td F _ El cy k m s sl _ hH.out _).mono ?_;rintro e w' ⟨rfl,rfl⟩))
    gi_loopw [17] (fun p wr=>∃i:Nat,p=.int .i64 i∧i≤us.length∧J (pre++(us.take i).flatten) wr∧Below n₀ W wr) (fun p _=>us.length-(intOf p).toNat)
    case atStart=>exact⟨0,rfl,by omega,by simpa using Lo _ _ _ bk (auG _ _ none),((atO n₀ W).alloc hn _).alloc (by simp;omega) _⟩
    case round=>
     obtain⟨i,rfl,hi,zE,sb⟩:=hrel;by_cases aa:i<us.length
     ·have fR:(i:Int)<(us.length:Int):=by omega
      obtain⟨u0,u1,u2,u3,g0,g1,g2,g3,g4⟩:=tz i us[i] (ar4 aa);have c0:wr.cell? ⟨b,off+i*4,none⟩=some u0:=(sb.cell Dh).trans g0;have c1:wr.cell? ⟨b,off+i*4+1,none⟩=some u1:=(sb.cell Dh).trans g1;have c2:wr.cell? ⟨b,off+i*4+2,none⟩=some u2:=(sb.cell Dh).trans g2;have c3:wr.cell? ⟨b,off+i*4+3,none⟩=some u3:=(sb.cell Dh).trans g3;obtain⟨k',n',s',a',l',c',he⟩:=g4.form;simp only[awk,aws,as5,and_true]at he;obtain⟨rfl,rfl,rfl,rfl⟩:=he;have aK:n₀≤wr.heap.size:=asr hn sb.size;have I0:(us.take (i+1)).flatten=(us.take i).flatten++us[i]:=by rw[asm aa,atu];simp only[auD,awI,asp]
      have hle:(us.take i).flatten.length+us[i].length≤us.flatten.length:=by
       rw[←asu,←I0]
       conv=>rhs;rw[←auz (i+1) us,atu,asu]
       omega
      have Zq:=ih (n- 1) _ us[i] (pre++(us.take i).flatten) (wr.alloc (.cells #[.int .i64 k',.int .i64 n',.string s',.slice a' l' c'] 84)) (g4.below (sb.alloc aK _)) (by simp;omega) (Lo _ _ _ zE (auG _ _ none)) (by rw[asu];omega);clear g4 tz;have jv:wrap64 ((i:Int)+1)=((i+1:Nat):Int):=wrap_small i (by omega)
      gi_wp2_with ((try refine⟨FE _,?_⟩);refine Zq.mono ?_;clear Zq;rintro e W3 (⟨rfl,tV,ef⟩|⟨rfl,q,hq,hx3⟩))
      ·go_roundw
       case rel=>exact⟨i+1,by first|rfl|rw[jv],aa,by rw[I0,←asv];exact tV,(sb.alloc aK _).trans ef⟩
       case measure=>first|exact Fp _ _ aa|(rw[jv];exact Fp _ _ aa)
      ·go_ret
       obtain⟨t,ht⟩:=hq;refine .inr ⟨rfl,(us.take i).flatten++q,⟨t++(us.drop (i+1)).flatten,?_⟩,by rw[←asv];exact hx3⟩
       conv=>rhs;rw[←auz (i+1) us,atu,I0,←ht]
       simp[asv]
     ·have fR:¬(i:Int)<(us.length:Int):=by omega
      gi_wp2
      go_ret
      have:us.take i=us:=asV (by omega);exact .inl ⟨rfl,by rw[this]at zE;exact zE,sb⟩
set_option maxRecDepth 100000 in
set_option maxHeartbeats 2000000 in
theorem abt(F:Fence)(hd:F.depth=none)(G_:F.fn 160)(G9:F.fn 161)(El:F.fn 212)(cy:F.round=none)(n d l Bn n₀:Nat)(sl:Value)(us:List (List fW))(J Jx:List fW→World→Prop)
 (Lo:∀pre W W',J pre W→W.grownBy W' none→J pre W')
 (hY:∀pre (x:fW) W,J pre W→pre.length<us.flatten.length→YieldAt F (n- 1) ar3 l #[.int .i64 x.1] W fun e W'=>
  (e=.returned (.bool true)∧J (pre++[x]) W'∧Below n₀ W W')∨(e=.returned (.bool false)∧Jx (pre++[x]) W'))
 (W:World)(hb:Bn<n₀)(hn:n₀≤W.heap.size)(hBn:W.cell? ⟨Bn,0,none⟩=some sl)(hL:SW n₀ W (TW n₀ W d) sl us)(h0:J [] W):
 CallsIn F n ar3 160 #[.func (.yield l) #[] #[],.pointer (some ⟨Bn,0,none⟩)] W fun e W'=>(∃v,e=.returned v)∧
  ((∃ys,ys=us.flatten∧J ys W')∨(∃pre,pre<+:us.flatten∧Jx pre W')):=by
 have FE:∀k:Nat,(F.depth.isSome=true→1≤k):=fun k h=>by rw[hd]at h;cases h
 have hw:=aeq F hd G9 El cy l n₀ us.flatten.length J Jx Lo (fun m pre x W hj hl=>YieldAt.Ek hd m (hY pre x W hj hl)) d (n- 1);obtain⟨Rx,⟨rfl,a,cap,rfl⟩|⟨b,off,cap,rfl,Dh,tz⟩⟩:=hL
 ·refine callsIn_of_wp av8 rfl G_ ?_ cy;simp only[axc,ato,asS,att,atP,atQ,atb,atc,atp,atf,as7,atm]
  gi_wp2
  gi_loopw [6] (fun p wr=>p=.int .i64 0∧J [] wr∧Below n₀ W wr) (fun _ _=>0)
  case atStart=>exact⟨rfl,h0,atO n₀ W⟩
  case round=>
   obtain⟨rfl,zE,sb⟩:=hrel
   gi_wp2
   go_end0
   exact⟨⟨_,rfl⟩,.inl ⟨_,rfl,zE⟩⟩
 ·refine callsIn_of_wp av8 rfl G_ ?_ cy;simp only[axc,ato,asS,att,atP,atQ,atb,atc,atp,atf,as7,atm]
  gi_wp2
  gi_loopw [6] (fun p wr=>∃i:Nat,p=.int .i64 i∧i≤us.length∧J (us.take i).flatten wr∧Below n₀ W wr) (fun p _=>us.length-(intOf p).toNat)
  case atStart=>exact⟨0,rfl,by omega,by simpa using h0,atO n₀ W⟩
  case round=>
   obtain⟨i,rfl,hi,zE,sb⟩:=hrel;have hBc:wr.cell? ⟨Bn,0,none⟩=some (.slice (some ⟨b,off,none⟩) us.length cap):=(sb.cell hb).trans hBn;by_cases aa:i<us.length
   ·have fR:(i:Int)<(us.length:Int):=by omega
    obtain⟨u0,u1,u2,u3,g0,g1,g2,g3,g4⟩:=tz i us[i] (ar4 aa);have c0:wr.cell? ⟨b,off+i*4,none⟩=some u0:=(sb.cell Dh).trans g0;have c1:wr.cell? ⟨b,off+i*4+1,none⟩=some u1:=(sb.cell Dh).trans g1;have c2:wr.cell? ⟨b,off+i*4+2,none⟩=some u2:=(sb.cell Dh).trans g2;have c3:wr.cell? ⟨b,off+i*4+3,none⟩=some u3:=(sb.cell Dh).trans g3;have I0:(us.take (i+1)).flatten=(us.take i).flatten++us[i]:=by rw[asm aa,atu];simp only[auD,awI,asp]
    have hle:(us.take i).flatten.length+us[i].length≤us.flatten.length:=by
     rw[←asu,←I0]
     conv=>rhs;rw[←auz (i+1) us,atu,asu]
     omega
    have Zq:=hw _ us[i] (us.take i).flatten wr (g4.below sb) (asr hn sb.size) zE hle;obtain⟨k',n',s',a',l',c',he⟩:=g4.form;simp only[awk,aws,as5,and_true]at he;obtain⟨rfl,rfl,rfl,rfl⟩:=he;clear g4 tz hw;have jv:wrap64 ((i:Int)+1)=((i+1:Nat):Int):=wrap_small i (by omega)
    gi_wp2_with ((try refine⟨FE _,?_⟩);refine Zq.mono ?_;clear Zq;rintro e W3 (⟨rfl,tV,ef⟩|⟨rfl,q,hq,hx3⟩))
    ·go_roundw
     case rel=>exact⟨i+1,by first|rfl|rw[jv],aa,by rw[I0];exact tV,sb.trans ef⟩
     case measure=>first|exact Fp _ _ aa|(rw[jv];exact Fp _ _ aa)
    ·refine bodyPost_ret (results_none rfl _ _ _) rfl ?_;obtain⟨t,ht⟩:=hq;refine⟨⟨_,rfl⟩,.inr ⟨(us.take i).flatten++q,⟨t++(us.drop (i+1)).flatten,?_⟩,hx3⟩⟩
     conv=>rhs;rw[←auz (i+1) us,atu,I0,←ht]
     simp[asv]
   ·have fR:¬(i:Int)<(us.length:Int):=by omega
    gi_wp2
    go_end0
    have:us.take i=us:=asV (by omega);rw[this]at zE
    first|exact zE|exact⟨⟨_,rfl⟩,.inl zE⟩|exact .inl zE|exact⟨⟨_,rfl⟩,.inl ⟨_,rfl,zE⟩⟩
theorem VW(F:Fence)(hd:F.depth=none)(G_:F.fn 160)(G9:F.fn 161)(El:F.fn 212)(cy:F.round=none)(n d Bn n₀:Nat)(sl:Value)(us:List (List fW))(w:World)(hb:Bn<n₀)(hn:n₀≤w.heap.size)
 (hc:w.cell? ⟨Bn,0,none⟩=some sl)(hL:SW n₀ w (TW n₀ w d) sl us):
 SeqStopsK F n ar3 160 #[.pointer (some ⟨Bn,0,none⟩)] (fun x:fW=> #[as8 .i64 x.1]) (Below n₀) (fun ys=>ys=us.flatten) (fun pre=>pre<+:us.flatten) us.flatten.length w:=fun l J Jx W hW hJ _ hY h0=>
 abt F hd G_ G9 El cy n d l Bn n₀ sl us J Jx (fun pre A B hj hg=>hJ pre A B none hj hg (fun r e=>by cases e)) hY W hb (asr hn hW.size) ((hW.cell (p:=⟨Bn,0,none⟩) (by show Bn<_;omega)).trans hc) (hL.below (hW.mono hn) fun _ _=>TW.below (hW.mono hn)) h0
set_option maxHeartbeats 1000000 in
theorem J_(F:Fence)(n:Nat)(h:F.fn 105)(cy:F.round=none)(a:Option Addr)(ln cp:Nat)(w:World):
 CallsIn F n ar3 105 #[.slice a ln cp] w fun e w'=>e=.returned (.func (.func 160) #[] #[.pointer (some ⟨w.heap.size,0,none⟩)])∧w'=w.alloc (.cells #[.slice a ln cp] 48):=by
 refine callsIn_of_wp Tryz.func105 rfl h ?_ cy;simp only[Tryz.ntmps105,ato,asS,att,atP,atQ,atb,atc,atp,atf,as7,atm]
 gi_wp2
 go_ret
 exact⟨rfl,rfl⟩
end Go.Proofs.YtggffkaadeagbaaGreat
namespace Go.Proofs.YtggffkaadeagbaaGreat
open Go Go.RowKit Go.Shelf
attribute [local go_sem] au5
def uq(l:List fW):List fW:=l.foldl (fun acc x=>if x∈acc then acc else acc++[x]) []
theorem Qd(pre:List fW){x:fW}(h:x∈uq pre):uq (pre++[x])=uq pre:=by
 unfold uq at h⊢;rw[awB];simp only[asI,aw5];rw[if_pos h]
theorem Ka(pre:List fW){x:fW}(h:x∉uq pre):uq (pre++[x])=uq pre++[x]:=by
 unfold uq at h⊢;rw[awB];simp only[asI,aw5];rw[if_neg h]
theorem aqh(x:fW):(Lit.int .i64 x.1).wf=true:=by
 obtain⟨x,h1,h2⟩:=x;have e1:aso.min= -9223372036854775808:=by decide
 have e2:aso.max=9223372036854775807:=by decide
 simp[Lit.wf,e1,e2];omega
theorem Kb:∀(N:Nat) (l:List Int),l.Nodup→(∀x∈l,0≤x∧x<N)→l.length≤N
 |0,[],_,_=>by simp
 |0,x::l,_,h=>by have:=h x (by simp);omega
 |N+1,l,hn,h=>by
  have ih:=Kb N (l.erase (N:Int)) (hn.erase _) fun x hx=>by
   have h1:=h x (List.mem_of_mem_erase hx);have h2:x≠(N:Int):=fun he=>by rw[hn.mem_erase_iff]at hx;exact hx.1 he
   omega
  rw[List.length_erase]at ih;split at ih<;>omega
theorem abu(pre:List fW):(uq pre).Nodup:=by
 have key:∀(l acc:List fW),acc.Nodup→(l.foldl (fun acc x=>if x∈acc then acc else acc++[x]) acc).Nodup:=by
  intro l;induction l with
  |nil=>intro acc h;exact h
  |cons y l ih=>
   intro acc h;rw[asI];refine ih _ ?_;split
   ·exact h
   ·rename_i hy;rw[List.nodup_append];exact⟨h,by simp,fun a ha b hb=>by simp at hb;subst hb;exact fun he=>hy (he▸ha)⟩
 exact key pre [] (by simp)
theorem abv(pre:List fW):(uq pre).length≤1048577:=by
 have hn:((uq pre).map (·.1)).Nodup:=axC (fun x:fW=>x.1) (fun a b h he=>h (av1 he)) (abu pre)
 have:=Kb 1048577 ((uq pre).map (·.1)) hn fun x hx=>by
  obtain⟨y,_,rfl⟩:=asO.1 hx;have:=y.2;omega
 simpa using this
def zG{H:Type}(xs:List fW):DataW H:=xs.foldl (fun D x=>D.put (.int .i64 x.1) (.lit (.bool true))) (.map [])
theorem I1{H:Type}(pre:List fW)(x:fW):zG (H:=H) (pre++[x])=(zG pre).put (.int .i64 x.1) (.lit (.bool true)):=by simp[zG]
theorem Re{H:Type}(xs:List fW):awt (zG (H:=H) xs):=by
 have key:∀(l:List fW) (D:DataW H),awt D→awt (l.foldl (fun D x=>D.put (.int .i64 x.1) (.lit (.bool true))) D):=by
  intro l;induction l with
  |nil=>intro D h;exact h
  |cons y l ih=>
   intro D h;rw[asI];obtain⟨es,rfl⟩:=h;exact ih _ ⟨_,rfl⟩
 exact key xs _ ⟨[],rfl⟩
theorem Ha{H:Type}(x:fW):∀(n:Nat) (xs:List fW),xs.length=n→(zG (H:=H) xs).atKey (.int .i64 x.1) (.lit (.bool false))=.lit (.bool (decide (x∈xs)))
 |0,xs,h=>by
  rw[asH h];rfl
 |n+1,xs,h=>by
  rcases List.eq_nil_or_concat xs with rfl|⟨ys,y,rfl⟩
  ·simp at h
  ·rw[List.concat_eq_append]at h⊢;rw[I1];by_cases R_:x=y
   ·subst R_;rw[Maps.atKey_put_same (Re ys) (by simp[WideAt.IsKeyLit])];simp
   ·rw[Maps.atKey_put_other (fun he=>R_ (av1 (by simpa using he))),Ha x n ys (by simpa using h)];simp[R_]
section
variable{H:Type}{F:Fence}{nF:Nat}{P:Program}(w:World){ops:Array Oper}{rest:List Oper}{o:Oper}{a:Act}{Q:Exit→Act→World→Prop}
theorem Em{e:TypeId}(he:P.underlying e=some .bool){v:Value}{c:Bool}{ps:List MemPlace}(h:plainElem (H:=H) P e v=some (.lit (.bool c),ps)):v=.bool c:=by
 unfold plainElem at h;rw[he]at h;cases v<;>simp at h;rw[h.1]
theorem pE(hg:o.guard=none)(m x:Operand)(t:TypeId)(fT:o.op=Op.lookup t m x false)
 (k e:TypeId)(K:Maps.Keyed P k)(ht:P.underlying t=some (.map k e))(he:P.underlying e=some .bool)(hz:(zeroValue e).run P w=.ok (.bool false) w)(b n:Nat)(D:DataW H)
 (hm:a.eval m=.map (some b))(kP:w.ownsMap P k (plainElem P e) b n D)(key:Value)(kl:Lit)(hx:a.eval x=key)(mw:keyOf P k key=some kl)(c:Bool)(az:D.atKey kl (.lit (.bool false))=.lit (.bool c))
 (hK:wpListIn F nF P ops Q rest (a.put o.dst (.bool c)) w):
 wpListIn F nF P ops Q (o::rest) a w:=by
 refine wpListIn_plain hg fun K' hK'=>?_;obtain⟨v,ps,fG,hv⟩:=kP.lookup K ht hz (plainElem_bool he false) mw;rw[az]at hv;obtain rfl:=Em he hv;unfold Oper.wpIn;refine⟨by simp[Oper.about,fT],?_⟩;rw[Oper.semAt_plain F _ _ (by rw[fT];intro c xA;cases xA)];simp[execOp,fT,hm,hx,fG,Result.andThen];exact hK' _ _ hK
end
theorem Qe{H:Type}{P:Program}{k:TypeId}{R:Value→Option (DataW H×List MemPlace)}{W W':World}{b n:Nat}{D:DataW H}(h:W.ownsMap P k R b n D)(hb:W'.heap[b]?=W.heap[b]?):W'.ownsMap P k R b n D:=by
 obtain⟨es,clock,h1,h2⟩:=h;exact⟨es,clock,hb.trans h1,h2⟩
theorem amq:(ar3.info? 3).map (fun i=>(i.zero,i.size,i.bytes))=some (some (.int .i64 0),1,8):=by kernel_rfl
set_option maxRecDepth 100000 in
set_option maxHeartbeats 4000000 in
theorem aer(F:Fence)(hd:F.depth=none)(n:Nat)(aqi:F.fn 104)(G_:F.fn 160)(G9:F.fn 161)(El:F.fn 212)(cy:F.round=none)(d Bn:Nat)(sl:Value)(us:List (List fW))(w:World)(hb:Bn<w.heap.size)
 (hc:w.cell? ⟨Bn,0,none⟩=some sl)(hL:SW w.heap.size w (TW w.heap.size w d) sl us):
 CallsIn F (n+3) ar3 104 #[.func (.func 160) #[] #[.pointer (some ⟨Bn,0,none⟩)]] w fun e W'=>∃v,e=.returned v∧W'.ownsRow w.heap.size 3 1 v (uq us.flatten).length ((uq us.flatten).map fun x=>as8 .i64 x.1)∧(v=.slice none 0 0↔uq us.flatten=[])∧Below w.heap.size w W':=by
 have h1:1≤n+3:=by omega
 obtain⟨i0,hi,lZ,mG,H_⟩:=info_parts amq;have hmm:= @run_makeMap ar3;refine callsIn_of_wp_marks Tryz.func104 rfl aqi ?_ cy;simp only[Tryz.ntmps104,ato,asS,att,atP,atQ,atb,atc,atp,atf,as7,atm]
 gi_wp2
 have bO0:=awC w 47 (.slice none 0 0);have Ct:=World.ownsMap_made (w.alloc (.cells #[.slice none 0 0] 47)) ar3 3 (plainElem (H:=Unit) ar3 4);have bS0:=awC ((w.alloc (.cells #[.slice none 0 0] 47)).alloc (.map #[] 0)) 192 (.map (some (w.heap.size+1)));simp only[awD]at Ct bS0;have Dn:Below w.heap.size w (((w.alloc (.cells #[.slice none 0 0] 47)).alloc (.map #[] 0)).alloc (.cells #[.map (some (w.heap.size+1))] 192)):=(((atO _ w).alloc (ar9 _) _).alloc (by simp) _).alloc (by simp;omega) _
 refine wpIn_rangeFunc_ownG cy h1 (gf:=160) (lb:= #[.pointer (some ⟨Bn,0,none⟩)]) rfl G_ (enters_of av8 (by kernel_rfl) rfl)
  (VW F hd G_ G9 El cy _ d Bn w.heap.size sl us _ hb (by simp;omega) ((Dn.cell (p:=⟨Bn,0,none⟩) hb).trans hc) (hL.below Dn fun _ _=>TW.below Dn)) belowK_t (belowK_b (by simp;omega)) (atO _ _) (fun _=>rfl)
  (fun pre W=>((∃v,Boxed W w.heap.size 47 v∧W.ownsRow w.heap.size 3 1 v (uq pre).length ((uq pre).map fun x=>as8 .i64 x.1)∧(v=.slice none 0 0↔uq pre=[]))∧
   (Boxed W (w.heap.size+1+1) 192 (.map (some (w.heap.size+1)))∧W.ownsMap ar3 3 (plainElem (H:=Unit) ar3 4) (w.heap.size+1) (uq pre).length (zG (uq pre))))∧Below w.heap.size w W)
  (fun _ _ _=>False)
  (aw6 (aw6 (Own.from (holdsRow_own w.heap.size w.heap.size 47 3 1 (fun pre=>(uq pre).length) (fun pre=>(uq pre).map fun x=>as8 .i64 x.1) (fun pre v=>v=.slice none 0 0↔uq pre=[])) _)
   (fun s A B row hs hg hr=>⟨hs.1.kept hg (fun e=>by have:=(hr _ e.symm).1;simp at this;omega),hs.2.kept hg (fun e=>by have:=(hr _ e.symm).1;simp at this;omega)⟩)) (ownFrom_below (ar9 _) (by simp;omega)))
  (fun _ _ _ _ _ hs _ _=>hs)
  ⟨⟨⟨_,(bO0.alloc _).alloc _,World.ownsRow_nil _ _ _ _,by simp[uq]⟩,⟨bS0,Ct.alloc _⟩⟩,Dn⟩
  (fun x=>{tmps:= #[.func (.func 160) #[] #[.pointer (some ⟨Bn,0,none⟩)],undef,.slice none 0 0,.pointer (some ⟨w.heap.size,0,none⟩),.pointer (some ⟨w.heap.size+1+1,0,none⟩),.int .i64 x.1,.map (some (w.heap.size+1)),.func (.func 160) #[] #[.pointer (some ⟨Bn,0,none⟩)],.int .i64 x.1,undef,undef,undef,undef,undef,undef,undef,undef,undef,undef,undef],defers:=[]}) ?assign ?body ?done ?stop
 case assign=>
  intro l x W K hK
  gi_wp2
  exact hK
 case body=>
  rintro l pre x W ⟨⟨⟨v,hv,gX,zK⟩,fZ,kP⟩,hB⟩ aa;have bD:=fZ.cell;have mw:=Maps.keyOf_int_mk auE (aqh x);have iW:=abv pre;have aK:w.heap.size≤W.heap.size:=hB.size;by_cases hx:x∈uq pre
  ·have az:(zG (H:=Unit) (uq pre)).atKey (.int .i64 x.1) (.lit (.bool false))=.lit (.bool true):=by rw[Ha x _ _ rfl];simp[hx]
   gi_wp2_with (gi_at_lookup;refine pE _ rfl _ _ 192 rfl 3 4 (avT auE) avl au3 (avU _) (w.heap.size+1) (uq pre).length _ rfl kP _ _ rfl mw true az ?_)
   exact⟨axY _ _,atO _ _,⟨⟨v,hv,by rw[Qd pre hx];exact gX,by rw[Qd pre hx];exact zK⟩,fZ,by rw[Qd pre hx];exact kP⟩,hB⟩
  ·have az:(zG (H:=Unit) (uq pre)).atKey (.int .i64 x.1) (.lit (.bool false))=.lit (.bool false):=by rw[Ha x _ _ rfl];simp[hx]
   have C5:2000000≤maxLen:=by decide
   have Kr:(uq pre).length<maxLen:=by omega
   have aqj:(uq pre).length+1≤maxLen:=by omega
   have hub:((uq pre).length+1)*8≤140737488355328:=by omega
   gi_wp2_with (first
    |(gi_at_lookup;refine pE _ rfl _ _ 192 rfl 3 4 (avT auE) avl au3 (avU _) (w.heap.size+1) (uq pre).length _ rfl kP _ _ rfl mw false az ?_)
    |(gi_at_mapUpdate;refine wpListIn_mapUpdate_own _ rfl _ _ _ 192 rfl 3 4 (avT auE) avl _ (w.heap.size+1) (uq pre).length _ rfl kP Kr _ _ _ rfl rfl mw _ [] (plainElem_bool au3 true) ?_;intro w1 ac1 A5;
      obtain⟨v1,Sf,VX,arF⟩:=holdsRow_own (β:=Unit) w.heap.size w.heap.size 47 3 1 (fun _=>(uq pre).length) (fun _=>(uq pre).map fun x=>as8 .i64 x.1) (fun _ v=>v=.slice none 0 0↔uq pre=[]) () W w1 (some (w.heap.size+1)) ⟨v,hv,gX,zK⟩ A5 (fun r e=>by cases e;obtain⟨es,ck,hh,_⟩:=kP;exact⟨_,hh,rfl⟩);
      have bw:=Sf.cell;have VY:w.heap.size≤w1.heap.size:=asr aK A5.size)
    |(gi_at_builtin;refine wpListIn_append_own _ rfl _ _ 47 rfl w.heap.size 3 i0 (.int .i64 0) 1 8 Tryz.underlying47 hi lZ mG H_ rfl (by decide) _ _ _ rfl (VX.alloc _) ⟨w1.heap.size,0,none⟩ 1 1 [.int .i64 x.1] rfl rfl (cell_one_new _ _ _) (by simp[Value.oneCell']) aqj hub (asr VY (by simp)) ?_;
      intro v' w2 Hl Zr _;obtain⟨g',GM,rfl⟩:=ownsRow_succ Hl;obtain⟨hv2,hv3,hr3,hk3,ef⟩:=Sf.appended (by decide) VX VY (ar9 _) Hl Zr;have gi:=hv2.cell;have PY:=hv2.frozen))
   have Dm:Boxed w1 (w.heap.size+1+1) 192 (.map (some (w.heap.size+1))):=fZ.kept A5 (fun e=>by simp at e);have aqk:Boxed w2 (w.heap.size+1+1) 192 (.map (some (w.heap.size+1))):=(Dm.alloc _).kept Zr (Dm.not_row (by decide) VX);have aql:=aqk.other (B':=w.heap.size) (by omega) (.slice (some ⟨g',0,none⟩) ((uq pre).length+1) GM);have zp:w1.heap[w.heap.size+1]?=_:=auq (auq ac1)|>.1
   refine⟨(axZ A5 (fun j e=>by cases e;simp)).trans (hk3.from _),((atO _ W).grown A5 aK (fun k e=>by cases e;omega)).trans ef,
    ⟨⟨_,hv3,by rw[Ka pre hx];simpa using hr3,by rw[Ka pre hx];simp⟩,aql,?_⟩,(hB.grown A5 aK (fun k e=>by cases e;omega)).trans ef⟩
   rw[Ka pre hx,I1,asu];exact Qe ac1 ((hk3.same _ _ zp rfl).trans zp.symm)
 case done=>
  rintro D ys W hD rfl ⟨⟨⟨v,hv,gX,zK⟩,fZ,kP⟩,hB⟩ hK;have hc:=hv.cell
  gi_wp2
  refine⟨by simp,.inl ⟨_,_,rfl,run_takeDeferred hK,?_⟩⟩;exact⟨_,results_tmp rfl _ _ _,v,rfl,ownsRow_putObj gX _ hK rfl,zK,hB.trans (belowK_b (w:=w) (ar9 _) W D _ _ (by simp at hD;omega) hK rfl rfl)⟩
 case stop=>
  rintro D c pre W _ _ h _;exact h.elim
end Go.Proofs.YtggffkaadeagbaaGreat
namespace Go.Proofs.YtggffkaadeagbaaGreat
open Go Go.RowKit Go.Shelf
attribute [local go_sem] au5
def pF:Tm→List Int
 |.mk k n _ ts=>if k=1 then[n]else if k=2 then ML ts else[]
where ML:List Tm→List Int
 |[]=>[]
 |t::ts=>pF t++ML ts
theorem Hb:∀l:List Tm,pF.ML l=(l.map pF).flatten
 |[]=>rfl
 |t::l=>by simp[pF.ML,Hb l]
theorem eU{ι:Ev.Io}{v u:Value}(h:Ev.Rv ι (.raw v) u):u=v:=by cases h;rfl
theorem aes{ι:Ev.Io}{a b c d:Ev.IV}{v:Value}(h:Ev.Rv ι (.agg [a,b,c,d]) v):∃x y z u,v=.agg #[x,y,z,u]∧Ev.Rv ι a x∧Ev.Rv ι b y∧Ev.Rv ι c z∧Ev.Rv ι d u:=by
 cases h with
 |agg _ vs hl hh=>
  match vs,hl,hh with
  |[x,y,z,u],_,hh=>exact⟨x,y,z,u,rfl,hh 0 _ _ rfl rfl,hh 1 _ _ rfl rfl,hh 2 _ _ rfl rfl,hh 3 _ _ rfl rfl⟩
theorem aet{ι:Ev.Io}{a b:Ev.IV}{v:Value}(h:Ev.Rv ι (.agg [a,b]) v):∃x y,v=.agg #[x,y]∧Ev.Rv ι a x∧Ev.Rv ι b y:=by
 cases h with
 |agg _ vs hl hh=>
  match vs,hl,hh with
  |[x,y],_,hh=>exact⟨x,y,rfl,hh 0 _ _ rfl rfl,hh 1 _ _ rfl rfl⟩
theorem aeu{ι:Ev.Io}{a b c:Ev.IV}{v:Value}(h:Ev.Rv ι (.agg [a,b,c]) v):∃x y z,v=.agg #[x,y,z]∧Ev.Rv ι a x∧Ev.Rv ι b y∧Ev.Rv ι c z:=by
 cases h with
 |agg _ vs hl hh=>
  match vs,hl,hh with
  |[x,y,z],_,hh=>exact⟨x,y,z,rfl,hh 0 _ _ rfl rfl,hh 1 _ _ rfl rfl,hh 2 _ _ rfl rfl⟩
theorem Hc{ι:Ev.Io}{s:Nat}{es:List Ev.IV}{v:Value}(h:Ev.Rv ι (.tree s es) v):∃a l c,v=.slice a l c:=by
 cases h with
 |tree=>exact⟨_,_,_,rfl⟩
 |dW=>exact⟨_,_,_,rfl⟩
theorem VZ{M:Ev.Fz}{w:World}(hM:Ev.sE M w):∀(d:Nat) (t:Tm) (v:Value),auR t≤d→nU t→bx t→Ev.Rv (Ev.eW M) (bV t) v→∃xs,TW w.heap.size w d v xs∧xs.map (·.1)=pF t:=by
 intro d;induction d with
 |zero=>intro t v h;obtain⟨k,n,s,ts⟩:=t;simp at h
 |succ d ih=>
  rintro⟨k,n,s,ts⟩ v hd hn hf hr;rw[uF]at hr;obtain⟨x,y,z,u,rfl,h1,h2,h3,h4⟩:=aes hr;obtain rfl:=eU h1;obtain rfl:=eU h2;obtain rfl:=eU h3;obtain⟨a,l,c,rfl⟩:=Hc h4;obtain⟨_,zB,cb⟩:=(oi _).1 hn;obtain⟨FQ,PY⟩:=(jX _).1 hf;simp only[Tm.k,Tm.n,Tm.ts]at zB cb FQ PY;by_cases oG:k=1
  ·exact⟨[⟨n,FQ oG⟩],⟨k,n,_,a,l,c,rfl,.inl ⟨oG,FQ oG,rfl⟩⟩,by simp[pF,oG]⟩
  by_cases Ah:k=2
  rotate_left
  ·exact⟨[],⟨k,n,_,a,l,c,rfl,.inr (.inl ⟨oG,Ah,rfl⟩)⟩,by simp[pF,oG,Ah]⟩
  obtain⟨jf,hs,hv⟩:∃jf,SW w.heap.size w (TW w.heap.size w d) (.slice a l c) jf∧jf.map (fun xs=>xs.map (·.1))=ts.map pF:=ac2 hM zB h4 fun t ht v hv=>by
   have:=atD ht;exact ih t v (by simp at hd;omega) (cb t ht) (PY Ah t ht) hv
  refine⟨jf.flatten,⟨k,n,_,a,l,c,rfl,.inr (.inr ⟨Ah,jf,hs,rfl⟩)⟩,?_⟩;rw[awJ];simp[pF,Ah,Hb,hv]
where
 ac2 {M:Ev.Fz} {w:World} (hM:Ev.sE M w) {ts:List Tm} {a:Option Addr} {l c:Nat} (zB:Sm ts) (h4:Ev.Rv (Ev.eW M) (iT ts) (.slice a l c)) {R:Value→List fW→Prop} (ih:∀t∈ts,∀v,Ev.Rv (Ev.eW M) (bV t) v→∃xs,R v xs∧xs.map (·.1)=pF t):
  ∃jf,SW w.heap.size w R (.slice a l c) jf∧jf.map (fun xs=>xs.map (·.1))=ts.map pF:=by
  have ji:∀(b off k:Nat) (u:Value),Ev.oC M b (off+k)=some u→b<w.heap.size∧w.cell? ⟨b,off+k,none⟩=some u:=by
   intro b off k u h;unfold Ev.oC at h;cases hb:M b with
   |none=>rw[hb]at h;cases h
   |some cs=>
    rw[hb]at h;obtain⟨e,f,hh⟩:=hM b cs hb;exact⟨hM.lt hb,by simp only[axm,hh];exact h⟩
  obtain⟨es,gh⟩:∃es,es=ts.map bV:=⟨_,rfl⟩;have h4':Ev.Rv (Ev.eW M) (.tree 4 es) (.slice a l c):=by rw[gh];exact h4
  cases h4' with
  |dW _ _ _ hs hn=>
   have:ts=[]:=by simpa using gh.symm
   subst this;exact⟨[],⟨by simp,.inl ⟨rfl,_,_,rfl⟩⟩,rfl⟩
  |tree _ _ b off _ us hs hc bD hu hh=>
   subst gh;rcases Nat.eq_zero_or_pos ts.length with h0|om
   ·have:ts=[]:=asH h0;subst this;exact⟨[],⟨by simp,.inl ⟨rfl,_,_,rfl⟩⟩,rfl⟩
   have tz:∀i (hi:i<ts.length),∃xs,R (.agg #[us (i*4),us (i*4+1),us (i*4+2),us (i*4+3)]) xs∧xs.map (·.1)=pF ts[i]:=by
    intro i hi;refine ih ts[i] (List.getElem_mem hi) _ ?_;have sy:(ts.map bV)[i]?=some (bV ts[i]):=by simp[hi]
    have qB:=fun j c=>hh i (bV ts[i]) j c sy;generalize ts[i]=t at qB;obtain⟨k,n,s,ts'⟩:=t;rw[uF]at qB⊢;refine .agg _ [us (i*4),us (i*4+1),us (i*4+2),us (i*4+3)] rfl fun j c v h1 h2=>?_;have:=qB j c h1;have hj:j<4:=by have:=(ar5.1 h1).1;simpa using this
    match j,hj with
    |0,_=>simp at h2;subst h2;exact this
    |1,_=>simp at h2;subst h2;exact this
    |2,_=>simp at h2;subst h2;exact this
    |3,_=>simp at h2;subst h2;exact this
   have Zs:∀k,k<ts.length*4→b<w.heap.size∧w.cell? ⟨b,off+k,none⟩=some (us k):=fun k hk=>ji b off k _ (hu k (by simpa using hk));refine⟨List.ofFn fun i:Fin ts.length=>ax0 (tz i.1 i.2),⟨by simpa using zB,.inr ⟨b,off,_,by simp;rfl,(Zs 0 (by omega)).1,fun i xs hi=>?_⟩⟩,?_⟩
   ·rw[List.getElem?_ofFn]at hi;split at hi
    ·rename_i aa;simp only[ar7]at hi;subst hi;refine⟨_,_,_,_,(Zs (i*4) (by omega)).2,?_,?_,?_,(auq (tz i aa)).1⟩
     ·rw[av2];exact(Zs (i*4+1) (by omega)).2
     ·rw[av2];exact(Zs (i*4+2) (by omega)).2
     ·rw[av2];exact(Zs (i*4+3) (by omega)).2
    ·cases hi
   ·refine List.ext_getElem (by simp) fun i h1 h2=>?_;simp only[List.getElem_map,List.getElem_ofFn];exact(auq (tz i (by simpa using h1))).2
theorem Hd{M:Ev.Fz}{w W':World}{new:Bool}{u:Value}{l:List Int}(hM:Ev.sE M w)(hB:Below w.heap.size w W')(hr:W'.ownsRow w.heap.size 3 1 u l.length (l.map fun x=>as8 .i64 x)):Ev.Dp new M w (Ev.iL l) u W':=by
 have sF:∀b,b<w.heap.size→W'.heap[b]?=w.heap[b]? :=hB.block;refine⟨Ev.rA new M w W',?_,?_,?_,?_,hB.os,hB.tape,hB.output,hB.size,sF⟩
 ·intro b c hb;unfold Ev.rA at hb;split at hb
  ·rename_i aa;split at hb
   ·cases hb
   ·rw[sF b aa];exact hM b c hb
  ·split at hb
   ·rename_i c' e f hh;cases hb;exact⟨e,f,hh⟩
   ·cases hb
 ·intro b c hb;unfold Ev.rA at hb;split at hb
  ·split at hb
   ·cases hb
   ·rename_i hn;exact .inl ⟨by simpa using hn,hb⟩
  ·exact .inr (by omega)
 ·intro hn b c hb;have aa:=hM.lt hb;unfold Ev.rA;rw[if_pos aa,if_neg (by simp[hn])];exact hb
 ·obtain⟨hlen,⟨rfl,h0⟩|⟨g,cap,cur,rfl,hg,hh,fv,_,aK,I0⟩⟩:=hr
  ·have:l=[]:=asH h0;subst this;exact .dW 1 none 0 (by omega) (fun _=>rfl)
  ·by_cases hl:l=[]
   ·subst hl;exact .dW 1 _ _ (by omega) (by simp)
   have iY:∀(k:Nat) (x:Int),l[k]?=some x→cur[k]?=some (as8 .i64 x):=by
    intro k x hk;have qc:=(ar5.1 hk).1;have:(cur.toList.take (l.length*1))[k]?=some (as8 .i64 x):=by rw[I0];simp[hk]
    rw[List.getElem?_take,if_pos (by omega)]at this;simpa using this
   have XV:Ev.oC (Ev.rA new M w W') g=fun k=>cur[k]? :=by
    funext k;unfold Ev.oC Ev.rA;rw[if_neg (by omega),hh];rfl
   have:=Ev.Rv.tree (ι:=Ev.eW (Ev.rA new M w W')) 1 (l.map Ev.iI) g 0 cap (fun k=>(cur[k]?).getD Go.undef) (by omega) (by simpa using fv) (fun e he=>by obtain⟨x,_,rfl⟩:=asO.1 he;rfl)
    (fun k hk=>by
     show Ev.oC (Ev.rA new M w W') g (0+k)=_;rw[XV];simp only[atC,axM]at hk;have:=iY k l[k] (ar4 hk);simp[this]) (fun i e j c he hc=>by
     rw[List.getElem?_map]at he;obtain⟨x,hx,rfl⟩:=Option.map_eq_some_iff.1 he
     have hj:j=0:=by
      have:=(ar5.1 hc).1;simp[Ev.cellsOf]at this;exact this
     subst hj;simp[Ev.cellsOf]at hc;subst hc;have:=iY i x hx;simp only[axM,Nat.add_zero,this,Option.getD_some];exact .raw _)
   simpa using this
end Go.Proofs.YtggffkaadeagbaaGreat
namespace Go.Proofs.YtggffkaadeagbaaGreat
open Go Go.RowKit Go.Shelf
attribute [local go_sem] au5
theorem SW.wide{n₀ n₁:Nat}{A:World}(h:n₀≤n₁){R R':Value→List fW→Prop}(hR:∀v xs,R v xs→R' v xs){sl:Value}{jf:List (List fW)}(hs:SW n₀ A R sl jf):SW n₁ A R' sl jf:=by
 rcases hs with⟨hl,hs|⟨b,off,cap,h1,h2,h3⟩⟩
 ·exact⟨hl,.inl hs⟩
 ·refine⟨hl,.inr ⟨b,off,cap,h1,by omega,fun i xs hi=>?_⟩⟩;obtain⟨u0,u1,u2,u3,g0,g1,g2,g3,g4⟩:=h3 i xs hi;exact⟨u0,u1,u2,u3,g0,g1,g2,g3,hR _ _ g4⟩
theorem TW.wide{n₀ n₁:Nat}{A:World}(h:n₀≤n₁):∀{d:Nat} {v:Value} {xs:List fW},TW n₀ A d v xs→TW n₁ A d v xs
 |0,_,_,ht=>ht
 |d+1,_,_,⟨k,n,s,a,l,c,h1,h2⟩=>⟨k,n,s,a,l,c,h1,h2.imp id fun h2=>h2.imp id fun⟨hk,jf,h3,h4⟩=>⟨hk,jf,h3.wide h fun _ _=>TW.wide h,h4⟩⟩
theorem Qf{W:World}{b b':Nat}{e:TypeId}{s:Nat}{v:Value}{n:Nat}{xs:List Value}(h:b≤b')(hr:W.ownsRow b' e s v n xs):W.ownsRow b e s v n xs:=by
 obtain⟨h1,h2|⟨g,cap,cur,h2,h3,h4⟩⟩:=hr
 ·exact⟨h1,.inl h2⟩
 ·exact⟨h1,.inr ⟨g,cap,cur,h2,by omega,h4⟩⟩
def Zt(l:List Int):List Int:=l.foldl (fun acc x=>if x∈acc then acc else acc++[x]) []
theorem ahS(xs:List fW):(uq xs).map (·.1)=Zt (xs.map (·.1)):=by
 have key:∀(l acc:List fW),(l.foldl (fun acc x=>if x∈acc then acc else acc++[x]) acc).map (·.1)=(l.map (·.1)).foldl (fun acc x=>if x∈acc then acc else acc++[x]) (acc.map (·.1)):=by
  intro l;induction l with
  |nil=>intro acc;rfl
  |cons y l ih=>
   intro acc;rw[asI,ih,asY,asI]
   congr 1
   have hm:y∈acc↔y.1∈acc.map (·.1):=by
    rw[asO];exact⟨fun h=>⟨y,h,rfl⟩,fun⟨a,h1,h2⟩=>by rw[av1 h2.symm];exact h1⟩
   by_cases h:y∈acc
   ·rw[if_pos h,if_pos (hm.1 h)]
   ·rw[if_neg h,if_neg (fun h'=>h (hm.2 h'))];simp
 exact key xs []
def varsOf(ts:List Tm):List Int:=Zt (ts.map pF).flatten
theorem Tf{w w2:World}{ts:List Tm}{a:Option Addr}{l c d:Nat}{jf:List (List fW)}(n Bn:Nat)(hB:Below w.heap.size w w2)(db:SW w2.heap.size w2 (TW w2.heap.size w2 d) (.slice a l c) jf)(hv:jf.map (fun xs=>xs.map (·.1))=ts.map pF)(hb:Bn<w2.heap.size)
 (hc:w2.cell? ⟨Bn,0,none⟩=some (.slice a l c)):
 CallsIn asz n ar3 104 #[.func (.func 160) #[] #[.pointer (some ⟨Bn,0,none⟩)]] w2 fun e W'=>∃v,e=.returned v∧W'.ownsRow w.heap.size 3 1 v (varsOf ts).length ((varsOf ts).map fun x=>as8 .i64 x)∧Below w.heap.size w W':=by
 have gK:(uq jf.flatten).map (·.1)=varsOf ts:=by
  rw[ahS,awJ,varsOf,hv]
 refine callsIn_wide.2 (callsIn_wide.1 ((aer asz rfl 0 trivial trivial trivial trivial rfl d Bn _ jf w2 hb hc db).mono ?_));rintro e W' ⟨v,rfl,h1,_,h3⟩;refine⟨v,rfl,?_,hB.trans (h3.mono hB.size)⟩;rw[←gK,List.map_map,atC];exact Qf hB.size h1
theorem LP{M:Ev.Fz}{w w2:World}(hM:Ev.sE M w){ts:List Tm}(zB:Sm ts)(hn:∀t∈ts,nU t)(hf:∀t∈ts,bx t){a:Option Addr}{l c:Nat}(hr:Ev.Rv (Ev.eW M) (iT ts) (.slice a l c))(n Bn:Nat)(hB:Below w.heap.size w w2)(hb:Bn<w2.heap.size)
 (hc:w2.cell? ⟨Bn,0,none⟩=some (.slice a l c)):
 CallsIn asz n ar3 104 #[.func (.func 160) #[] #[.pointer (some ⟨Bn,0,none⟩)]] w2 fun e W'=>∃v,e=.returned v∧W'.ownsRow w.heap.size 3 1 v (varsOf ts).length ((varsOf ts).map fun x=>as8 .i64 x)∧Below w.heap.size w W':=by
 obtain⟨d,hd⟩:∃d,∀t∈ts,auR t≤d:=⟨auR ts,fun t ht=>Nat.le_of_lt (atD ht)⟩;obtain⟨jf,hs,hv⟩:=VZ.ac2 (R:=TW w.heap.size w d) hM zB hr fun t ht v hv=>VZ hM d t v (hd t ht) (hn t ht) (hf t ht) hv;exact Tf n Bn hB ((hs.below hB fun _ _=>TW.below hB).wide hB.size fun _ _=>TW.wide hB.size) hv hb hc
theorem z7(W:World)(v:Value)(t:TypeId):(W.alloc (.cells #[v] t)).cell? ⟨W.heap.size,0,none⟩=some v:=(awC W t v).cell
set_option maxRecDepth 100000 in
set_option maxHeartbeats 2000000 in
theorem aqm(new:Bool)(s:List UInt8){ts:List Tm}(zB:Sm ts)(hn:∀t∈ts,nU t)(hf:∀t∈ts,bx t):Ev.dC ar3 false new 46 [.agg [Ev.iS s,iT ts]] (Ev.iL (varsOf ts)):=by
 intro M w us hM lq;obtain⟨v,oU,rfl,h1,h2⟩:=lq.sj;obtain rfl:=h2.of_nil;obtain⟨x,y,rfl,g1,g2⟩:=aet h1;obtain rfl:=eU g1;obtain⟨a,l,c,rfl⟩:=Hc g2;have AP:Below w.heap.size w ((w.alloc (.cells #[.string ⟨s.toArray⟩,.slice a l c] 50)).alloc (.cells #[.slice a l c] 48)):=((atO _ w).alloc (ar9 _) _).alloc (by simp) _;have LQ:=LP hM zB hn hf g2 0 (w.heap.size+1) AP (by simp) (by have:=z7 (w.alloc (.cells #[.string ⟨s.toArray⟩,.slice a l c] 50)) (.slice a l c) 48;simpa using this);clear g1 g2 h1 h2 lq;refine callsIn_of_wp Tryz.func46 rfl trivial ?_ rfl;simp only[Tryz.ntmps46,ato,asS,att,atP,atQ,atb,atc,atp,atf,as7,atm]
 gi_wp2_with (first
  |(refine⟨trivial,rfl,?_⟩;refine(J_ asz _ trivial rfl a l c _).mono ?_;rintro e w' ⟨rfl,rfl⟩)
  |(refine⟨trivial,rfl,?_⟩;refine LQ.mono ?_;clear LQ;rintro e W2 ⟨u,rfl,gX,hB⟩))
 go_ret
 exact⟨rfl,Hd hM hB gX⟩
set_option maxRecDepth 100000 in
set_option maxHeartbeats 2000000 in
theorem aqn(new:Bool)(op:Int)(s:List UInt8){ts:List Tm}(zB:Sm ts)(hn:∀t∈ts,nU t)(hf:∀t∈ts,bx t):Ev.dC ar3 false new 87 [.agg [Ev.iI op,Ev.iS s,iT ts]] (Ev.iL (varsOf ts)):=by
 intro M w us hM lq;obtain⟨v,oU,rfl,h1,h2⟩:=lq.sj;obtain rfl:=h2.of_nil;obtain⟨x,z,y,rfl,g1,g3,g2⟩:=aeu h1;obtain rfl:=eU g1;obtain rfl:=eU g3;obtain⟨a,l,c,rfl⟩:=Hc g2;have AP:Below w.heap.size w ((w.alloc (.cells #[.int .i64 op,.string ⟨s.toArray⟩,.slice a l c] 88)).alloc (.cells #[.slice a l c] 48)):=((atO _ w).alloc (ar9 _) _).alloc (by simp) _;have LQ:=LP hM zB hn hf g2 0 (w.heap.size+1) AP (by simp) (by have:=z7 (w.alloc (.cells #[.int .i64 op,.string ⟨s.toArray⟩,.slice a l c] 88)) (.slice a l c) 48;simpa using this);clear g1 g2 h1 h2 lq;refine callsIn_of_wp Tryz.func87 rfl trivial ?_ rfl;simp only[Tryz.ntmps87,ato,asS,att,atP,atQ,atb,atc,atp,atf,as7,atm]
 gi_wp2_with (first
  |(refine⟨trivial,rfl,?_⟩;refine(J_ asz _ trivial rfl a l c _).mono ?_;rintro e w' ⟨rfl,rfl⟩)
  |(refine⟨trivial,rfl,?_⟩;refine LQ.mono ?_;clear LQ;rintro e W2 ⟨u,rfl,gX,hB⟩))
 go_ret
 exact⟨rfl,Hd hM hB gX⟩
set_option maxRecDepth 100000 in
set_option maxHeartbeats 2000000 in
theorem aqo(new:Bool)(t:Tm)(hn:nU t)(hf:bx t):Ev.dC ar3 false new 88 [bV t] (Ev.iL (varsOf [t])):=by
 intro M w us hM lq;obtain⟨v,oU,rfl,h1,h2⟩:=lq.sj;obtain rfl:=h2.of_nil;obtain⟨xs,htw,il⟩:=VZ hM (auR t) t v (ar9 _) hn hf h1;obtain⟨k,n,s,a,l,c,rfl⟩:=htw.form;have Dn:Below w.heap.size w (w.alloc (.cells #[.int .i64 k,.int .i64 n,.string s,.slice a l c] 84)):=(atO _ w).alloc (ar9 _) _;have AP:Below w.heap.size w ((w.alloc (.cells #[.int .i64 k,.int .i64 n,.string s,.slice a l c] 84)).alloc (.cells #[.int .i64 k,.int .i64 n,.string s,.slice a l c] 84)):=Dn.alloc (by simp) _;have IA:Below w.heap.size w (((w.alloc (.cells #[.int .i64 k,.int .i64 n,.string s,.slice a l c] 84)).alloc (.cells #[.int .i64 k,.int .i64 n,.string s,.slice a l c] 84)).alloc (.cells #[.slice (some ⟨w.heap.size+1,0,none⟩) 1 1] 48)):=AP.alloc (by simp;omega) _;have dG:=World.alloc_heap_new (w.alloc (.cells #[.int .i64 k,.int .i64 n,.string s,.slice a l c] 84)) (.cells #[.int .i64 k,.int .i64 n,.string s,.slice a l c] 84);rw[awD]at dG;have ac3:(((w.alloc (.cells #[.int .i64 k,.int .i64 n,.string s,.slice a l c] 84)).alloc (.cells #[.int .i64 k,.int .i64 n,.string s,.slice a l c] 84)).alloc (.cells #[.slice (some ⟨w.heap.size+1,0,none⟩) 1 1] 48)).heap[w.heap.size+1]?=some (.cells #[.int .i64 k,.int .i64 n,.string s,.slice a l c] 84):=(Below.heap_alloc _ _ _ (by simp)).trans dG
 have LQ:=Tf (ts:=[t]) (jf:=[xs]) (d:=auR t) (a:=some ⟨w.heap.size+1,0,none⟩) (l:=1) (c:=1) 0 (w.heap.size+1+1) IA
  ⟨by simp,.inr ⟨w.heap.size+1,0,1,rfl,by simp,fun i ys hi=>by
   cases i with
   |succ i=>simp at hi
   |zero=>
    simp at hi;subst hi;refine⟨.int .i64 k,.int .i64 n,.string s,.slice a l c,?_,?_,?_,?_,(TW.below IA htw).wide IA.size⟩
    all_goals (simp only[axm];rw[ac3];rfl)⟩⟩ (by simp only[asY,List.map_nil,il]) (by simp) (by have:=z7 ((w.alloc (.cells #[.int .i64 k,.int .i64 n,.string s,.slice a l c] 84)).alloc (.cells #[.int .i64 k,.int .i64 n,.string s,.slice a l c] 84)) (.slice (some ⟨w.heap.size+1,0,none⟩) 1 1) 48;simpa using this)
 clear dG ac3 h1 h2 lq htw;refine callsIn_of_wp Tryz.func88 rfl trivial ?_ rfl;simp only[Tryz.ntmps88,ato,asS,att,atP,atQ,atb,atc,atp,atf,as7,atm]
 gi_wp2_with (first
  |(refine⟨trivial,rfl,?_⟩;refine(J_ asz _ trivial rfl _ 1 1 _).mono ?_;rintro e w' ⟨rfl,rfl⟩)
  |(refine⟨trivial,rfl,?_⟩;refine LQ.mono ?_;clear LQ;rintro e W2 ⟨u,rfl,gX,hB⟩))
 go_ret
 exact⟨rfl,Hd hM hB gX⟩
end Go.Proofs.YtggffkaadeagbaaGreat
