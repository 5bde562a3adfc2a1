/- A part of the proof, no condition: the variables of terms and goals. -/
import Derived.RangeFuncNested
import Derived.RangeFuncBound
import Derived.RangeFuncCalls
import Derived.RangeFuncLeaves
import Derived.RangeFuncBox
import Derived.Shelf.Abstract
import Derived.Shelf.RegionOpen
import Derived.WalkKit
import Derived.OwnWalkIn
import Derived.TacticsInMore
import Derived.LoopNIn
import Derived.LoopIn
import Derived.Maps.OwnIn
import Derived.Maps.AppendAt
import Derived.Test.YtggffkaadeagbaaGreatProg
import Derived.Maps.Views
import Derived.Maps.OwnSet
import Derived.Test.YtggffkaadeagbaaGreatRgA
import Derived.Test.YtggffkaadeagbaaGreatEvH
open Go.Oper renaming semAt_some->avL
open Go.Proofs.Tryz renaming prog->asK,func160->awO,ntmps160->axY,underlying3->avi,underlying192->av1,underlying4->avJ,zeroValue4->awA
open List renaming size_toArray->at7,length_cons->atG,length_nil->auc,push_toArray->aua,append_toArray->atX,nil_append->atO,cons_append->at4,append_nil->as9,getElem?_eq_getElem->asL,take_succ_eq_append_getElem->asX,flatten_append->at1,flatten_cons->avh,flatten_nil->axt,length_append->atc,take_append_drop->auv,append_assoc->atf,take_of_length_le->as0,foldl_append->axk,foldl_cons->att,foldl_nil->axP,mem_map->ath,eq_nil_of_length_eq_zero->atr,sizeOf_lt_of_mem->aug,map_flatten->axu,getElem?_eq_some_iff->asM,length_map->auk,map_cons->atJ
open Nat renaming reduceAdd->auz,reduceSub->auA,le_trans->atd,le_refl->asR,add_assoc->awJ,mul_one->ays
open Array renaming replicate_succ->atT,replicate_zero->atU
open Go.Value renaming slice->awX,int->atP
open Go.World renaming grownBy_alloc->avm,size_alloc->axm,cell?->ax6
open Go.RowKit.Below renaming refl->auy
open Go.Value.agg renaming injEq->aw5
open Array.mk renaming injEq->axc
open List.cons renaming injEq->atK
open Go.IntKind renaming i64->as7
open List.Pairwise renaming map->ayh
open Subtype renaming ext->awI
open Go.Maps renaming IsMap->axd,int_keyed->awz
open Go.Boxed renaming new->axl
open Go.OwnFrom renaming and->axQ
open Go.KeepsFrom renaming refl->ayC,of_grownBy->ayD
open Classical renaming choose_spec->au6,choose->ayE
open SizeOf renaming sizeOf->avy
open Option.some renaming injEq->asP
open Go.Fence renaming wide->ato
open Option renaming some->aa,none->ah
open Bool renaming true->ab,false->af
set_option linter.all false
namespace Go.Proofs.YtggffkaadeagbaaGreat
open Go Go.RowKit Go.Shelf
attribute [local go_sem] avL
set_option maxRecDepth 100000 in
set_option maxHeartbeats 1000000 in
theorem Uy(F:Fence)(n:Nat)(h:F.fn 212)(cF:F.round=ah)(k m:Int)(s:ByteArray)(sl r:Value)(hr:r=if k=2 then sl else .slice ah 0 0)(w:World):
 CallsIn F n asK 212 #[.agg #[.int .i64 k,.int .i64 m,.string s,sl]] w λe w'=>e=.returned r/\w'=w.alloc (.cells #[.int .i64 k,.int .i64 m,.string s,sl] 84):=by
 refine callsIn_of_wp Tryz.func212 rfl h ?_ cF;simp only[Tryz.ntmps212,at7,atG,auc,auz,auA,atT,atU,aua,atX,atO,at4];subst hr
 gi_wp2
 all_goals first|(go_ret;exact⟨rfl,rfl⟩)|(exfalso;simp_all)
theorem wrap_small(i:Nat)(h:i+1<=9223372036854775807):wrap64 ((i:Int)+1)=((i+1:Nat):Int):=by unfold wrap64;omega
theorem GA(n i:Nat)(h:i<n):n-(intOf (.int .i64 ((i+1:Nat):Int))).toNat<n-(intOf (.int .i64 (i:Int))).toNat:=by simp only[intOf];omega
abbrev gp:={x:Int//0<=x/\x<=1048576}
def SW(n₀:Nat)(W:World)(R:Value->List gp->Prop)(sl:Value)(jL:List (List gp)):Prop:=
 jL.length<=9223372036854775807/\((jL=[]/\∃a cap,sl=.slice a 0 cap)\/
 ∃b off cap,sl=.slice (aa ⟨b,off,ah⟩) jL.length cap/\b<n₀/\∀(i:Nat) (xs:List gp),jL[i]?=aa xs->∃u0 u1 u2 u3,W.cell? ⟨b,off+i*4,ah⟩=aa u0/\W.cell? ⟨b,off+i*4+1,ah⟩=aa u1/\
  W.cell? ⟨b,off+i*4+2,ah⟩=aa u2/\W.cell? ⟨b,off+i*4+3,ah⟩=aa u3/\R (.agg #[u0,u1,u2,u3]) xs)
def TW(n₀:Nat)(W:World):Nat->Value->List gp->Prop
 |0,_,_=>False
 |d+1,v,xs=>∃k n s a l c,v=.agg #[.int .i64 k,.int .i64 n,.string s,.slice a l c]/\((k=1/\∃h,xs=[⟨n,h⟩])\/(k≠1/\k≠2/\xs=[])\/(k=2/\∃jL,SW n₀ W (TW n₀ W d) (.slice a l c) jL/\xs=jL.flatten))
theorem TW.form{n₀:Nat}{W:World}:∀{d:Nat} {v:Value} {xs:List gp},TW n₀ W d v xs->∃k n s a l c,v=.agg #[.int .i64 k,.int .i64 n,.string s,.slice a l c]
 |0,_,_,ht=>ht.elim
 |d+1,_,_,⟨k,n,s,a,l,c,h1,_⟩=>⟨k,n,s,a,l,c,h1⟩
theorem SW.below{n₀:Nat}{A B:World}(h:Below n₀ A B){R R':Value->List gp->Prop}(hR:∀v xs,R v xs->R' v xs){sl:Value}{jL:List (List gp)}(hs:SW n₀ A R sl jL):SW n₀ B R' sl jL:=by
 rcases hs with⟨hl,hs|⟨b,off,cap,h1,h2,h3⟩⟩
 ·exact⟨hl,.inl hs⟩
 ·refine⟨hl,.inr ⟨b,off,cap,h1,h2,λi xs hi=>?_⟩⟩;obtain⟨u0,u1,u2,u3,g0,g1,g2,g3,g4⟩:=h3 i xs hi;exact⟨u0,u1,u2,u3,(h.cell h2).trans g0,(h.cell h2).trans g1,(h.cell h2).trans g2,(h.cell h2).trans g3,hR _ _ g4⟩
theorem TW.below{n₀:Nat}{A B:World}(h:Below n₀ A B):∀{d:Nat} {v:Value} {xs:List gp},TW n₀ A d v xs->TW n₀ B d v xs
 |0,_,_,ht=>ht
 |d+1,_,_,⟨k,n,s,a,l,c,h1,h2⟩=>⟨k,n,s,a,l,c,h1,h2.imp id λh2=>h2.imp id λ⟨hk,jL,h3,h4⟩=>⟨hk,jL,h3.below h λ_ _=>TW.below h,h4⟩⟩
theorem N6{F:Fence}(hd:F.depth=ah)(k:Nat):F.room k:=λd h=>by rw[hd]at h;cases h
theorem RoundIn.Fk{F:Fence}(hd:F.depth=ah){m m':Nat}{P:Program}{l:Nat}{f:FuncId}{tmps:Array Value}{assign body:Code}{w:World}{R:Ending->World->Prop}
 (h:RoundIn F m P l f tmps assign body w R):RoundIn F m' P l f tmps assign body w R:=⟨h.1,λc cs _=>h.2 c cs (N6 hd _)⟩
theorem YieldAt.Fk{F:Fence}(hd:F.depth=ah){m:Nat}(m':Nat){P:Program}{l:Nat}{args:Array Value}{W:World}{R:Ending->World->Prop}(h:YieldAt F m P l args W R):YieldAt F m' P l args W R:=by
 obtain⟨fn,tmps,assign,body,hy,hR⟩:=h;exact⟨fn,tmps,assign,body,hy,RoundIn.Fk hd hR⟩
set_option maxRecDepth 100000 in
set_option maxHeartbeats 2000000 in
theorem afJ(F:Fence)(hd:F.depth=ah)(Ij:F.fn 161)(Fl:F.fn 212)(cF:F.round=ah)(l n₀ N:Nat)(J Jx:List gp->World->Prop)
 (M3:∀pre W W',J pre W->W.grownBy W' ah->J pre W')
 (hY:∀m pre (x:gp) W,J pre W->pre.length<N->YieldAt F m asK l #[.int .i64 x.1] W λe W'=>
  (e=.returned (.bool ab)/\J (pre++[x]) W'/\Below n₀ W W')\/(e=.returned (.bool af)/\Jx (pre++[x]) W')):
 ∀(d n:Nat) (v:Value) (xs pre:List gp) (W:World),TW n₀ W d v xs->n₀<=W.heap.size->J pre W->pre.length+xs.length<=N->
  CallsIn F n asK 161 #[v,.func (.yield l) #[] #[]] W λe W'=>
   (e=.returned (.bool ab)/\J (pre++xs) W'/\Below n₀ W W')\/(e=.returned (.bool af)/\∃q,q<+:xs/\Jx (pre++q) W'):=by
 have yn:∀k:Nat,(F.depth.isSome=ab->1<=k):=λk h=>by rw[hd]at h;cases h
 intro d;induction d with
 |zero=>intro n v xs pre W ht;exact ht.elim
 |succ d ih=>
  intro n v xs pre W ht hn hJ hN;obtain⟨k,m,s,a0,l0,c0,rfl,Uz⟩:=ht;obtain⟨sl,nG⟩:∃sl,sl=awX a0 l0 c0:=⟨_,rfl⟩;rw[<-nG]at Uz⊢;clear nG a0 l0 c0;refine callsIn_of_wp Tryz.func161 rfl Ij ?_ cF;simp only[Tryz.ntmps161,at7,atG,auc,auz,auA,atT,atU,aua,atX,atO,at4];have bD:=M3 pre W (W.alloc (.cells #[.int .i64 k,.int .i64 m,.string s,sl] 84)) hJ (avm W _ ah);rcases Uz with⟨hk,DH,rfl⟩|Uz
  ·subst hk;simp only[List.length_singleton]at hN⊢;obtain⟨fn,tmps,assign,body,hy,hR⟩:=hY (n- 1) pre ⟨m,DH⟩ _ bD (by omega)
   gi_wp2_with ((try refine⟨yn _,?_⟩);refine hR.mono ?_;clear hR;rintro e W2 (⟨rfl,ff,fk⟩|⟨rfl,wS⟩))
   ·go_ret
    exact .inl ⟨rfl,ff,((auy n₀ W).alloc hn _).trans fk⟩
   ·go_ret
    exact .inr ⟨rfl,_,⟨[],as9 _⟩,wS⟩
  ·have hk:k≠1:=by
    rcases Uz with⟨h,_⟩|⟨h,_⟩
    ·exact h
    ·omega
   obtain⟨r,hr⟩:∃r,r=if k=2 then sl else awX ah 0 0:=⟨_,rfl⟩
   obtain⟨us,GZ,jf⟩:∃us:List (List gp),SW n₀ W (TW n₀ W d) r us/\us.flatten=xs:=by
    rcases Uz with⟨_,h2,rfl⟩|⟨h2,jL,hs,rfl⟩
    ·exact⟨[],by rw[hr,if_neg h2];exact⟨by simp,.inl ⟨rfl,ah,0,rfl⟩⟩,rfl⟩
    ·exact⟨jL,by rw[hr,if_pos h2];exact hs,rfl⟩
   rw[<-jf]at hN⊢;have hH:Hid (r=if k=2 then sl else awX ah 0 0):=hr;clear jf hr Uz;rcases GZ with⟨Tq,⟨rfl,a,cap,rfl⟩|⟨b,off,cap,rfl,Ea,oJ⟩⟩
   ·gi_wp2_with (first
     |((try refine⟨yn _,?_⟩);gi_at_call 212;refine(Uy F _ Fl cF k m s sl _ hH.out _).mono ?_;rintro e w' ⟨rfl,rfl⟩))
    gi_loopw [17] (λp wr=>p=.int .i64 0/\J pre wr/\Below n₀ W wr) (λ_ _=>0)
    case atStart=>exact⟨rfl,M3 _ _ _ bD (avm _ _ ah),((auy n₀ W).alloc hn _).alloc (by simp;omega) _⟩
    case round=>
     obtain⟨rfl,Ad,tb⟩:=hrel
     gi_wp2
     go_ret
     exact .inl ⟨rfl,by simpa using Ad,tb⟩
   ·gi_wp2_with (first
     |((try refine⟨yn _,?_⟩);gi_at_call 212;refine(Uy F _ Fl cF k m s sl _ hH.out _).mono ?_;rintro e w' ⟨rfl,rfl⟩))
    gi_loopw [17] (λp wr=>∃i:Nat,p=.int .i64 i/\i<=us.length/\J (pre++(us.take i).flatten) wr/\Below n₀ W wr) (λp _=>us.length-(intOf p).toNat)
    case atStart=>exact⟨0,rfl,by omega,by simpa using M3 _ _ _ bD (avm _ _ ah),((auy n₀ W).alloc hn _).alloc (by simp;omega) _⟩
    case round=>
     obtain⟨i,rfl,hi,Ad,tb⟩:=hrel;by_cases ai:i<us.length
     ·have gk:(i:Int)<(us.length:Int):=by omega
      obtain⟨u0,u1,u2,u3,g0,g1,g2,g3,g4⟩:=oJ i us[i] (asL ai);have c0:wr.cell? ⟨b,off+i*4,ah⟩=aa u0:=(tb.cell Ea).trans g0;have c1:wr.cell? ⟨b,off+i*4+1,ah⟩=aa u1:=(tb.cell Ea).trans g1;have c2:wr.cell? ⟨b,off+i*4+2,ah⟩=aa u2:=(tb.cell Ea).trans g2;have c3:wr.cell? ⟨b,off+i*4+3,ah⟩=aa u3:=(tb.cell Ea).trans g3;obtain⟨k',n',s',a',l',c',he⟩:=g4.form;simp only[aw5,axc,atK,and_true]at he;obtain⟨rfl,rfl,rfl,rfl⟩:=he;have aU:n₀<=wr.heap.size:=atd hn tb.size;have J7:(us.take (i+1)).flatten=(us.take i).flatten++us[i]:=by rw[asX ai,at1];simp only[avh,axt,as9]
      have hle:(us.take i).flatten.length+us[i].length<=us.flatten.length:=by
       rw[<-atc,<-J7]
       conv=>rhs;rw[<-auv (i+1) us,at1,atc]
       omega
      have ihc:=ih (n- 1) _ us[i] (pre++(us.take i).flatten) (wr.alloc (.cells #[.int .i64 k',.int .i64 n',.string s',.slice a' l' c'] 84)) (g4.below (tb.alloc aU _)) (by simp;omega) (M3 _ _ _ Ad (avm _ _ ah)) (by rw[atc];omega);clear g4 oJ;have lM:wrap64 ((i:Int)+1)=((i+1:Nat):Int):=wrap_small i (by omega)
      gi_wp2_with ((try refine⟨yn _,?_⟩);refine ihc.mono ?_;clear ihc;rintro e W3 (⟨rfl,uU,ew⟩|⟨rfl,q,hq,hx3⟩))
      ·go_roundw
       case rel=>exact⟨i+1,by first|rfl|rw[lM],ai,by rw[J7,<-atf];exact uU,(tb.alloc aU _).trans ew⟩
       case measure=>first|exact GA _ _ ai|(rw[lM];exact GA _ _ ai)
      ·go_ret
       obtain⟨t,ht⟩:=hq;refine .inr ⟨rfl,(us.take i).flatten++q,⟨t++(us.drop (i+1)).flatten,?_⟩,by rw[<-atf];exact hx3⟩
       conv=>rhs;rw[<-auv (i+1) us,at1,J7,<-ht]
       simp[atf]
     ·have gk:¬(i:Int)<(us.length:Int):=by omega
      gi_wp2
      go_ret
      have:us.take i=us:=as0 (by omega);exact .inl ⟨rfl,by rw[this]at Ad;exact Ad,tb⟩
set_option maxRecDepth 100000 in
set_option maxHeartbeats 2000000 in
theorem acW(F:Fence)(hd:F.depth=ah)(Ik:F.fn 160)(Ij:F.fn 161)(Fl:F.fn 212)(cF:F.round=ah)(n d l Bn n₀:Nat)(sl:Value)(us:List (List gp))(J Jx:List gp->World->Prop)
 (M3:∀pre W W',J pre W->W.grownBy W' ah->J pre W')
 (hY:∀pre (x:gp) W,J pre W->pre.length<us.flatten.length->YieldAt F (n- 1) asK l #[.int .i64 x.1] W λe W'=>
  (e=.returned (.bool ab)/\J (pre++[x]) W'/\Below n₀ W W')\/(e=.returned (.bool af)/\Jx (pre++[x]) W'))
 (W:World)(hb:Bn<n₀)(hn:n₀<=W.heap.size)(hBn:W.cell? ⟨Bn,0,ah⟩=aa sl)(hL:SW n₀ W (TW n₀ W d) sl us)(h0:J [] W):
 CallsIn F n asK 160 #[.func (.yield l) #[] #[],.pointer (aa ⟨Bn,0,ah⟩)] W λe W'=>(∃v,e=.returned v)/\
  ((∃ys,ys=us.flatten/\J ys W')\/(∃pre,pre<+:us.flatten/\Jx pre W')):=by
 have yn:∀k:Nat,(F.depth.isSome=ab->1<=k):=λk h=>by rw[hd]at h;cases h
 have hw:=afJ F hd Ij Fl cF l n₀ us.flatten.length J Jx M3 (λm pre x W hj hl=>YieldAt.Fk hd m (hY pre x W hj hl)) d (n- 1);obtain⟨Tq,⟨rfl,a,cap,rfl⟩|⟨b,off,cap,rfl,Ea,oJ⟩⟩:=hL
 ·refine callsIn_of_wp awO rfl Ik ?_ cF;simp only[axY,at7,atG,auc,auz,auA,atT,atU,aua,atX,atO,at4]
  gi_wp2
  gi_loopw [6] (λp wr=>p=.int .i64 0/\J [] wr/\Below n₀ W wr) (λ_ _=>0)
  case atStart=>exact⟨rfl,h0,auy n₀ W⟩
  case round=>
   obtain⟨rfl,Ad,tb⟩:=hrel
   gi_wp2
   go_end0
   exact⟨⟨_,rfl⟩,.inl ⟨_,rfl,Ad⟩⟩
 ·refine callsIn_of_wp awO rfl Ik ?_ cF;simp only[axY,at7,atG,auc,auz,auA,atT,atU,aua,atX,atO,at4]
  gi_wp2
  gi_loopw [6] (λp wr=>∃i:Nat,p=.int .i64 i/\i<=us.length/\J (us.take i).flatten wr/\Below n₀ W wr) (λp _=>us.length-(intOf p).toNat)
  case atStart=>exact⟨0,rfl,by omega,by simpa using h0,auy n₀ W⟩
  case round=>
   obtain⟨i,rfl,hi,Ad,tb⟩:=hrel;have hBc:wr.cell? ⟨Bn,0,ah⟩=aa (.slice (aa ⟨b,off,ah⟩) us.length cap):=(tb.cell hb).trans hBn;by_cases ai:i<us.length
   ·have gk:(i:Int)<(us.length:Int):=by omega
    obtain⟨u0,u1,u2,u3,g0,g1,g2,g3,g4⟩:=oJ i us[i] (asL ai);have c0:wr.cell? ⟨b,off+i*4,ah⟩=aa u0:=(tb.cell Ea).trans g0;have c1:wr.cell? ⟨b,off+i*4+1,ah⟩=aa u1:=(tb.cell Ea).trans g1;have c2:wr.cell? ⟨b,off+i*4+2,ah⟩=aa u2:=(tb.cell Ea).trans g2;have c3:wr.cell? ⟨b,off+i*4+3,ah⟩=aa u3:=(tb.cell Ea).trans g3;have J7:(us.take (i+1)).flatten=(us.take i).flatten++us[i]:=by rw[asX ai,at1];simp only[avh,axt,as9]
    have hle:(us.take i).flatten.length+us[i].length<=us.flatten.length:=by
     rw[<-atc,<-J7]
     conv=>rhs;rw[<-auv (i+1) us,at1,atc]
     omega
    have ihc:=hw _ us[i] (us.take i).flatten wr (g4.below tb) (atd hn tb.size) Ad hle;obtain⟨k',n',s',a',l',c',he⟩:=g4.form;simp only[aw5,axc,atK,and_true]at he;obtain⟨rfl,rfl,rfl,rfl⟩:=he;clear g4 oJ hw;have lM:wrap64 ((i:Int)+1)=((i+1:Nat):Int):=wrap_small i (by omega)
    gi_wp2_with ((try refine⟨yn _,?_⟩);refine ihc.mono ?_;clear ihc;rintro e W3 (⟨rfl,uU,ew⟩|⟨rfl,q,hq,hx3⟩))
    ·go_roundw
     case rel=>exact⟨i+1,by first|rfl|rw[lM],ai,by rw[J7];exact uU,tb.trans ew⟩
     case measure=>first|exact GA _ _ ai|(rw[lM];exact GA _ _ ai)
    ·refine bodyPost_ret (results_none rfl _ _ _) rfl ?_;obtain⟨t,ht⟩:=hq;refine⟨⟨_,rfl⟩,.inr ⟨(us.take i).flatten++q,⟨t++(us.drop (i+1)).flatten,?_⟩,hx3⟩⟩
     conv=>rhs;rw[<-auv (i+1) us,at1,J7,<-ht]
     simp[atf]
   ·have gk:¬(i:Int)<(us.length:Int):=by omega
    gi_wp2
    go_end0
    have:us.take i=us:=as0 (by omega);rw[this]at Ad
    first|exact Ad|exact⟨⟨_,rfl⟩,.inl Ad⟩|exact .inl Ad|exact⟨⟨_,rfl⟩,.inl ⟨_,rfl,Ad⟩⟩
theorem XF(F:Fence)(hd:F.depth=ah)(Ik:F.fn 160)(Ij:F.fn 161)(Fl:F.fn 212)(cF:F.round=ah)(n d Bn n₀:Nat)(sl:Value)(us:List (List gp))(w:World)(hb:Bn<n₀)(hn:n₀<=w.heap.size)
 (hc:w.cell? ⟨Bn,0,ah⟩=aa sl)(hL:SW n₀ w (TW n₀ w d) sl us):
 SeqStopsK F n asK 160 #[.pointer (aa ⟨Bn,0,ah⟩)] (λx:gp=> #[atP .i64 x.1]) (Below n₀) (λys=>ys=us.flatten) (λpre=>pre<+:us.flatten) us.flatten.length w:=λl J Jx W hW hJ _ hY h0=>
 acW F hd Ik Ij Fl cF n d l Bn n₀ sl us J Jx (λpre A B hj hg=>hJ pre A B ah hj hg (λr e=>by cases e)) hY W hb (atd hn hW.size) ((hW.cell (p:=⟨Bn,0,ah⟩) (by show Bn<_;omega)).trans hc) (hL.below (hW.mono hn) λ_ _=>TW.below (hW.mono hn)) h0
set_option maxHeartbeats 1000000 in
theorem LF(F:Fence)(n:Nat)(h:F.fn 105)(cF:F.round=ah)(a:Option Addr)(ln cp:Nat)(w:World):
 CallsIn F n asK 105 #[.slice a ln cp] w λe w'=>e=.returned (.func (.func 160) #[] #[.pointer (aa ⟨w.heap.size,0,ah⟩)])/\w'=w.alloc (.cells #[.slice a ln cp] 48):=by
 refine callsIn_of_wp Tryz.func105 rfl h ?_ cF;simp only[Tryz.ntmps105,at7,atG,auc,auz,auA,atT,atU,aua,atX,atO,at4]
 gi_wp2
 go_ret
 exact⟨rfl,rfl⟩
end Go.Proofs.YtggffkaadeagbaaGreat
namespace Go.Proofs.YtggffkaadeagbaaGreat
open Go Go.RowKit Go.Shelf
attribute [local go_sem] avL
def uq(l:List gp):List gp:=l.foldl (λacc x=>if x∈acc then acc else acc++[x]) []
theorem Rq(pre:List gp){x:gp}(h:x∈uq pre):uq (pre++[x])=uq pre:=by
 unfold uq at h⊢;rw[axk];simp only[att,axP];rw[if_pos h]
theorem LG(pre:List gp){x:gp}(h:x∉uq pre):uq (pre++[x])=uq pre++[x]:=by
 unfold uq at h⊢;rw[axk];simp only[att,axP];rw[if_neg h]
theorem aqO(x:gp):(Lit.int .i64 x.1).wf=ab:=by
 obtain⟨x,h1,h2⟩:=x;have e1:as7.min= -9223372036854775808:=by decide
 have e2:as7.max=9223372036854775807:=by decide
 simp[Lit.wf,e1,e2];omega
theorem LH:∀(N:Nat) (l:List Int),l.Nodup->(∀x∈l,0<=x/\x<N)->l.length<=N
 |0,[],_,_=>by simp
 |0,x::l,_,h=>by have:=h x (by simp);omega
 |N+1,l,hn,h=>by
  have ih:=LH N (l.erase (N:Int)) (hn.erase _) λx hx=>by
   have h1:=h x (List.mem_of_mem_erase hx);have h2:x≠(N:Int):=λhe=>by rw[hn.mem_erase_iff]at hx;exact hx.1 he
   omega
  rw[List.length_erase]at ih;split at ih<;>omega
theorem acX(pre:List gp):(uq pre).Nodup:=by
 have key:∀(l acc:List gp),acc.Nodup->(l.foldl (λacc x=>if x∈acc then acc else acc++[x]) acc).Nodup:=by
  intro l;induction l with
  |nil=>intro acc h;exact h
  |cons y l ih=>
   intro acc h;rw[att];refine ih _ ?_;split
   ·exact h
   ·rename_i hy;rw[List.nodup_append];exact⟨h,by simp,λa ha b hb=>by simp at hb;subst hb;exactλhe=>hy (he▸ha)⟩
 exact key pre [] (by simp)
theorem acY(pre:List gp):(uq pre).length<=1048577:=by
 have hn:((uq pre).map (·.1)).Nodup:=ayh (λx:gp=>x.1) (λa b h he=>h (awI he)) (acX pre)
 have:=LH 1048577 ((uq pre).map (·.1)) hn λx hx=>by
  obtain⟨y,_,rfl⟩:=ath.1 hx;have:=y.2;omega
 simpa using this
def Ae{H:Type}(xs:List gp):DataW H:=xs.foldl (λD x=>D.put (.int .i64 x.1) (.lit (.bool ab))) (.map [])
theorem J8{H:Type}(pre:List gp)(x:gp):Ae (H:=H) (pre++[x])=(Ae pre).put (.int .i64 x.1) (.lit (.bool ab)):=by simp[Ae]
theorem S8{H:Type}(xs:List gp):axd (Ae (H:=H) xs):=by
 have key:∀(l:List gp) (D:DataW H),axd D->axd (l.foldl (λD x=>D.put (.int .i64 x.1) (.lit (.bool ab))) D):=by
  intro l;induction l with
  |nil=>intro D h;exact h
  |cons y l ih=>
   intro D h;rw[att];obtain⟨es,rfl⟩:=h;exact ih _ ⟨_,rfl⟩
 exact key xs _ ⟨[],rfl⟩
theorem Il{H:Type}(x:gp):∀(n:Nat) (xs:List gp),xs.length=n->(Ae (H:=H) xs).atKey (.int .i64 x.1) (.lit (.bool af))=.lit (.bool (decide (x∈xs)))
 |0,xs,h=>by
  rw[atr h];rfl
 |n+1,xs,h=>by
  rcases List.eq_nil_or_concat xs with rfl|⟨ys,y,rfl⟩
  ·simp at h
  ·rw[List.concat_eq_append]at h⊢;rw[J8];by_cases TS:x=y
   ·subst TS;rw[Maps.atKey_put_same (S8 ys) (by simp[WideAt.IsKeyLit])];simp
   ·rw[Maps.atKey_put_other (λhe=>TS (awI (by simpa using he))),Il x n ys (by simpa using h)];simp[TS]
section
variable{H:Type}{F:Fence}{nF:Nat}{P:Program}(w:World){ops:Array Oper}{rest:List Oper}{o:Oper}{a:Act}{Q:Exit->Act->World->Prop}
theorem Fm{e:TypeId}(he:P.underlying e=aa .bool){v:Value}{c:Bool}{ps:List MemPlace}(h:plainElem (H:=H) P e v=aa (.lit (.bool c),ps)):v=.bool c:=by
 unfold plainElem at h;rw[he]at h;cases v<;>simp at h;rw[h.1]
theorem qj(hg:o.guard=ah)(m x:Operand)(t:TypeId)(fH:o.op=Op.lookup t m x af)
 (k e:TypeId)(K:Maps.Keyed P k)(ht:P.underlying t=aa (.map k e))(he:P.underlying e=aa .bool)(hz:(zeroValue e).run P w=.ok (.bool af) w)(b n:Nat)(D:DataW H)
 (hm:a.eval m=.map (aa b))(lO:w.ownsMap P k (plainElem P e) b n D)(key:Value)(kl:Lit)(hx:a.eval x=key)(m_:keyOf P k key=aa kl)(c:Bool)(aE:D.atKey kl (.lit (.bool af))=.lit (.bool c))
 (hK:wpListIn F nF P ops Q rest (a.put o.dst (.bool c)) w):
 wpListIn F nF P ops Q (o::rest) a w:=by
 refine wpListIn_plain hg λK' hK'=>?_;obtain⟨v,ps,fU,hv⟩:=lO.lookup K ht hz (plainElem_bool he af) m_;rw[aE]at hv;obtain rfl:=Fm he hv;unfold Oper.wpIn;refine⟨by simp[Oper.about,fH],?_⟩;rw[Oper.semAt_plain F _ _ (by rw[fH];intro c yd;cases yd)];simp[execOp,fH,hm,hx,fU,Result.andThen];exact hK' _ _ hK
end
theorem Rr{H:Type}{P:Program}{k:TypeId}{R:Value->Option (DataW H×List MemPlace)}{W W':World}{b n:Nat}{D:DataW H}(h:W.ownsMap P k R b n D)(hb:W'.heap[b]?=W.heap[b]?):W'.ownsMap P k R b n D:=by
 obtain⟨es,clock,h1,h2⟩:=h;exact⟨es,clock,hb.trans h1,h2⟩
theorem am1:(asK.info? 3).map (λi=>(i.zero,i.size,i.bytes))=aa (aa (.int .i64 0),1,8):=by kernel_rfl
set_option maxRecDepth 100000 in
set_option maxHeartbeats 4000000 in
theorem afK(F:Fence)(hd:F.depth=ah)(n:Nat)(aqP:F.fn 104)(Ik:F.fn 160)(Ij:F.fn 161)(Fl:F.fn 212)(cF:F.round=ah)(d Bn:Nat)(sl:Value)(us:List (List gp))(w:World)(hb:Bn<w.heap.size)
 (hc:w.cell? ⟨Bn,0,ah⟩=aa sl)(hL:SW w.heap.size w (TW w.heap.size w d) sl us):
 CallsIn F (n+3) asK 104 #[.func (.func 160) #[] #[.pointer (aa ⟨Bn,0,ah⟩)]] w λe W'=>∃v,e=.returned v/\W'.ownsRow w.heap.size 3 1 v (uq us.flatten).length ((uq us.flatten).map λx=>atP .i64 x.1)/\(v=.slice ah 0 0↔uq us.flatten=[])/\Below w.heap.size w W':=by
 have h1:1<=n+3:=by omega
 obtain⟨i0,hi,nE,nu,Jk⟩:=info_parts am1;have hmm:= @run_makeMap asK;refine callsIn_of_wp_marks Tryz.func104 rfl aqP ?_ cF;simp only[Tryz.ntmps104,at7,atG,auc,auz,auA,atT,atU,aua,atX,atO,at4]
 gi_wp2
 have bO0:=axl w 47 (.slice ah 0 0);have Dl:=World.ownsMap_made (w.alloc (.cells #[.slice ah 0 0] 47)) asK 3 (plainElem (H:=Unit) asK 4);have bS0:=axl ((w.alloc (.cells #[.slice ah 0 0] 47)).alloc (.map #[] 0)) 192 (.map (aa (w.heap.size+1)));simp only[axm]at Dl bS0;have Eg:Below w.heap.size w (((w.alloc (.cells #[.slice ah 0 0] 47)).alloc (.map #[] 0)).alloc (.cells #[.map (aa (w.heap.size+1))] 192)):=(((auy _ w).alloc (asR _) _).alloc (by simp) _).alloc (by simp;omega) _
 refine wpIn_rangeFunc_ownG cF h1 (gf:=160) (lb:= #[.pointer (aa ⟨Bn,0,ah⟩)]) rfl Ik (enters_of awO (by kernel_rfl) rfl)
  (XF F hd Ik Ij Fl cF _ d Bn w.heap.size sl us _ hb (by simp;omega) ((Eg.cell (p:=⟨Bn,0,ah⟩) hb).trans hc) (hL.below Eg λ_ _=>TW.below Eg)) belowK_t (belowK_b (by simp;omega)) (auy _ _) (λ_=>rfl)
  (λpre W=>((∃v,Boxed W w.heap.size 47 v/\W.ownsRow w.heap.size 3 1 v (uq pre).length ((uq pre).map λx=>atP .i64 x.1)/\(v=.slice ah 0 0↔uq pre=[]))/\
   (Boxed W (w.heap.size+1+1) 192 (.map (aa (w.heap.size+1)))/\W.ownsMap asK 3 (plainElem (H:=Unit) asK 4) (w.heap.size+1) (uq pre).length (Ae (uq pre))))/\Below w.heap.size w W)
  (λ_ _ _=>False)
  (axQ (axQ (Own.from (holdsRow_own w.heap.size w.heap.size 47 3 1 (λpre=>(uq pre).length) (λpre=>(uq pre).map λx=>atP .i64 x.1) (λpre v=>v=.slice ah 0 0↔uq pre=[])) _)
   (λs A B row hs hg hr=>⟨hs.1.kept hg (λe=>by have:=(hr _ e.symm).1;simp at this;omega),hs.2.kept hg (λe=>by have:=(hr _ e.symm).1;simp at this;omega)⟩)) (ownFrom_below (asR _) (by simp;omega)))
  (λ_ _ _ _ _ hs _ _=>hs)
  ⟨⟨⟨_,(bO0.alloc _).alloc _,World.ownsRow_nil _ _ _ _,by simp[uq]⟩,⟨bS0,Dl.alloc _⟩⟩,Eg⟩
  (λx=>{tmps:= #[.func (.func 160) #[] #[.pointer (aa ⟨Bn,0,ah⟩)],undef,.slice ah 0 0,.pointer (aa ⟨w.heap.size,0,ah⟩),.pointer (aa ⟨w.heap.size+1+1,0,ah⟩),.int .i64 x.1,.map (aa (w.heap.size+1)),.func (.func 160) #[] #[.pointer (aa ⟨Bn,0,ah⟩)],.int .i64 x.1,undef,undef,undef,undef,undef,undef,undef,undef,undef,undef,undef],defers:=[]}) ?assign ?body ?done ?stop
 case assign=>
  intro l x W K hK
  gi_wp2
  exact hK
 case body=>
  rintro l pre x W ⟨⟨⟨v,hv,kA,re⟩,gw,lO⟩,hB⟩ ai;have bH:=gw.cell;have m_:=Maps.keyOf_int_mk avi (aqO x);have mZ:=acY pre;have aU:w.heap.size<=W.heap.size:=hB.size;by_cases hx:x∈uq pre
  ·have aE:(Ae (H:=Unit) (uq pre)).atKey (.int .i64 x.1) (.lit (.bool af))=.lit (.bool ab):=by rw[Il x _ _ rfl];simp[hx]
   gi_wp2_with (gi_at_lookup;refine qj _ rfl _ _ 192 rfl 3 4 (awz avi) av1 avJ (awA _) (w.heap.size+1) (uq pre).length _ rfl lO _ _ rfl m_ ab aE ?_)
   exact⟨ayC _ _,auy _ _,⟨⟨v,hv,by rw[Rq pre hx];exact kA,by rw[Rq pre hx];exact re⟩,gw,by rw[Rq pre hx];exact lO⟩,hB⟩
  ·have aE:(Ae (H:=Unit) (uq pre)).atKey (.int .i64 x.1) (.lit (.bool af))=.lit (.bool af):=by rw[Il x _ _ rfl];simp[hx]
   have D0:2000000<=maxLen:=by decide
   have L_:(uq pre).length<maxLen:=by omega
   have aqQ:(uq pre).length+1<=maxLen:=by omega
   have hub:((uq pre).length+1)*8<=140737488355328:=by omega
   gi_wp2_with (first
    |(gi_at_lookup;refine qj _ rfl _ _ 192 rfl 3 4 (awz avi) av1 avJ (awA _) (w.heap.size+1) (uq pre).length _ rfl lO _ _ rfl m_ af aE ?_)
    |(gi_at_mapUpdate;refine wpListIn_mapUpdate_own _ rfl _ _ _ 192 rfl 3 4 (awz avi) av1 _ (w.heap.size+1) (uq pre).length _ rfl lO L_ _ _ _ rfl rfl m_ _ [] (plainElem_bool avJ ab) ?_;intro w1 aek Bu;
      obtain⟨v1,T0,XG,asl⟩:=holdsRow_own (β:=Unit) w.heap.size w.heap.size 47 3 1 (λ_=>(uq pre).length) (λ_=>(uq pre).map λx=>atP .i64 x.1) (λ_ v=>v=.slice ah 0 0↔uq pre=[]) () W w1 (aa (w.heap.size+1)) ⟨v,hv,kA,re⟩ Bu (λr e=>by cases e;obtain⟨es,ck,hh,_⟩:=lO;exact⟨_,hh,rfl⟩);
      have bN:=T0.cell;have XH:w.heap.size<=w1.heap.size:=atd aU Bu.size)
    |(gi_at_builtin;refine wpListIn_append_own _ rfl _ _ 47 rfl w.heap.size 3 i0 (.int .i64 0) 1 8 Tryz.underlying47 hi nE nu Jk rfl (by decide) _ _ _ rfl (XG.alloc _) ⟨w1.heap.size,0,ah⟩ 1 1 [.int .i64 x.1] rfl rfl (cell_one_new _ _ _) (by simp[Value.oneCell']) aqQ hub (atd XH (by simp)) ?_;
      intro v' w2 Iy aaO _;obtain⟨g',H2,rfl⟩:=ownsRow_succ Iy;obtain⟨UA,hv3,hr3,hk3,ew⟩:=T0.appended (by decide) XG XH (asR _) Iy aaO;have gG:=UA.cell;have hf2:=UA.frozen))
   have Ef:Boxed w1 (w.heap.size+1+1) 192 (.map (aa (w.heap.size+1))):=gw.kept Bu (λe=>by simp at e);have aqR:Boxed w2 (w.heap.size+1+1) 192 (.map (aa (w.heap.size+1))):=(Ef.alloc _).kept aaO (Ef.not_row (by decide) XG);have aqS:=aqR.other (B':=w.heap.size) (by omega) (.slice (aa ⟨g',0,ah⟩) ((uq pre).length+1) H2);have zW:w1.heap[w.heap.size+1]?=_:=au6 (au6 aek)|>.1
   refine⟨(ayD Bu (λj e=>by cases e;simp)).trans (hk3.from _),((auy _ W).grown Bu aU (λk e=>by cases e;omega)).trans ew,
    ⟨⟨_,hv3,by rw[LG pre hx];simpa using hr3,by rw[LG pre hx];simp⟩,aqS,?_⟩,(hB.grown Bu aU (λk e=>by cases e;omega)).trans ew⟩
   rw[LG pre hx,J8,atc];exact Rr aek ((hk3.same _ _ zW rfl).trans zW.symm)
 case done=>
  rintro D ys W hD rfl ⟨⟨⟨v,hv,kA,re⟩,gw,lO⟩,hB⟩ hK;have hc:=hv.cell
  gi_wp2
  refine⟨by simp,.inl ⟨_,_,rfl,run_takeDeferred hK,?_⟩⟩;exact⟨_,results_tmp rfl _ _ _,v,rfl,ownsRow_putObj kA _ hK rfl,re,hB.trans (belowK_b (w:=w) (asR _) W D _ _ (by simp at hD;omega) hK rfl rfl)⟩
 case stop=>
  rintro D c pre W _ _ h _;exact h.elim
end Go.Proofs.YtggffkaadeagbaaGreat
namespace Go.Proofs.YtggffkaadeagbaaGreat
open Go Go.RowKit Go.Shelf
attribute [local go_sem] avL
def gq:Tm->List Int
 |.mk k n _ ts=>if k=1 then[n]else if k=2 then Ow ts else[]
where Ow:List Tm->List Int
 |[]=>[]
 |t::ts=>gq t++Ow ts
theorem Da:∀l:List Tm,gq.Ow l=(l.map gq).flatten
 |[]=>rfl
 |t::l=>by simp[gq.Ow,Da l]
theorem fj{ι:Ev.Io}{v u:Value}(h:Ev.Rv ι (.raw v) u):u=v:=by cases h;rfl
theorem afL{ι:Ev.Io}{a b c d:Ev.IV}{v:Value}(h:Ev.Rv ι (.agg [a,b,c,d]) v):∃x y z u,v=.agg #[x,y,z,u]/\Ev.Rv ι a x/\Ev.Rv ι b y/\Ev.Rv ι c z/\Ev.Rv ι d u:=by
 cases h with
 |agg _ vs hl hh=>
  match vs,hl,hh with
  |[x,y,z,u],_,hh=>exact⟨x,y,z,u,rfl,hh 0 _ _ rfl rfl,hh 1 _ _ rfl rfl,hh 2 _ _ rfl rfl,hh 3 _ _ rfl rfl⟩
theorem afM{ι:Ev.Io}{a b:Ev.IV}{v:Value}(h:Ev.Rv ι (.agg [a,b]) v):∃x y,v=.agg #[x,y]/\Ev.Rv ι a x/\Ev.Rv ι b y:=by
 cases h with
 |agg _ vs hl hh=>
  match vs,hl,hh with
  |[x,y],_,hh=>exact⟨x,y,rfl,hh 0 _ _ rfl rfl,hh 1 _ _ rfl rfl⟩
theorem afN{ι:Ev.Io}{a b c:Ev.IV}{v:Value}(h:Ev.Rv ι (.agg [a,b,c]) v):∃x y z,v=.agg #[x,y,z]/\Ev.Rv ι a x/\Ev.Rv ι b y/\Ev.Rv ι c z:=by
 cases h with
 |agg _ vs hl hh=>
  match vs,hl,hh with
  |[x,y,z],_,hh=>exact⟨x,y,z,rfl,hh 0 _ _ rfl rfl,hh 1 _ _ rfl rfl,hh 2 _ _ rfl rfl⟩
theorem Im{ι:Ev.Io}{s:Nat}{es:List Ev.IV}{v:Value}(h:Ev.Rv ι (.tree s es) v):∃a l c,v=.slice a l c:=by
 cases h with
 |tree=>exact⟨_,_,_,rfl⟩
 |dY=>exact⟨_,_,_,rfl⟩
theorem XI{M:Ev.Fz}{w:World}(hM:Ev.uR M w):∀(d:Nat) (t:Tm) (v:Value),avy t<=d->oM t->dE t->Ev.Rv (Ev.eH M) (c7 t) v->∃xs,TW w.heap.size w d v xs/\xs.map (·.1)=gq t:=by
 intro d;induction d with
 |zero=>intro t v h;obtain⟨k,n,s,ts⟩:=t;simp at h
 |succ d ih=>
  rintro⟨k,n,s,ts⟩ v hd hn hf hr;rw[vi]at hr;obtain⟨x,y,z,u,rfl,h1,h2,h3,h4⟩:=afL hr;obtain rfl:=fj h1;obtain rfl:=fj h2;obtain rfl:=fj h3;obtain⟨a,l,c,rfl⟩:=Im h4;obtain⟨_,tc,ct⟩:=(ny _).1 hn;obtain⟨EP,hf2⟩:=(Ab _).1 hf;simp only[Tm.k,Tm.n,Tm.ts]at tc ct EP hf2;by_cases nK:k=1
  ·exact⟨[⟨n,EP nK⟩],⟨k,n,_,a,l,c,rfl,.inl ⟨nK,EP nK,rfl⟩⟩,by simp[gq,nK]⟩
  by_cases AO:k=2
  rotate_left
  ·exact⟨[],⟨k,n,_,a,l,c,rfl,.inr (.inl ⟨nK,AO,rfl⟩)⟩,by simp[gq,nK,AO]⟩
  obtain⟨jL,hs,hv⟩:∃jL,SW w.heap.size w (TW w.heap.size w d) (.slice a l c) jL/\jL.map (λxs=>xs.map (·.1))=ts.map gq:=ael hM tc h4 λt ht v hv=>by
   have:=aug ht;exact ih t v (by simp at hd;omega) (ct t ht) (hf2 AO t ht) hv
  refine⟨jL.flatten,⟨k,n,_,a,l,c,rfl,.inr (.inr ⟨AO,jL,hs,rfl⟩)⟩,?_⟩;rw[axu];simp[gq,AO,Da,hv]
where
 ael {M:Ev.Fz} {w:World} (hM:Ev.uR M w) {ts:List Tm} {a:Option Addr} {l c:Nat} (tc:Sm ts) (h4:Ev.Rv (Ev.eH M) (iT ts) (.slice a l c)) {R:Value->List gp->Prop} (ih:∀t∈ts,∀v,Ev.Rv (Ev.eH M) (c7 t) v->∃xs,R v xs/\xs.map (·.1)=gq t):
  ∃jL,SW w.heap.size w R (.slice a l c) jL/\jL.map (λxs=>xs.map (·.1))=ts.map gq:=by
  have ik:∀(b off k:Nat) (u:Value),Ev.pk M b (off+k)=aa u->b<w.heap.size/\w.cell? ⟨b,off+k,ah⟩=aa u:=by
   intro b off k u h;unfold Ev.pk at h;cases hb:M b with
   |none=>rw[hb]at h;cases h
   |some cs=>
    rw[hb]at h;obtain⟨e,f,hh⟩:=hM b cs hb;exact⟨hM.lt hb,by simp only[ax6,hh];exact h⟩
  obtain⟨es,gF⟩:∃es,es=ts.map c7:=⟨_,rfl⟩;have h4':Ev.Rv (Ev.eH M) (.tree 4 es) (.slice a l c):=by rw[gF];exact h4
  cases h4' with
  |dY _ _ _ hs hn=>
   have:ts=[]:=by simpa using gF.symm
   subst this;exact⟨[],⟨by simp,.inl ⟨rfl,_,_,rfl⟩⟩,rfl⟩
  |tree _ _ b off _ us hs hc bH hu hh=>
   subst gF;rcases Nat.eq_zero_or_pos ts.length with h0|tx
   ·have:ts=[]:=atr h0;subst this;exact⟨[],⟨by simp,.inl ⟨rfl,_,_,rfl⟩⟩,rfl⟩
   have oJ:∀i (hi:i<ts.length),∃xs,R (.agg #[us (i*4),us (i*4+1),us (i*4+2),us (i*4+3)]) xs/\xs.map (·.1)=gq ts[i]:=by
    intro i hi;refine ih ts[i] (List.getElem_mem hi) _ ?_;have tC:(ts.map c7)[i]?=aa (c7 ts[i]):=by simp[hi]
    have rB:=λj c=>hh i (c7 ts[i]) j c tC;generalize ts[i]=t at rB;obtain⟨k,n,s,ts'⟩:=t;rw[vi]at rB⊢;refine .agg _ [us (i*4),us (i*4+1),us (i*4+2),us (i*4+3)] rfl λj c v h1 h2=>?_;have:=rB j c h1;have hj:j<4:=by have:=(asM.1 h1).1;simpa using this
    match j,hj with
    |0,_=>simp at h2;subst h2;exact this
    |1,_=>simp at h2;subst h2;exact this
    |2,_=>simp at h2;subst h2;exact this
    |3,_=>simp at h2;subst h2;exact this
   have huk:∀k,k<ts.length*4->b<w.heap.size/\w.cell? ⟨b,off+k,ah⟩=aa (us k):=λk hk=>ik b off k _ (hu k (by simpa using hk));refine⟨List.ofFn λi:Fin ts.length=>ayE (oJ i.1 i.2),⟨by simpa using tc,.inr ⟨b,off,_,by simp;rfl,(huk 0 (by omega)).1,λi xs hi=>?_⟩⟩,?_⟩
   ·rw[List.getElem?_ofFn]at hi;split at hi
    ·rename_i ai;simp only[asP]at hi;subst hi;refine⟨_,_,_,_,(huk (i*4) (by omega)).2,?_,?_,?_,(au6 (oJ i ai)).1⟩
     ·rw[awJ];exact(huk (i*4+1) (by omega)).2
     ·rw[awJ];exact(huk (i*4+2) (by omega)).2
     ·rw[awJ];exact(huk (i*4+3) (by omega)).2
    ·cases hi
   ·refine List.ext_getElem (by simp) λi h1 h2=>?_;simp only[List.getElem_map,List.getElem_ofFn];exact(au6 (oJ i (by simpa using h1))).2
theorem Ip{M:Ev.Fz}{w W':World}{new:Bool}{u:Value}{l:List Int}(hM:Ev.uR M w)(hB:Below w.heap.size w W')(hr:W'.ownsRow w.heap.size 3 1 u l.length (l.map λx=>atP .i64 x)):Ev.KI new M w (Ev.iL l) u W':=by
 have tK:∀b,b<w.heap.size->W'.heap[b]?=w.heap[b]? :=hB.block;refine⟨Ev.sw new M w W',?_,?_,?_,?_,hB.os,hB.tape,hB.output,hB.size,tK⟩
 ·intro b c hb;unfold Ev.sw at hb;split at hb
  ·rename_i ai;split at hb
   ·cases hb
   ·rw[tK b ai];exact hM b c hb
  ·split at hb
   ·rename_i c' e f hh;cases hb;exact⟨e,f,hh⟩
   ·cases hb
 ·intro b c hb;unfold Ev.sw at hb;split at hb
  ·split at hb
   ·cases hb
   ·rename_i hn;exact .inl ⟨by simpa using hn,hb⟩
  ·exact .inr (by omega)
 ·intro hn b c hb;have ai:=hM.lt hb;unfold Ev.sw;rw[if_pos ai,if_neg (by simp[hn])];exact hb
 ·obtain⟨hlen,⟨rfl,h0⟩|⟨g,cap,cur,rfl,hg,hh,fO,_,aU,J7⟩⟩:=hr
  ·have:l=[]:=atr h0;subst this;exact .dY 1 ah 0 (by omega) (λ_=>rfl)
  ·by_cases hl:l=[]
   ·subst hl;exact .dY 1 _ _ (by omega) (by simp)
   have jk:∀(k:Nat) (x:Int),l[k]?=aa x->cur[k]?=aa (atP .i64 x):=by
    intro k x hk;have py:=(asM.1 hk).1;have:(cur.toList.take (l.length*1))[k]?=aa (atP .i64 x):=by rw[J7];simp[hk]
    rw[List.getElem?_take,if_pos (by omega)]at this;simpa using this
   have hcm:Ev.pk (Ev.sw new M w W') g=λk=>cur[k]? :=by
    funext k;unfold Ev.pk Ev.sw;rw[if_neg (by omega),hh];rfl
   have:=Ev.Rv.tree (ι:=Ev.eH (Ev.sw new M w W')) 1 (l.map Ev.iI) g 0 cap (λk=>(cur[k]?).getD Go.undef) (by omega) (by simpa using fO) (λe he=>by obtain⟨x,_,rfl⟩:=ath.1 he;rfl)
    (λk hk=>by
     show Ev.pk (Ev.sw new M w W') g (0+k)=_;rw[hcm];simp only[auk,ays]at hk;have:=jk k l[k] (asL hk);simp[this]) (λi e j c he hc=>by
     rw[List.getElem?_map]at he;obtain⟨x,hx,rfl⟩:=Option.map_eq_some_iff.1 he
     have hj:j=0:=by
      have:=(asM.1 hc).1;simp[Ev.cellsOf]at this;exact this
     subst hj;simp[Ev.cellsOf]at hc;subst hc;have:=jk i x hx;simp only[ays,Nat.add_zero,this,Option.getD_some];exact .raw _)
   simpa using this
end Go.Proofs.YtggffkaadeagbaaGreat
namespace Go.Proofs.YtggffkaadeagbaaGreat
open Go Go.RowKit Go.Shelf
attribute [local go_sem] avL
theorem SW.wide{n₀ n₁:Nat}{A:World}(h:n₀<=n₁){R R':Value->List gp->Prop}(hR:∀v xs,R v xs->R' v xs){sl:Value}{jL:List (List gp)}(hs:SW n₀ A R sl jL):SW n₁ A R' sl jL:=by
 rcases hs with⟨hl,hs|⟨b,off,cap,h1,h2,h3⟩⟩
 ·exact⟨hl,.inl hs⟩
 ·refine⟨hl,.inr ⟨b,off,cap,h1,by omega,λi xs hi=>?_⟩⟩;obtain⟨u0,u1,u2,u3,g0,g1,g2,g3,g4⟩:=h3 i xs hi;exact⟨u0,u1,u2,u3,g0,g1,g2,g3,hR _ _ g4⟩
theorem TW.wide{n₀ n₁:Nat}{A:World}(h:n₀<=n₁):∀{d:Nat} {v:Value} {xs:List gp},TW n₀ A d v xs->TW n₁ A d v xs
 |0,_,_,ht=>ht
 |d+1,_,_,⟨k,n,s,a,l,c,h1,h2⟩=>⟨k,n,s,a,l,c,h1,h2.imp id λh2=>h2.imp id λ⟨hk,jL,h3,h4⟩=>⟨hk,jL,h3.wide h λ_ _=>TW.wide h,h4⟩⟩
theorem Rt{W:World}{b b':Nat}{e:TypeId}{s:Nat}{v:Value}{n:Nat}{xs:List Value}(h:b<=b')(hr:W.ownsRow b' e s v n xs):W.ownsRow b e s v n xs:=by
 obtain⟨h1,h2|⟨g,cap,cur,h2,h3,h4⟩⟩:=hr
 ·exact⟨h1,.inl h2⟩
 ·exact⟨h1,.inr ⟨g,cap,cur,h2,by omega,h4⟩⟩
def Bv(l:List Int):List Int:=l.foldl (λacc x=>if x∈acc then acc else acc++[x]) []
theorem aiz(xs:List gp):(uq xs).map (·.1)=Bv (xs.map (·.1)):=by
 have key:∀(l acc:List gp),(l.foldl (λacc x=>if x∈acc then acc else acc++[x]) acc).map (·.1)=(l.map (·.1)).foldl (λacc x=>if x∈acc then acc else acc++[x]) (acc.map (·.1)):=by
  intro l;induction l with
  |nil=>intro acc;rfl
  |cons y l ih=>
   intro acc;rw[att,ih,atJ,att]
   congr 1
   have hm:y∈acc↔y.1∈acc.map (·.1):=by
    rw[ath];exact⟨λh=>⟨y,h,rfl⟩,λ⟨a,h1,h2⟩=>by rw[awI h2.symm];exact h1⟩
   by_cases h:y∈acc
   ·rw[if_pos h,if_pos (hm.1 h)]
   ·rw[if_neg h,if_neg (λh'=>h (hm.2 h'))];simp
 exact key xs []
def varsOf(ts:List Tm):List Int:=Bv (ts.map gq).flatten
theorem UB{w w2:World}{ts:List Tm}{a:Option Addr}{l c d:Nat}{jL:List (List gp)}(n Bn:Nat)(hB:Below w.heap.size w w2)(dP:SW w2.heap.size w2 (TW w2.heap.size w2 d) (.slice a l c) jL)(hv:jL.map (λxs=>xs.map (·.1))=ts.map gq)(hb:Bn<w2.heap.size)
 (hc:w2.cell? ⟨Bn,0,ah⟩=aa (.slice a l c)):
 CallsIn ato n asK 104 #[.func (.func 160) #[] #[.pointer (aa ⟨Bn,0,ah⟩)]] w2 λe W'=>∃v,e=.returned v/\W'.ownsRow w.heap.size 3 1 v (varsOf ts).length ((varsOf ts).map λx=>atP .i64 x)/\Below w.heap.size w W':=by
 have ij:(uq jL.flatten).map (·.1)=varsOf ts:=by
  rw[aiz,axu,varsOf,hv]
 refine callsIn_wide.2 (callsIn_wide.1 ((afK ato rfl 0 trivial trivial trivial trivial rfl d Bn _ jL w2 hb hc dP).mono ?_));rintro e W' ⟨v,rfl,h1,_,h3⟩;refine⟨v,rfl,?_,hB.trans (h3.mono hB.size)⟩;rw[<-ij,List.map_map,auk];exact Rt hB.size h1
theorem Nr{M:Ev.Fz}{w w2:World}(hM:Ev.uR M w){ts:List Tm}(tc:Sm ts)(hn:∀t∈ts,oM t)(hf:∀t∈ts,dE t){a:Option Addr}{l c:Nat}(hr:Ev.Rv (Ev.eH M) (iT ts) (.slice a l c))(n Bn:Nat)(hB:Below w.heap.size w w2)(hb:Bn<w2.heap.size)
 (hc:w2.cell? ⟨Bn,0,ah⟩=aa (.slice a l c)):
 CallsIn ato n asK 104 #[.func (.func 160) #[] #[.pointer (aa ⟨Bn,0,ah⟩)]] w2 λe W'=>∃v,e=.returned v/\W'.ownsRow w.heap.size 3 1 v (varsOf ts).length ((varsOf ts).map λx=>atP .i64 x)/\Below w.heap.size w W':=by
 obtain⟨d,hd⟩:∃d,∀t∈ts,avy t<=d:=⟨avy ts,λt ht=>Nat.le_of_lt (aug ht)⟩;obtain⟨jL,hs,hv⟩:=XI.ael (R:=TW w.heap.size w d) hM tc hr λt ht v hv=>XI hM d t v (hd t ht) (hn t ht) (hf t ht) hv;exact UB n Bn hB ((hs.below hB λ_ _=>TW.below hB).wide hB.size λ_ _=>TW.wide hB.size) hv hb hc
theorem AD(W:World)(v:Value)(t:TypeId):(W.alloc (.cells #[v] t)).cell? ⟨W.heap.size,0,ah⟩=aa v:=(axl W t v).cell
set_option maxRecDepth 100000 in
set_option maxHeartbeats 2000000 in
theorem aqT(new:Bool)(s:List UInt8){ts:List Tm}(tc:Sm ts)(hn:∀t∈ts,oM t)(hf:∀t∈ts,dE t):Ev.fm asK af new 46 [.agg [Ev.iS s,iT ts]] (Ev.iL (varsOf ts)):=by
 intro M w us hM l7;obtain⟨v,pQ,rfl,h1,h2⟩:=l7.ti;obtain rfl:=h2.of_nil;obtain⟨x,y,rfl,g1,g2⟩:=afM h1;obtain rfl:=fj g1;obtain⟨a,l,c,rfl⟩:=Im g2;have Bm:Below w.heap.size w ((w.alloc (.cells #[.string ⟨s.toArray⟩,.slice a l c] 50)).alloc (.cells #[.slice a l c] 48)):=((auy _ w).alloc (asR _) _).alloc (by simp) _;have Ns:=Nr hM tc hn hf g2 0 (w.heap.size+1) Bm (by simp) (by have:=AD (w.alloc (.cells #[.string ⟨s.toArray⟩,.slice a l c] 50)) (.slice a l c) 48;simpa using this);clear g1 g2 h1 h2 l7;refine callsIn_of_wp Tryz.func46 rfl trivial ?_ rfl;simp only[Tryz.ntmps46,at7,atG,auc,auz,auA,atT,atU,aua,atX,atO,at4]
 gi_wp2_with (first
  |(refine⟨trivial,rfl,?_⟩;refine(LF ato _ trivial rfl a l c _).mono ?_;rintro e w' ⟨rfl,rfl⟩)
  |(refine⟨trivial,rfl,?_⟩;refine Ns.mono ?_;clear Ns;rintro e W2 ⟨u,rfl,kA,hB⟩))
 go_ret
 exact⟨rfl,Ip hM hB kA⟩
set_option maxRecDepth 100000 in
set_option maxHeartbeats 2000000 in
theorem aqU(new:Bool)(op:Int)(s:List UInt8){ts:List Tm}(tc:Sm ts)(hn:∀t∈ts,oM t)(hf:∀t∈ts,dE t):Ev.fm asK af new 87 [.agg [Ev.iI op,Ev.iS s,iT ts]] (Ev.iL (varsOf ts)):=by
 intro M w us hM l7;obtain⟨v,pQ,rfl,h1,h2⟩:=l7.ti;obtain rfl:=h2.of_nil;obtain⟨x,z,y,rfl,g1,g3,g2⟩:=afN h1;obtain rfl:=fj g1;obtain rfl:=fj g3;obtain⟨a,l,c,rfl⟩:=Im g2;have Bm:Below w.heap.size w ((w.alloc (.cells #[.int .i64 op,.string ⟨s.toArray⟩,.slice a l c] 88)).alloc (.cells #[.slice a l c] 48)):=((auy _ w).alloc (asR _) _).alloc (by simp) _;have Ns:=Nr hM tc hn hf g2 0 (w.heap.size+1) Bm (by simp) (by have:=AD (w.alloc (.cells #[.int .i64 op,.string ⟨s.toArray⟩,.slice a l c] 88)) (.slice a l c) 48;simpa using this);clear g1 g2 h1 h2 l7;refine callsIn_of_wp Tryz.func87 rfl trivial ?_ rfl;simp only[Tryz.ntmps87,at7,atG,auc,auz,auA,atT,atU,aua,atX,atO,at4]
 gi_wp2_with (first
  |(refine⟨trivial,rfl,?_⟩;refine(LF ato _ trivial rfl a l c _).mono ?_;rintro e w' ⟨rfl,rfl⟩)
  |(refine⟨trivial,rfl,?_⟩;refine Ns.mono ?_;clear Ns;rintro e W2 ⟨u,rfl,kA,hB⟩))
 go_ret
 exact⟨rfl,Ip hM hB kA⟩
set_option maxRecDepth 100000 in
set_option maxHeartbeats 2000000 in
theorem aqV(new:Bool)(t:Tm)(hn:oM t)(hf:dE t):Ev.fm asK af new 88 [c7 t] (Ev.iL (varsOf [t])):=by
 intro M w us hM l7;obtain⟨v,pQ,rfl,h1,h2⟩:=l7.ti;obtain rfl:=h2.of_nil;obtain⟨xs,htw,jf⟩:=XI hM (avy t) t v (asR _) hn hf h1;obtain⟨k,n,s,a,l,c,rfl⟩:=htw.form;have Eg:Below w.heap.size w (w.alloc (.cells #[.int .i64 k,.int .i64 n,.string s,.slice a l c] 84)):=(auy _ w).alloc (asR _) _;have Bm:Below w.heap.size w ((w.alloc (.cells #[.int .i64 k,.int .i64 n,.string s,.slice a l c] 84)).alloc (.cells #[.int .i64 k,.int .i64 n,.string s,.slice a l c] 84)):=Eg.alloc (by simp) _;have JJ:Below w.heap.size w (((w.alloc (.cells #[.int .i64 k,.int .i64 n,.string s,.slice a l c] 84)).alloc (.cells #[.int .i64 k,.int .i64 n,.string s,.slice a l c] 84)).alloc (.cells #[.slice (aa ⟨w.heap.size+1,0,ah⟩) 1 1] 48)):=Bm.alloc (by simp;omega) _;have fg:=World.alloc_heap_new (w.alloc (.cells #[.int .i64 k,.int .i64 n,.string s,.slice a l c] 84)) (.cells #[.int .i64 k,.int .i64 n,.string s,.slice a l c] 84);rw[axm]at fg;have aem:(((w.alloc (.cells #[.int .i64 k,.int .i64 n,.string s,.slice a l c] 84)).alloc (.cells #[.int .i64 k,.int .i64 n,.string s,.slice a l c] 84)).alloc (.cells #[.slice (aa ⟨w.heap.size+1,0,ah⟩) 1 1] 48)).heap[w.heap.size+1]?=aa (.cells #[.int .i64 k,.int .i64 n,.string s,.slice a l c] 84):=(Below.heap_alloc _ _ _ (by simp)).trans fg
 have Ns:=UB (ts:=[t]) (jL:=[xs]) (d:=avy t) (a:=aa ⟨w.heap.size+1,0,ah⟩) (l:=1) (c:=1) 0 (w.heap.size+1+1) JJ
  ⟨by simp,.inr ⟨w.heap.size+1,0,1,rfl,by simp,λi ys hi=>by
   cases i with
   |succ i=>simp at hi
   |zero=>
    simp at hi;subst hi;refine⟨.int .i64 k,.int .i64 n,.string s,.slice a l c,?_,?_,?_,?_,(TW.below JJ htw).wide JJ.size⟩
    all_goals (simp only[ax6];rw[aem];rfl)⟩⟩ (by simp only[atJ,List.map_nil,jf]) (by simp) (by have:=AD ((w.alloc (.cells #[.int .i64 k,.int .i64 n,.string s,.slice a l c] 84)).alloc (.cells #[.int .i64 k,.int .i64 n,.string s,.slice a l c] 84)) (.slice (aa ⟨w.heap.size+1,0,ah⟩) 1 1) 48;simpa using this)
 clear fg aem h1 h2 l7 htw;refine callsIn_of_wp Tryz.func88 rfl trivial ?_ rfl;simp only[Tryz.ntmps88,at7,atG,auc,auz,auA,atT,atU,aua,atX,atO,at4]
 gi_wp2_with (first
  |(refine⟨trivial,rfl,?_⟩;refine(LF ato _ trivial rfl _ 1 1 _).mono ?_;rintro e w' ⟨rfl,rfl⟩)
  |(refine⟨trivial,rfl,?_⟩;refine Ns.mono ?_;clear Ns;rintro e W2 ⟨u,rfl,kA,hB⟩))
 go_ret
 exact⟨rfl,Ip hM hB kA⟩
end Go.Proofs.YtggffkaadeagbaaGreat
