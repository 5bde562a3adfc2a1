/- A part of the proof, no condition: the variables of terms and goals. -/
import Derived.RangeFuncNested
import Derived.RangeFuncBound
import Derived.RangeFuncCalls
import Derived.RangeFuncLeaves
import Derived.RangeFuncBox
import Derived.Shelf.Abstract
import Derived.Shelf.RegionOpen
import Derived.WalkKit
import Derived.OwnWalkIn
import Derived.TacticsInMore
import Derived.LoopNIn
import Derived.LoopIn
import Derived.Maps.OwnIn
import Derived.Maps.AppendAt
import Derived.Test.YtpfogalbnijcoaaGreatProg
import Derived.Maps.Views
import Derived.Maps.OwnSet
import Derived.Test.YtpfogalbnijcoaaGreatRgA
import Derived.Test.YtpfogalbnijcoaaGreatEvH
open Go.Oper renaming semAt_some->au3
open Go.Proofs.Tryz renaming prog->ar1,func190->av4,ntmps190->axf,underlying3->auB,underlying198->avh,underlying4->au1,zeroValue4->avQ
open List renaming size_toArray->atn,length_cons->asV,length_nil->atq,push_toArray->ato,append_toArray->atd,nil_append->as8,cons_append->atl,append_nil->asm,getElem?_eq_getElem->ar2,take_succ_eq_append_getElem->ase,flatten_append->ath,flatten_cons->auz,flatten_nil->awK,length_append->ass,take_append_drop->atI,append_assoc->ast,take_of_length_le->asf,foldl_append->awA,foldl_cons->asG,foldl_nil->aw7,mem_map->asv,eq_nil_of_length_eq_zero->asF,sizeOf_lt_of_mem->atw,map_flatten->awL,getElem?_eq_some_iff->ar3,length_map->aty,map_cons->asZ
open Nat renaming reduceAdd->atL,reduceSub->atM,le_trans->asq,le_refl->ar8,add_assoc->av1,mul_one->axK
open Array renaming replicate_succ->as_,replicate_zero->ata
open Go.Value renaming slice->awc,int->as6
open Go.World renaming grownBy_alloc->auF,size_alloc->awC,cell?->axn
open Go.RowKit.Below renaming refl->atK
open Go.Value.agg renaming injEq->awk
open Array.mk renaming injEq->aws
open List.cons renaming injEq->as4
open Go.IntKind renaming i64->asC
open List.Pairwise renaming map->axz
open Subtype renaming ext->av0
open Go.Maps renaming IsMap->awt,int_keyed->avP
open Go.Boxed renaming new->awB
open Go.OwnFrom renaming and->aw8
open Go.KeepsFrom renaming refl->axV,of_grownBy->axW
open Classical renaming choose_spec->aum,choose->axX
open SizeOf renaming sizeOf->auR
open Option.some renaming injEq->ar6
open Go.Fence renaming wide->asB
open Option renaming some->aa,none->ah
open Bool renaming true->ab,false->af
set_option linter.all false
namespace Go.Proofs.YtpfogalbnijcoaaGreat
open Go Go.RowKit Go.Shelf
attribute [local go_sem] au3
set_option maxRecDepth 100000 in
set_option maxHeartbeats 1000000 in
theorem T_(F:Fence)(n:Nat)(h:F.fn 236)(cB:F.round=ah)(k m:Int)(s:ByteArray)(sl r:Value)(hr:r=if k=2 then sl else .slice ah 0 0)(w:World):
 CallsIn F n ar1 236 #[.agg #[.int .i64 k,.int .i64 m,.string s,sl]] w λe w'=>e=.returned r/\w'=w.alloc (.cells #[.int .i64 k,.int .i64 m,.string s,sl] 51):=by
 refine callsIn_of_wp Tryz.func236 rfl h ?_ cB;simp only[Tryz.ntmps236,atn,asV,atq,atL,atM,as_,ata,ato,atd,as8,atl];subst hr
 gi_wp2
 all_goals first|(go_ret;exact⟨rfl,rfl⟩)|(exfalso;simp_all)
theorem wrap_small(i:Nat)(h:i+1<=9223372036854775807):wrap64 ((i:Int)+1)=((i+1:Nat):Int):=by unfold wrap64;omega
theorem F9(n i:Nat)(h:i<n):n-(intOf (.int .i64 ((i+1:Nat):Int))).toNat<n-(intOf (.int .i64 (i:Int))).toNat:=by simp only[intOf];omega
abbrev gb:={x:Int//0<=x/\x<=1048576}
def SW(n₀:Nat)(W:World)(R:Value->List gb->Prop)(sl:Value)(jv:List (List gb)):Prop:=
 jv.length<=9223372036854775807/\((jv=[]/\∃a cap,sl=.slice a 0 cap)\/
 ∃b off cap,sl=.slice (aa ⟨b,off,ah⟩) jv.length cap/\b<n₀/\∀(i:Nat) (xs:List gb),jv[i]?=aa xs->∃u0 u1 u2 u3,W.cell? ⟨b,off+i*4,ah⟩=aa u0/\W.cell? ⟨b,off+i*4+1,ah⟩=aa u1/\
  W.cell? ⟨b,off+i*4+2,ah⟩=aa u2/\W.cell? ⟨b,off+i*4+3,ah⟩=aa u3/\R (.agg #[u0,u1,u2,u3]) xs)
def TW(n₀:Nat)(W:World):Nat->Value->List gb->Prop
 |0,_,_=>False
 |d+1,v,xs=>∃k n s a l c,v=.agg #[.int .i64 k,.int .i64 n,.string s,.slice a l c]/\((k=1/\∃h,xs=[⟨n,h⟩])\/(k≠1/\k≠2/\xs=[])\/(k=2/\∃jv,SW n₀ W (TW n₀ W d) (.slice a l c) jv/\xs=jv.flatten))
theorem TW.form{n₀:Nat}{W:World}:∀{d:Nat} {v:Value} {xs:List gb},TW n₀ W d v xs->∃k n s a l c,v=.agg #[.int .i64 k,.int .i64 n,.string s,.slice a l c]
 |0,_,_,ht=>ht.elim
 |d+1,_,_,⟨k,n,s,a,l,c,h1,_⟩=>⟨k,n,s,a,l,c,h1⟩
theorem SW.below{n₀:Nat}{A B:World}(h:Below n₀ A B){R R':Value->List gb->Prop}(hR:∀v xs,R v xs->R' v xs){sl:Value}{jv:List (List gb)}(hs:SW n₀ A R sl jv):SW n₀ B R' sl jv:=by
 rcases hs with⟨hl,hs|⟨b,off,cap,h1,h2,h3⟩⟩
 ·exact⟨hl,.inl hs⟩
 ·refine⟨hl,.inr ⟨b,off,cap,h1,h2,λi xs hi=>?_⟩⟩;obtain⟨u0,u1,u2,u3,g0,g1,g2,g3,g4⟩:=h3 i xs hi;exact⟨u0,u1,u2,u3,(h.cell h2).trans g0,(h.cell h2).trans g1,(h.cell h2).trans g2,(h.cell h2).trans g3,hR _ _ g4⟩
theorem TW.below{n₀:Nat}{A B:World}(h:Below n₀ A B):∀{d:Nat} {v:Value} {xs:List gb},TW n₀ A d v xs->TW n₀ B d v xs
 |0,_,_,ht=>ht
 |d+1,_,_,⟨k,n,s,a,l,c,h1,h2⟩=>⟨k,n,s,a,l,c,h1,h2.imp id λh2=>h2.imp id λ⟨hk,jv,h3,h4⟩=>⟨hk,jv,h3.below h λ_ _=>TW.below h,h4⟩⟩
theorem Nq{F:Fence}(hd:F.depth=ah)(k:Nat):F.room k:=λd h=>by rw[hd]at h;cases h
theorem RoundIn.EP{F:Fence}(hd:F.depth=ah){m m':Nat}{P:Program}{l:Nat}{f:FuncId}{tmps:Array Value}{assign body:Code}{w:World}{R:Ending->World->Prop}
 (h:RoundIn F m P l f tmps assign body w R):RoundIn F m' P l f tmps assign body w R:=⟨h.1,λc cs _=>h.2 c cs (Nq hd _)⟩
theorem YieldAt.EP{F:Fence}(hd:F.depth=ah){m:Nat}(m':Nat){P:Program}{l:Nat}{args:Array Value}{W:World}{R:Ending->World->Prop}(h:YieldAt F m P l args W R):YieldAt F m' P l args W R:=by
 obtain⟨fn,tmps,assign,body,hy,hR⟩:=h;exact⟨fn,tmps,assign,body,hy,RoundIn.EP hd hR⟩
set_option maxRecDepth 100000 in
set_option maxHeartbeats 2000000 in
theorem ae0(F:Fence)(hd:F.depth=ah)(HO:F.fn 191)(ER:F.fn 236)(cB:F.round=ah)(l n₀ N:Nat)(J Jx:List gb->World->Prop)
 (Mn:∀pre W W',J pre W->W.grownBy W' ah->J pre W')
 (hY:∀m pre (x:gb) W,J pre W->pre.length<N->YieldAt F m ar1 l #[.int .i64 x.1] W λe W'=>
  (e=.returned (.bool ab)/\J (pre++[x]) W'/\Below n₀ W W')\/(e=.returned (.bool af)/\Jx (pre++[x]) W')):
 ∀(d n:Nat) (v:Value) (xs pre:List gb) (W:World),TW n₀ W d v xs->n₀<=W.heap.size->J pre W->pre.length+xs.length<=N->
  CallsIn F n ar1 191 #[v,.func (.yield l) #[] #[]] W λe W'=>
   (e=.returned (.bool ab)/\J (pre++xs) W'/\Below n₀ W W')\/(e=.returned (.bool af)/\∃q,q<+:xs/\Jx (pre++q) W'):=by
 have xZ:∀k:Nat,(F.depth.isSome=ab->1<=k):=λk h=>by rw[hd]at h;cases h
 intro d;induction d with
 |zero=>intro n v xs pre W ht;exact ht.elim
 |succ d ih=>
  intro n v xs pre W ht hn hJ hN;obtain⟨k,m,s,a0,l0,c0,rfl,Ua⟩:=ht;obtain⟨sl,oH⟩:∃sl,sl=awc a0 l0 c0:=⟨_,rfl⟩;rw[<-oH]at Ua⊢;clear oH a0 l0 c0;refine callsIn_of_wp Tryz.func191 rfl HO ?_ cB;simp only[Tryz.ntmps191,atn,asV,atq,atL,atM,as_,ata,ato,atd,as8,atl];have bD:=Mn pre W (W.alloc (.cells #[.int .i64 k,.int .i64 m,.string s,sl] 51)) hJ (auF W _ ah);rcases Ua with⟨hk,Di,rfl⟩|Ua
  ·subst hk;simp only[List.length_singleton]at hN⊢;obtain⟨fn,tmps,assign,body,hy,hR⟩:=hY (n- 1) pre ⟨m,Di⟩ _ bD (by omega)
   gi_wp2_with ((try refine⟨xZ _,?_⟩);refine hR.mono ?_;clear hR;rintro e W2 (⟨rfl,eU,fg⟩|⟨rfl,wA⟩))
   ·go_ret
    exact .inl ⟨rfl,eU,((atK n₀ W).alloc hn _).trans fg⟩
   ·go_ret
    exact .inr ⟨rfl,_,⟨[],asm _⟩,wA⟩
  ·have hk:k≠1:=by
    rcases Ua with⟨h,_⟩|⟨h,_⟩
    ·exact h
    ·omega
   obtain⟨r,hr⟩:∃r,r=if k=2 then sl else awc ah 0 0:=⟨_,rfl⟩
   obtain⟨us,GB,iR⟩:∃us:List (List gb),SW n₀ W (TW n₀ W d) r us/\us.flatten=xs:=by
    rcases Ua with⟨_,h2,rfl⟩|⟨h2,jv,hs,rfl⟩
    ·exact⟨[],by rw[hr,if_neg h2];exact⟨by simp,.inl ⟨rfl,ah,0,rfl⟩⟩,rfl⟩
    ·exact⟨jv,by rw[hr,if_pos h2];exact hs,rfl⟩
   rw[<-iR]at hN⊢;have hH:Hid (r=if k=2 then sl else awc ah 0 0):=hr;clear iR hr Ua;rcases GB with⟨S3,⟨rfl,a,cap,rfl⟩|⟨b,off,cap,rfl,DO,oc⟩⟩
   ·gi_wp2_with (first
     |((try refine⟨xZ _,?_⟩);gi_at_call 236;refine(T_ F _ ER cB k m s sl _ hH.out _).mono ?_;rintro e w' ⟨rfl,rfl⟩))
    gi_loopw [17] (λp wr=>p=.int .i64 0/\J pre wr/\Below n₀ W wr) (λ_ _=>0)
    case atStart=>exact⟨rfl,Mn _ _ _ bD (auF _ _ ah),((atK n₀ W).alloc hn _).alloc (by simp;omega) _⟩
    case round=>
     obtain⟨rfl,z8,sN⟩:=hrel
     gi_wp2
     go_ret
     exact .inl ⟨rfl,by simpa using z8,sN⟩
   ·gi_wp2_with (first
     |((try refine⟨xZ _,?_⟩);gi_at_call 236;refine(T_ F _ ER cB k m s sl _ hH.out _).mono ?_;rintro e w' ⟨rfl,rfl⟩))
    gi_loopw [17] (λp wr=>∃i:Nat,p=.int .i64 i/\i<=us.length/\J (pre++(us.take i).flatten) wr/\Below n₀ W wr) (λp _=>us.length-(intOf p).toNat)
    case atStart=>exact⟨0,rfl,by omega,by simpa using Mn _ _ _ bD (auF _ _ ah),((atK n₀ W).alloc hn _).alloc (by simp;omega) _⟩
    case round=>
     obtain⟨i,rfl,hi,z8,sN⟩:=hrel;by_cases ai:i<us.length
     ·have fX:(i:Int)<(us.length:Int):=by omega
      obtain⟨u0,u1,u2,u3,g0,g1,g2,g3,g4⟩:=oc i us[i] (ar2 ai);have c0:wr.cell? ⟨b,off+i*4,ah⟩=aa u0:=(sN.cell DO).trans g0;have c1:wr.cell? ⟨b,off+i*4+1,ah⟩=aa u1:=(sN.cell DO).trans g1;have c2:wr.cell? ⟨b,off+i*4+2,ah⟩=aa u2:=(sN.cell DO).trans g2;have c3:wr.cell? ⟨b,off+i*4+3,ah⟩=aa u3:=(sN.cell DO).trans g3;obtain⟨k',n',s',a',l',c',he⟩:=g4.form;simp only[awk,aws,as4,and_true]at he;obtain⟨rfl,rfl,rfl,rfl⟩:=he;have aT:n₀<=wr.heap.size:=asq hn sN.size;have JE:(us.take (i+1)).flatten=(us.take i).flatten++us[i]:=by rw[ase ai,ath];simp only[auz,awK,asm]
      have hle:(us.take i).flatten.length+us[i].length<=us.flatten.length:=by
       rw[<-ass,<-JE]
       conv=>rhs;rw[<-atI (i+1) us,ath,ass]
       omega
      have ZX:=ih (n- 1) _ us[i] (pre++(us.take i).flatten) (wr.alloc (.cells #[.int .i64 k',.int .i64 n',.string s',.slice a' l' c'] 51)) (g4.below (sN.alloc aT _)) (by simp;omega) (Mn _ _ _ z8 (auF _ _ ah)) (by rw[ass];omega);clear g4 oc;have ll:wrap64 ((i:Int)+1)=((i+1:Nat):Int):=wrap_small i (by omega)
      gi_wp2_with ((try refine⟨xZ _,?_⟩);refine ZX.mono ?_;clear ZX;rintro e W3 (⟨rfl,ux,d_⟩|⟨rfl,q,hq,hx3⟩))
      ·go_roundw
       case rel=>exact⟨i+1,by first|rfl|rw[ll],ai,by rw[JE,<-ast];exact ux,(sN.alloc aT _).trans d_⟩
       case measure=>first|exact F9 _ _ ai|(rw[ll];exact F9 _ _ ai)
      ·go_ret
       obtain⟨t,ht⟩:=hq;refine .inr ⟨rfl,(us.take i).flatten++q,⟨t++(us.drop (i+1)).flatten,?_⟩,by rw[<-ast];exact hx3⟩
       conv=>rhs;rw[<-atI (i+1) us,ath,JE,<-ht]
       simp[ast]
     ·have fX:¬(i:Int)<(us.length:Int):=by omega
      gi_wp2
      go_ret
      have:us.take i=us:=asf (by omega);exact .inl ⟨rfl,by rw[this]at z8;exact z8,sN⟩
set_option maxRecDepth 100000 in
set_option maxHeartbeats 2000000 in
theorem ab9(F:Fence)(hd:F.depth=ah)(HP:F.fn 190)(HO:F.fn 191)(ER:F.fn 236)(cB:F.round=ah)(n d l Bn n₀:Nat)(sl:Value)(us:List (List gb))(J Jx:List gb->World->Prop)
 (Mn:∀pre W W',J pre W->W.grownBy W' ah->J pre W')
 (hY:∀pre (x:gb) W,J pre W->pre.length<us.flatten.length->YieldAt F (n- 1) ar1 l #[.int .i64 x.1] W λe W'=>
  (e=.returned (.bool ab)/\J (pre++[x]) W'/\Below n₀ W W')\/(e=.returned (.bool af)/\Jx (pre++[x]) W'))
 (W:World)(hb:Bn<n₀)(hn:n₀<=W.heap.size)(hBn:W.cell? ⟨Bn,0,ah⟩=aa sl)(hL:SW n₀ W (TW n₀ W d) sl us)(h0:J [] W):
 CallsIn F n ar1 190 #[.func (.yield l) #[] #[],.pointer (aa ⟨Bn,0,ah⟩)] W λe W'=>(∃v,e=.returned v)/\
  ((∃ys,ys=us.flatten/\J ys W')\/(∃pre,pre<+:us.flatten/\Jx pre W')):=by
 have xZ:∀k:Nat,(F.depth.isSome=ab->1<=k):=λk h=>by rw[hd]at h;cases h
 have hw:=ae0 F hd HO ER cB l n₀ us.flatten.length J Jx Mn (λm pre x W hj hl=>YieldAt.EP hd m (hY pre x W hj hl)) d (n- 1);obtain⟨S3,⟨rfl,a,cap,rfl⟩|⟨b,off,cap,rfl,DO,oc⟩⟩:=hL
 ·refine callsIn_of_wp av4 rfl HP ?_ cB;simp only[axf,atn,asV,atq,atL,atM,as_,ata,ato,atd,as8,atl]
  gi_wp2
  gi_loopw [6] (λp wr=>p=.int .i64 0/\J [] wr/\Below n₀ W wr) (λ_ _=>0)
  case atStart=>exact⟨rfl,h0,atK n₀ W⟩
  case round=>
   obtain⟨rfl,z8,sN⟩:=hrel
   gi_wp2
   go_end0
   exact⟨⟨_,rfl⟩,.inl ⟨_,rfl,z8⟩⟩
 ·refine callsIn_of_wp av4 rfl HP ?_ cB;simp only[axf,atn,asV,atq,atL,atM,as_,ata,ato,atd,as8,atl]
  gi_wp2
  gi_loopw [6] (λp wr=>∃i:Nat,p=.int .i64 i/\i<=us.length/\J (us.take i).flatten wr/\Below n₀ W wr) (λp _=>us.length-(intOf p).toNat)
  case atStart=>exact⟨0,rfl,by omega,by simpa using h0,atK n₀ W⟩
  case round=>
   obtain⟨i,rfl,hi,z8,sN⟩:=hrel;have hBc:wr.cell? ⟨Bn,0,ah⟩=aa (.slice (aa ⟨b,off,ah⟩) us.length cap):=(sN.cell hb).trans hBn;by_cases ai:i<us.length
   ·have fX:(i:Int)<(us.length:Int):=by omega
    obtain⟨u0,u1,u2,u3,g0,g1,g2,g3,g4⟩:=oc i us[i] (ar2 ai);have c0:wr.cell? ⟨b,off+i*4,ah⟩=aa u0:=(sN.cell DO).trans g0;have c1:wr.cell? ⟨b,off+i*4+1,ah⟩=aa u1:=(sN.cell DO).trans g1;have c2:wr.cell? ⟨b,off+i*4+2,ah⟩=aa u2:=(sN.cell DO).trans g2;have c3:wr.cell? ⟨b,off+i*4+3,ah⟩=aa u3:=(sN.cell DO).trans g3;have JE:(us.take (i+1)).flatten=(us.take i).flatten++us[i]:=by rw[ase ai,ath];simp only[auz,awK,asm]
    have hle:(us.take i).flatten.length+us[i].length<=us.flatten.length:=by
     rw[<-ass,<-JE]
     conv=>rhs;rw[<-atI (i+1) us,ath,ass]
     omega
    have ZX:=hw _ us[i] (us.take i).flatten wr (g4.below sN) (asq hn sN.size) z8 hle;obtain⟨k',n',s',a',l',c',he⟩:=g4.form;simp only[awk,aws,as4,and_true]at he;obtain⟨rfl,rfl,rfl,rfl⟩:=he;clear g4 oc hw;have ll:wrap64 ((i:Int)+1)=((i+1:Nat):Int):=wrap_small i (by omega)
    gi_wp2_with ((try refine⟨xZ _,?_⟩);refine ZX.mono ?_;clear ZX;rintro e W3 (⟨rfl,ux,d_⟩|⟨rfl,q,hq,hx3⟩))
    ·go_roundw
     case rel=>exact⟨i+1,by first|rfl|rw[ll],ai,by rw[JE];exact ux,sN.trans d_⟩
     case measure=>first|exact F9 _ _ ai|(rw[ll];exact F9 _ _ ai)
    ·refine bodyPost_ret (results_none rfl _ _ _) rfl ?_;obtain⟨t,ht⟩:=hq;refine⟨⟨_,rfl⟩,.inr ⟨(us.take i).flatten++q,⟨t++(us.drop (i+1)).flatten,?_⟩,hx3⟩⟩
     conv=>rhs;rw[<-atI (i+1) us,ath,JE,<-ht]
     simp[ast]
   ·have fX:¬(i:Int)<(us.length:Int):=by omega
    gi_wp2
    go_end0
    have:us.take i=us:=asf (by omega);rw[this]at z8
    first|exact z8|exact⟨⟨_,rfl⟩,.inl z8⟩|exact .inl z8|exact⟨⟨_,rfl⟩,.inl ⟨_,rfl,z8⟩⟩
theorem WY(F:Fence)(hd:F.depth=ah)(HP:F.fn 190)(HO:F.fn 191)(ER:F.fn 236)(cB:F.round=ah)(n d Bn n₀:Nat)(sl:Value)(us:List (List gb))(w:World)(hb:Bn<n₀)(hn:n₀<=w.heap.size)
 (hc:w.cell? ⟨Bn,0,ah⟩=aa sl)(hL:SW n₀ w (TW n₀ w d) sl us):
 SeqStopsK F n ar1 190 #[.pointer (aa ⟨Bn,0,ah⟩)] (λx:gb=> #[as6 .i64 x.1]) (Below n₀) (λys=>ys=us.flatten) (λpre=>pre<+:us.flatten) us.flatten.length w:=λl J Jx W hW hJ _ hY h0=>
 ab9 F hd HP HO ER cB n d l Bn n₀ sl us J Jx (λpre A B hj hg=>hJ pre A B ah hj hg (λr e=>by cases e)) hY W hb (asq hn hW.size) ((hW.cell (p:=⟨Bn,0,ah⟩) (by show Bn<_;omega)).trans hc) (hL.below (hW.mono hn) λ_ _=>TW.below (hW.mono hn)) h0
set_option maxHeartbeats 1000000 in
theorem K3(F:Fence)(n:Nat)(h:F.fn 113)(cB:F.round=ah)(a:Option Addr)(ln cp:Nat)(w:World):
 CallsIn F n ar1 113 #[.slice a ln cp] w λe w'=>e=.returned (.func (.func 190) #[] #[.pointer (aa ⟨w.heap.size,0,ah⟩)])/\w'=w.alloc (.cells #[.slice a ln cp] 49):=by
 refine callsIn_of_wp Tryz.func113 rfl h ?_ cB;simp only[Tryz.ntmps113,atn,asV,atq,atL,atM,as_,ata,ato,atd,as8,atl]
 gi_wp2
 go_ret
 exact⟨rfl,rfl⟩
end Go.Proofs.YtpfogalbnijcoaaGreat
namespace Go.Proofs.YtpfogalbnijcoaaGreat
open Go Go.RowKit Go.Shelf
attribute [local go_sem] au3
def uq(l:List gb):List gb:=l.foldl (λacc x=>if x∈acc then acc else acc++[x]) []
theorem QU(pre:List gb){x:gb}(h:x∈uq pre):uq (pre++[x])=uq pre:=by
 unfold uq at h⊢;rw[awA];simp only[asG,aw7];rw[if_pos h]
theorem K4(pre:List gb){x:gb}(h:x∉uq pre):uq (pre++[x])=uq pre++[x]:=by
 unfold uq at h⊢;rw[awA];simp only[asG,aw7];rw[if_neg h]
theorem apL(x:gb):(Lit.int .i64 x.1).wf=ab:=by
 obtain⟨x,h1,h2⟩:=x;have e1:asC.min= -9223372036854775808:=by decide
 have e2:asC.max=9223372036854775807:=by decide
 simp[Lit.wf,e1,e2];omega
theorem K5:∀(N:Nat) (l:List Int),l.Nodup->(∀x∈l,0<=x/\x<N)->l.length<=N
 |0,[],_,_=>by simp
 |0,x::l,_,h=>by have:=h x (by simp);omega
 |N+1,l,hn,h=>by
  have ih:=K5 N (l.erase (N:Int)) (hn.erase _) λx hx=>by
   have h1:=h x (List.mem_of_mem_erase hx);have h2:x≠(N:Int):=λhe=>by rw[hn.mem_erase_iff]at hx;exact hx.1 he
   omega
  rw[List.length_erase]at ih;split at ih<;>omega
theorem ab_(pre:List gb):(uq pre).Nodup:=by
 have key:∀(l acc:List gb),acc.Nodup->(l.foldl (λacc x=>if x∈acc then acc else acc++[x]) acc).Nodup:=by
  intro l;induction l with
  |nil=>intro acc h;exact h
  |cons y l ih=>
   intro acc h;rw[asG];refine ih _ ?_;split
   ·exact h
   ·rename_i hy;rw[List.nodup_append];exact⟨h,by simp,λa ha b hb=>by simp at hb;subst hb;exactλhe=>hy (he▸ha)⟩
 exact key pre [] (by simp)
theorem aca(pre:List gb):(uq pre).length<=1048577:=by
 have hn:((uq pre).map (·.1)).Nodup:=axz (λx:gb=>x.1) (λa b h he=>h (av0 he)) (ab_ pre)
 have:=K5 1048577 ((uq pre).map (·.1)) hn λx hx=>by
  obtain⟨y,_,rfl⟩:=asv.1 hx;have:=y.2;omega
 simpa using this
def z_{H:Type}(xs:List gb):DataW H:=xs.foldl (λD x=>D.put (.int .i64 x.1) (.lit (.bool ab))) (.map [])
theorem JF{H:Type}(pre:List gb)(x:gb):z_ (H:=H) (pre++[x])=(z_ pre).put (.int .i64 x.1) (.lit (.bool ab)):=by simp[z_]
theorem SI{H:Type}(xs:List gb):awt (z_ (H:=H) xs):=by
 have key:∀(l:List gb) (D:DataW H),awt D->awt (l.foldl (λD x=>D.put (.int .i64 x.1) (.lit (.bool ab))) D):=by
  intro l;induction l with
  |nil=>intro D h;exact h
  |cons y l ih=>
   intro D h;rw[asG];obtain⟨es,rfl⟩:=h;exact ih _ ⟨_,rfl⟩
 exact key xs _ ⟨[],rfl⟩
theorem HQ{H:Type}(x:gb):∀(n:Nat) (xs:List gb),xs.length=n->(z_ (H:=H) xs).atKey (.int .i64 x.1) (.lit (.bool af))=.lit (.bool (decide (x∈xs)))
 |0,xs,h=>by
  rw[asF h];rfl
 |n+1,xs,h=>by
  rcases List.eq_nil_or_concat xs with rfl|⟨ys,y,rfl⟩
  ·simp at h
  ·rw[List.concat_eq_append]at h⊢;rw[JF];by_cases Tv:x=y
   ·subst Tv;rw[Maps.atKey_put_same (SI ys) (by simp[WideAt.IsKeyLit])];simp
   ·rw[Maps.atKey_put_other (λhe=>Tv (av0 (by simpa using he))),HQ x n ys (by simpa using h)];simp[Tv]
section
variable{H:Type}{F:Fence}{nF:Nat}{P:Program}(w:World){ops:Array Oper}{rest:List Oper}{o:Oper}{a:Act}{Q:Exit->Act->World->Prop}
theorem ES{e:TypeId}(he:P.underlying e=aa .bool){v:Value}{c:Bool}{ps:List MemPlace}(h:plainElem (H:=H) P e v=aa (.lit (.bool c),ps)):v=.bool c:=by
 unfold plainElem at h;rw[he]at h;cases v<;>simp at h;rw[h.1]
theorem pP(hg:o.guard=ah)(m x:Operand)(t:TypeId)(fq:o.op=Op.lookup t m x af)
 (k e:TypeId)(K:Maps.Keyed P k)(ht:P.underlying t=aa (.map k e))(he:P.underlying e=aa .bool)(hz:(zeroValue e).run P w=.ok (.bool af) w)(b n:Nat)(D:DataW H)
 (hm:a.eval m=.map (aa b))(lq:w.ownsMap P k (plainElem P e) b n D)(key:Value)(kl:Lit)(hx:a.eval x=key)(mE:keyOf P k key=aa kl)(c:Bool)(aE:D.atKey kl (.lit (.bool af))=.lit (.bool c))
 (hK:wpListIn F nF P ops Q rest (a.put o.dst (.bool c)) w):
 wpListIn F nF P ops Q (o::rest) a w:=by
 refine wpListIn_plain hg λK' hK'=>?_;obtain⟨v,ps,fJ,hv⟩:=lq.lookup K ht hz (plainElem_bool he af) mE;rw[aE]at hv;obtain rfl:=ES he hv;unfold Oper.wpIn;refine⟨by simp[Oper.about,fq],?_⟩;rw[Oper.semAt_plain F _ _ (by rw[fq];intro c xQ;cases xQ)];simp[execOp,fq,hm,hx,fJ,Result.andThen];exact hK' _ _ hK
end
theorem QV{H:Type}{P:Program}{k:TypeId}{R:Value->Option (DataW H×List MemPlace)}{W W':World}{b n:Nat}{D:DataW H}(h:W.ownsMap P k R b n D)(hb:W'.heap[b]?=W.heap[b]?):W'.ownsMap P k R b n D:=by
 obtain⟨es,clock,h1,h2⟩:=h;exact⟨es,clock,hb.trans h1,h2⟩
theorem al1:(ar1.info? 3).map (λi=>(i.zero,i.size,i.bytes))=aa (aa (.int .i64 0),1,8):=by kernel_rfl
set_option maxRecDepth 100000 in
set_option maxHeartbeats 4000000 in
theorem ae1(F:Fence)(hd:F.depth=ah)(n:Nat)(apM:F.fn 112)(HP:F.fn 190)(HO:F.fn 191)(ER:F.fn 236)(cB:F.round=ah)(d Bn:Nat)(sl:Value)(us:List (List gb))(w:World)(hb:Bn<w.heap.size)
 (hc:w.cell? ⟨Bn,0,ah⟩=aa sl)(hL:SW w.heap.size w (TW w.heap.size w d) sl us):
 CallsIn F (n+3) ar1 112 #[.func (.func 190) #[] #[.pointer (aa ⟨Bn,0,ah⟩)]] w λe W'=>∃v,e=.returned v/\W'.ownsRow w.heap.size 3 1 v (uq us.flatten).length ((uq us.flatten).map λx=>as6 .i64 x.1)/\(v=.slice ah 0 0↔uq us.flatten=[])/\Below w.heap.size w W':=by
 have h1:1<=n+3:=by omega
 obtain⟨i0,hi,mV,mP,IT⟩:=info_parts al1;have hmm:= @run_makeMap ar1;refine callsIn_of_wp_marks Tryz.func112 rfl apM ?_ cB;simp only[Tryz.ntmps112,atn,asV,atq,atL,atM,as_,ata,ato,atd,as8,atl]
 gi_wp2
 have bO0:=awB w 35 (.slice ah 0 0);have C1:=World.ownsMap_made (w.alloc (.cells #[.slice ah 0 0] 35)) ar1 3 (plainElem (H:=Unit) ar1 4);have bS0:=awB ((w.alloc (.cells #[.slice ah 0 0] 35)).alloc (.map #[] 0)) 198 (.map (aa (w.heap.size+1)));simp only[awC]at C1 bS0;have DW:Below w.heap.size w (((w.alloc (.cells #[.slice ah 0 0] 35)).alloc (.map #[] 0)).alloc (.cells #[.map (aa (w.heap.size+1))] 198)):=(((atK _ w).alloc (ar8 _) _).alloc (by simp) _).alloc (by simp;omega) _
 refine wpIn_rangeFunc_ownG cB h1 (gf:=190) (lb:= #[.pointer (aa ⟨Bn,0,ah⟩)]) rfl HP (enters_of av4 (by kernel_rfl) rfl)
  (WY F hd HP HO ER cB _ d Bn w.heap.size sl us _ hb (by simp;omega) ((DW.cell (p:=⟨Bn,0,ah⟩) hb).trans hc) (hL.below DW λ_ _=>TW.below DW)) belowK_t (belowK_b (by simp;omega)) (atK _ _) (λ_=>rfl)
  (λpre W=>((∃v,Boxed W w.heap.size 35 v/\W.ownsRow w.heap.size 3 1 v (uq pre).length ((uq pre).map λx=>as6 .i64 x.1)/\(v=.slice ah 0 0↔uq pre=[]))/\
   (Boxed W (w.heap.size+1+1) 198 (.map (aa (w.heap.size+1)))/\W.ownsMap ar1 3 (plainElem (H:=Unit) ar1 4) (w.heap.size+1) (uq pre).length (z_ (uq pre))))/\Below w.heap.size w W)
  (λ_ _ _=>False)
  (aw8 (aw8 (Own.from (holdsRow_own w.heap.size w.heap.size 35 3 1 (λpre=>(uq pre).length) (λpre=>(uq pre).map λx=>as6 .i64 x.1) (λpre v=>v=.slice ah 0 0↔uq pre=[])) _)
   (λs A B row hs hg hr=>⟨hs.1.kept hg (λe=>by have:=(hr _ e.symm).1;simp at this;omega),hs.2.kept hg (λe=>by have:=(hr _ e.symm).1;simp at this;omega)⟩)) (ownFrom_below (ar8 _) (by simp;omega)))
  (λ_ _ _ _ _ hs _ _=>hs)
  ⟨⟨⟨_,(bO0.alloc _).alloc _,World.ownsRow_nil _ _ _ _,by simp[uq]⟩,⟨bS0,C1.alloc _⟩⟩,DW⟩
  (λx=>{tmps:= #[.func (.func 190) #[] #[.pointer (aa ⟨Bn,0,ah⟩)],undef,.slice ah 0 0,.pointer (aa ⟨w.heap.size,0,ah⟩),.pointer (aa ⟨w.heap.size+1+1,0,ah⟩),.int .i64 x.1,.map (aa (w.heap.size+1)),.func (.func 190) #[] #[.pointer (aa ⟨Bn,0,ah⟩)],.int .i64 x.1,undef,undef,undef,undef,undef,undef,undef,undef,undef,undef,undef],defers:=[]}) ?assign ?body ?done ?stop
 case assign=>
  intro l x W K hK
  gi_wp2
  exact hK
 case body=>
  rintro l pre x W ⟨⟨⟨v,hv,kb,qG⟩,gk,lq⟩,hB⟩ ai;have bH:=gk.cell;have mE:=Maps.keyOf_int_mk auB (apL x);have nW:=aca pre;have aT:w.heap.size<=W.heap.size:=hB.size;by_cases hx:x∈uq pre
  ·have aE:(z_ (H:=Unit) (uq pre)).atKey (.int .i64 x.1) (.lit (.bool af))=.lit (.bool ab):=by rw[HQ x _ _ rfl];simp[hx]
   gi_wp2_with (gi_at_lookup;refine pP _ rfl _ _ 198 rfl 3 4 (avP auB) avh au1 (avQ _) (w.heap.size+1) (uq pre).length _ rfl lq _ _ rfl mE ab aE ?_)
   exact⟨axV _ _,atK _ _,⟨⟨v,hv,by rw[QU pre hx];exact kb,by rw[QU pre hx];exact qG⟩,gk,by rw[QU pre hx];exact lq⟩,hB⟩
  ·have aE:(z_ (H:=Unit) (uq pre)).atKey (.int .i64 x.1) (.lit (.bool af))=.lit (.bool af):=by rw[HQ x _ _ rfl];simp[hx]
   have Dz:2000000<=maxLen:=by decide
   have Ls:(uq pre).length<maxLen:=by omega
   have apN:(uq pre).length+1<=maxLen:=by omega
   have hub:((uq pre).length+1)*8<=140737488355328:=by omega
   gi_wp2_with (first
    |(gi_at_lookup;refine pP _ rfl _ _ 198 rfl 3 4 (avP auB) avh au1 (avQ _) (w.heap.size+1) (uq pre).length _ rfl lq _ _ rfl mE af aE ?_)
    |(gi_at_mapUpdate;refine wpListIn_mapUpdate_own _ rfl _ _ _ 198 rfl 3 4 (avP auB) avh _ (w.heap.size+1) (uq pre).length _ rfl lq Ls _ _ _ rfl rfl mE _ [] (plainElem_bool au1 ab) ?_;intro w1 ady Bo;
      obtain⟨v1,TC,WZ,arC⟩:=holdsRow_own (β:=Unit) w.heap.size w.heap.size 35 3 1 (λ_=>(uq pre).length) (λ_=>(uq pre).map λx=>as6 .i64 x.1) (λ_ v=>v=.slice ah 0 0↔uq pre=[]) () W w1 (aa (w.heap.size+1)) ⟨v,hv,kb,qG⟩ Bo (λr e=>by cases e;obtain⟨es,ck,hh,_⟩:=lq;exact⟨_,hh,rfl⟩);
      have bL:=TC.cell;have W0:w.heap.size<=w1.heap.size:=asq aT Bo.size)
    |(gi_at_builtin;refine wpListIn_append_own _ rfl _ _ 35 rfl w.heap.size 3 i0 (.int .i64 0) 1 8 Tryz.underlying35 hi mV mP IT rfl (by decide) _ _ _ rfl (WZ.alloc _) ⟨w1.heap.size,0,ah⟩ 1 1 [.int .i64 x.1] rfl rfl (cell_one_new _ _ _) (by simp[Value.oneCell']) apN hub (asq W0 (by simp)) ?_;
      intro v' w2 H3 ZY _;obtain⟨g',Hz,rfl⟩:=ownsRow_succ H3;obtain⟨Ub,hv3,hr3,hk3,d_⟩:=TC.appended (by decide) WZ W0 (ar8 _) H3 ZY;have gy:=Ub.cell;have ZZ:=Ub.frozen))
   have DV:Boxed w1 (w.heap.size+1+1) 198 (.map (aa (w.heap.size+1))):=gk.kept Bo (λe=>by simp at e);have apO:Boxed w2 (w.heap.size+1+1) 198 (.map (aa (w.heap.size+1))):=(DV.alloc _).kept ZY (DV.not_row (by decide) WZ);have apP:=apO.other (B':=w.heap.size) (by omega) (.slice (aa ⟨g',0,ah⟩) ((uq pre).length+1) Hz);have zS:w1.heap[w.heap.size+1]?=_:=aum (aum ady)|>.1
   refine⟨(axW Bo (λj e=>by cases e;simp)).trans (hk3.from _),((atK _ W).grown Bo aT (λk e=>by cases e;omega)).trans d_,
    ⟨⟨_,hv3,by rw[K4 pre hx];simpa using hr3,by rw[K4 pre hx];simp⟩,apP,?_⟩,(hB.grown Bo aT (λk e=>by cases e;omega)).trans d_⟩
   rw[K4 pre hx,JF,ass];exact QV ady ((hk3.same _ _ zS rfl).trans zS.symm)
 case done=>
  rintro D ys W hD rfl ⟨⟨⟨v,hv,kb,qG⟩,gk,lq⟩,hB⟩ hK;have hc:=hv.cell
  gi_wp2
  refine⟨by simp,.inl ⟨_,_,rfl,run_takeDeferred hK,?_⟩⟩;exact⟨_,results_tmp rfl _ _ _,v,rfl,ownsRow_putObj kb _ hK rfl,qG,hB.trans (belowK_b (w:=w) (ar8 _) W D _ _ (by simp at hD;omega) hK rfl rfl)⟩
 case stop=>
  rintro D c pre W _ _ h _;exact h.elim
end Go.Proofs.YtpfogalbnijcoaaGreat
namespace Go.Proofs.YtpfogalbnijcoaaGreat
open Go Go.RowKit Go.Shelf
attribute [local go_sem] au3
def gd:Tm->List Int
 |.mk k n _ ts=>if k=1 then[n]else if k=2 then NR ts else[]
where NR:List Tm->List Int
 |[]=>[]
 |t::ts=>gd t++NR ts
theorem CQ:∀l:List Tm,gd.NR l=(l.map gd).flatten
 |[]=>rfl
 |t::l=>by simp[gd.NR,CQ l]
theorem eY{ι:Ev.Io}{v u:Value}(h:Ev.Rv ι (.raw v) u):u=v:=by cases h;rfl
theorem ae2{ι:Ev.Io}{a b c d:Ev.IV}{v:Value}(h:Ev.Rv ι (.agg [a,b,c,d]) v):∃x y z u,v=.agg #[x,y,z,u]/\Ev.Rv ι a x/\Ev.Rv ι b y/\Ev.Rv ι c z/\Ev.Rv ι d u:=by
 cases h with
 |agg _ vs hl hh=>
  match vs,hl,hh with
  |[x,y,z,u],_,hh=>exact⟨x,y,z,u,rfl,hh 0 _ _ rfl rfl,hh 1 _ _ rfl rfl,hh 2 _ _ rfl rfl,hh 3 _ _ rfl rfl⟩
theorem ae3{ι:Ev.Io}{a b:Ev.IV}{v:Value}(h:Ev.Rv ι (.agg [a,b]) v):∃x y,v=.agg #[x,y]/\Ev.Rv ι a x/\Ev.Rv ι b y:=by
 cases h with
 |agg _ vs hl hh=>
  match vs,hl,hh with
  |[x,y],_,hh=>exact⟨x,y,rfl,hh 0 _ _ rfl rfl,hh 1 _ _ rfl rfl⟩
theorem ae4{ι:Ev.Io}{a b c:Ev.IV}{v:Value}(h:Ev.Rv ι (.agg [a,b,c]) v):∃x y z,v=.agg #[x,y,z]/\Ev.Rv ι a x/\Ev.Rv ι b y/\Ev.Rv ι c z:=by
 cases h with
 |agg _ vs hl hh=>
  match vs,hl,hh with
  |[x,y,z],_,hh=>exact⟨x,y,z,rfl,hh 0 _ _ rfl rfl,hh 1 _ _ rfl rfl,hh 2 _ _ rfl rfl⟩
theorem HR{ι:Ev.Io}{s:Nat}{es:List Ev.IV}{v:Value}(h:Ev.Rv ι (.tree s es) v):∃a l c,v=.slice a l c:=by
 cases h with
 |tree=>exact⟨_,_,_,rfl⟩
 |dS=>exact⟨_,_,_,rfl⟩
theorem W4{M:Ev.Fz}{w:World}(hM:Ev.ur M w):∀(d:Nat) (t:Tm) (v:Value),auR t<=d->og t->dv t->Ev.Rv (Ev.ew M) (dH t) v->∃xs,TW w.heap.size w d v xs/\xs.map (·.1)=gd t:=by
 intro d;induction d with
 |zero=>intro t v h;obtain⟨k,n,s,ts⟩:=t;simp at h
 |succ d ih=>
  rintro⟨k,n,s,ts⟩ v hd hn hf hr;rw[uR]at hr;obtain⟨x,y,z,u,rfl,h1,h2,h3,h4⟩:=ae2 hr;obtain rfl:=eY h1;obtain rfl:=eY h2;obtain rfl:=eY h3;obtain⟨a,l,c,rfl⟩:=HR h4;obtain⟨_,sO,cn⟩:=(mR _).1 hn;obtain⟨El,ZZ⟩:=(zZ _).1 hf;simp only[Tm.k,Tm.n,Tm.ts]at sO cn El ZZ;by_cases mZ:k=1
  ·exact⟨[⟨n,El mZ⟩],⟨k,n,_,a,l,c,rfl,.inl ⟨mZ,El mZ,rfl⟩⟩,by simp[gd,mZ]⟩
  by_cases AJ:k=2
  rotate_left
  ·exact⟨[],⟨k,n,_,a,l,c,rfl,.inr (.inl ⟨mZ,AJ,rfl⟩)⟩,by simp[gd,mZ,AJ]⟩
  obtain⟨jv,hs,hv⟩:∃jv,SW w.heap.size w (TW w.heap.size w d) (.slice a l c) jv/\jv.map (λxs=>xs.map (·.1))=ts.map gd:=adz hM sO h4 λt ht v hv=>by
   have:=atw ht;exact ih t v (by simp at hd;omega) (cn t ht) (ZZ AJ t ht) hv
  refine⟨jv.flatten,⟨k,n,_,a,l,c,rfl,.inr (.inr ⟨AJ,jv,hs,rfl⟩)⟩,?_⟩;rw[awL];simp[gd,AJ,CQ,hv]
where
 adz {M:Ev.Fz} {w:World} (hM:Ev.ur M w) {ts:List Tm} {a:Option Addr} {l c:Nat} (sO:Sm ts) (h4:Ev.Rv (Ev.ew M) (iT ts) (.slice a l c)) {R:Value->List gb->Prop} (ih:∀t∈ts,∀v,Ev.Rv (Ev.ew M) (dH t) v->∃xs,R v xs/\xs.map (·.1)=gd t):
  ∃jv,SW w.heap.size w R (.slice a l c) jv/\jv.map (λxs=>xs.map (·.1))=ts.map gd:=by
  have gZ:∀(b off k:Nat) (u:Value),Ev.oE M b (off+k)=aa u->b<w.heap.size/\w.cell? ⟨b,off+k,ah⟩=aa u:=by
   intro b off k u h;unfold Ev.oE at h;cases hb:M b with
   |none=>rw[hb]at h;cases h
   |some cs=>
    rw[hb]at h;obtain⟨e,f,hh⟩:=hM b cs hb;exact⟨hM.lt hb,by simp only[axn,hh];exact h⟩
  obtain⟨es,gx⟩:∃es,es=ts.map dH:=⟨_,rfl⟩;have h4':Ev.Rv (Ev.ew M) (.tree 4 es) (.slice a l c):=by rw[gx];exact h4
  cases h4' with
  |dS _ _ _ hs hn=>
   have:ts=[]:=by simpa using gx.symm
   subst this;exact⟨[],⟨by simp,.inl ⟨rfl,_,_,rfl⟩⟩,rfl⟩
  |tree _ _ b off _ us hs hc bH hu hh=>
   subst gx;rcases Nat.eq_zero_or_pos ts.length with h0|sY
   ·have:ts=[]:=asF h0;subst this;exact⟨[],⟨by simp,.inl ⟨rfl,_,_,rfl⟩⟩,rfl⟩
   have oc:∀i (hi:i<ts.length),∃xs,R (.agg #[us (i*4),us (i*4+1),us (i*4+2),us (i*4+3)]) xs/\xs.map (·.1)=gd ts[i]:=by
    intro i hi;refine ih ts[i] (List.getElem_mem hi) _ ?_;have s7:(ts.map dH)[i]?=aa (dH ts[i]):=by simp[hi]
    have qW:=λj c=>hh i (dH ts[i]) j c s7;generalize ts[i]=t at qW;obtain⟨k,n,s,ts'⟩:=t;rw[uR]at qW⊢;refine .agg _ [us (i*4),us (i*4+1),us (i*4+2),us (i*4+3)] rfl λj c v h1 h2=>?_;have:=qW j c h1;have hj:j<4:=by have:=(ar3.1 h1).1;simpa using this
    match j,hj with
    |0,_=>simp at h2;subst h2;exact this
    |1,_=>simp at h2;subst h2;exact this
    |2,_=>simp at h2;subst h2;exact this
    |3,_=>simp at h2;subst h2;exact this
   have Z0:∀k,k<ts.length*4->b<w.heap.size/\w.cell? ⟨b,off+k,ah⟩=aa (us k):=λk hk=>gZ b off k _ (hu k (by simpa using hk));refine⟨List.ofFn λi:Fin ts.length=>axX (oc i.1 i.2),⟨by simpa using sO,.inr ⟨b,off,_,by simp;rfl,(Z0 0 (by omega)).1,λi xs hi=>?_⟩⟩,?_⟩
   ·rw[List.getElem?_ofFn]at hi;split at hi
    ·rename_i ai;simp only[ar6]at hi;subst hi;refine⟨_,_,_,_,(Z0 (i*4) (by omega)).2,?_,?_,?_,(aum (oc i ai)).1⟩
     ·rw[av1];exact(Z0 (i*4+1) (by omega)).2
     ·rw[av1];exact(Z0 (i*4+2) (by omega)).2
     ·rw[av1];exact(Z0 (i*4+3) (by omega)).2
    ·cases hi
   ·refine List.ext_getElem (by simp) λi h1 h2=>?_;simp only[List.getElem_map,List.getElem_ofFn];exact(aum (oc i (by simpa using h1))).2
theorem HS{M:Ev.Fz}{w W':World}{new:Bool}{u:Value}{l:List Int}(hM:Ev.ur M w)(hB:Below w.heap.size w W')(hr:W'.ownsRow w.heap.size 3 1 u l.length (l.map λx=>as6 .i64 x)):Ev.Ka new M w (Ev.iL l) u W':=by
 have tf:∀b,b<w.heap.size->W'.heap[b]?=w.heap[b]? :=hB.block;refine⟨Ev.rV new M w W',?_,?_,?_,?_,hB.os,hB.tape,hB.output,hB.size,tf⟩
 ·intro b c hb;unfold Ev.rV at hb;split at hb
  ·rename_i ai;split at hb
   ·cases hb
   ·rw[tf b ai];exact hM b c hb
  ·split at hb
   ·rename_i c' e f hh;cases hb;exact⟨e,f,hh⟩
   ·cases hb
 ·intro b c hb;unfold Ev.rV at hb;split at hb
  ·split at hb
   ·cases hb
   ·rename_i hn;exact .inl ⟨by simpa using hn,hb⟩
  ·exact .inr (by omega)
 ·intro hn b c hb;have ai:=hM.lt hb;unfold Ev.rV;rw[if_pos ai,if_neg (by simp[hn])];exact hb
 ·obtain⟨hlen,⟨rfl,h0⟩|⟨g,cap,cur,rfl,hg,hh,fB,_,aT,JE⟩⟩:=hr
  ·have:l=[]:=asF h0;subst this;exact .dS 1 ah 0 (by omega) (λ_=>rfl)
  ·by_cases hl:l=[]
   ·subst hl;exact .dS 1 _ _ (by omega) (by simp)
   have eg:∀(k:Nat) (x:Int),l[k]?=aa x->cur[k]?=aa (as6 .i64 x):=by
    intro k x hk;have oL:=(ar3.1 hk).1;have:(cur.toList.take (l.length*1))[k]?=aa (as6 .i64 x):=by rw[JE];simp[hk]
    rw[List.getElem?_take,if_pos (by omega)]at this;simpa using this
   have hcm:Ev.oE (Ev.rV new M w W') g=λk=>cur[k]? :=by
    funext k;unfold Ev.oE Ev.rV;rw[if_neg (by omega),hh];rfl
   have:=Ev.Rv.tree (ι:=Ev.ew (Ev.rV new M w W')) 1 (l.map Ev.iI) g 0 cap (λk=>(cur[k]?).getD Go.undef) (by omega) (by simpa using fB) (λe he=>by obtain⟨x,_,rfl⟩:=asv.1 he;rfl)
    (λk hk=>by
     show Ev.oE (Ev.rV new M w W') g (0+k)=_;rw[hcm];simp only[aty,axK]at hk;have:=eg k l[k] (ar2 hk);simp[this]) (λi e j c he hc=>by
     rw[List.getElem?_map]at he;obtain⟨x,hx,rfl⟩:=Option.map_eq_some_iff.1 he
     have hj:j=0:=by
      have:=(ar3.1 hc).1;simp[Ev.cellsOf]at this;exact this
     subst hj;simp[Ev.cellsOf]at hc;subst hc;have:=eg i x hx;simp only[axK,Nat.add_zero,this,Option.getD_some];exact .raw _)
   simpa using this
end Go.Proofs.YtpfogalbnijcoaaGreat
namespace Go.Proofs.YtpfogalbnijcoaaGreat
open Go Go.RowKit Go.Shelf
attribute [local go_sem] au3
theorem SW.wide{n₀ n₁:Nat}{A:World}(h:n₀<=n₁){R R':Value->List gb->Prop}(hR:∀v xs,R v xs->R' v xs){sl:Value}{jv:List (List gb)}(hs:SW n₀ A R sl jv):SW n₁ A R' sl jv:=by
 rcases hs with⟨hl,hs|⟨b,off,cap,h1,h2,h3⟩⟩
 ·exact⟨hl,.inl hs⟩
 ·refine⟨hl,.inr ⟨b,off,cap,h1,by omega,λi xs hi=>?_⟩⟩;obtain⟨u0,u1,u2,u3,g0,g1,g2,g3,g4⟩:=h3 i xs hi;exact⟨u0,u1,u2,u3,g0,g1,g2,g3,hR _ _ g4⟩
theorem TW.wide{n₀ n₁:Nat}{A:World}(h:n₀<=n₁):∀{d:Nat} {v:Value} {xs:List gb},TW n₀ A d v xs->TW n₁ A d v xs
 |0,_,_,ht=>ht
 |d+1,_,_,⟨k,n,s,a,l,c,h1,h2⟩=>⟨k,n,s,a,l,c,h1,h2.imp id λh2=>h2.imp id λ⟨hk,jv,h3,h4⟩=>⟨hk,jv,h3.wide h λ_ _=>TW.wide h,h4⟩⟩
theorem QW{W:World}{b b':Nat}{e:TypeId}{s:Nat}{v:Value}{n:Nat}{xs:List Value}(h:b<=b')(hr:W.ownsRow b' e s v n xs):W.ownsRow b e s v n xs:=by
 obtain⟨h1,h2|⟨g,cap,cur,h2,h3,h4⟩⟩:=hr
 ·exact⟨h1,.inl h2⟩
 ·exact⟨h1,.inr ⟨g,cap,cur,h2,by omega,h4⟩⟩
def Bp(l:List Int):List Int:=l.foldl (λacc x=>if x∈acc then acc else acc++[x]) []
theorem ahI(xs:List gb):(uq xs).map (·.1)=Bp (xs.map (·.1)):=by
 have key:∀(l acc:List gb),(l.foldl (λacc x=>if x∈acc then acc else acc++[x]) acc).map (·.1)=(l.map (·.1)).foldl (λacc x=>if x∈acc then acc else acc++[x]) (acc.map (·.1)):=by
  intro l;induction l with
  |nil=>intro acc;rfl
  |cons y l ih=>
   intro acc;rw[asG,ih,asZ,asG]
   congr 1
   have hm:y∈acc↔y.1∈acc.map (·.1):=by
    rw[asv];exact⟨λh=>⟨y,h,rfl⟩,λ⟨a,h1,h2⟩=>by rw[av0 h2.symm];exact h1⟩
   by_cases h:y∈acc
   ·rw[if_pos h,if_pos (hm.1 h)]
   ·rw[if_neg h,if_neg (λh'=>h (hm.2 h'))];simp
 exact key xs []
def varsOf(ts:List Tm):List Int:=Bp (ts.map gd).flatten
theorem Uc{w w2:World}{ts:List Tm}{a:Option Addr}{l c d:Nat}{jv:List (List gb)}(n Bn:Nat)(hB:Below w.heap.size w w2)(dK:SW w2.heap.size w2 (TW w2.heap.size w2 d) (.slice a l c) jv)(hv:jv.map (λxs=>xs.map (·.1))=ts.map gd)(hb:Bn<w2.heap.size)
 (hc:w2.cell? ⟨Bn,0,ah⟩=aa (.slice a l c)):
 CallsIn asB n ar1 112 #[.func (.func 190) #[] #[.pointer (aa ⟨Bn,0,ah⟩)]] w2 λe W'=>∃v,e=.returned v/\W'.ownsRow w.heap.size 3 1 v (varsOf ts).length ((varsOf ts).map λx=>as6 .i64 x)/\Below w.heap.size w W':=by
 have gY:(uq jv.flatten).map (·.1)=varsOf ts:=by
  rw[ahI,awL,varsOf,hv]
 refine callsIn_wide.2 (callsIn_wide.1 ((ae1 asB rfl 0 trivial trivial trivial trivial rfl d Bn _ jv w2 hb hc dK).mono ?_));rintro e W' ⟨v,rfl,h1,_,h3⟩;refine⟨v,rfl,?_,hB.trans (h3.mono hB.size)⟩;rw[<-gY,List.map_map,aty];exact QW hB.size h1
theorem ML{M:Ev.Fz}{w w2:World}(hM:Ev.ur M w){ts:List Tm}(sO:Sm ts)(hn:∀t∈ts,og t)(hf:∀t∈ts,dv t){a:Option Addr}{l c:Nat}(hr:Ev.Rv (Ev.ew M) (iT ts) (.slice a l c))(n Bn:Nat)(hB:Below w.heap.size w w2)(hb:Bn<w2.heap.size)
 (hc:w2.cell? ⟨Bn,0,ah⟩=aa (.slice a l c)):
 CallsIn asB n ar1 112 #[.func (.func 190) #[] #[.pointer (aa ⟨Bn,0,ah⟩)]] w2 λe W'=>∃v,e=.returned v/\W'.ownsRow w.heap.size 3 1 v (varsOf ts).length ((varsOf ts).map λx=>as6 .i64 x)/\Below w.heap.size w W':=by
 obtain⟨d,hd⟩:∃d,∀t∈ts,auR t<=d:=⟨auR ts,λt ht=>Nat.le_of_lt (atw ht)⟩;obtain⟨jv,hs,hv⟩:=W4.adz (R:=TW w.heap.size w d) hM sO hr λt ht v hv=>W4 hM d t v (hd t ht) (hn t ht) (hf t ht) hv;exact Uc n Bn hB ((hs.below hB λ_ _=>TW.below hB).wide hB.size λ_ _=>TW.wide hB.size) hv hb hc
theorem Ax(W:World)(v:Value)(t:TypeId):(W.alloc (.cells #[v] t)).cell? ⟨W.heap.size,0,ah⟩=aa v:=(awB W t v).cell
set_option maxRecDepth 100000 in
set_option maxHeartbeats 2000000 in
theorem apQ(new:Bool)(s:List UInt8){ts:List Tm}(sO:Sm ts)(hn:∀t∈ts,og t)(hf:∀t∈ts,dv t):Ev.eZ ar1 af new 53 [.agg [Ev.iS s,iT ts]] (Ev.iL (varsOf ts)):=by
 intro M w us hM lF;obtain⟨v,ph,rfl,h1,h2⟩:=lF.sS;obtain rfl:=h2.of_nil;obtain⟨x,y,rfl,g1,g2⟩:=ae3 h1;obtain rfl:=eY g1;obtain⟨a,l,c,rfl⟩:=HR g2;have Bg:Below w.heap.size w ((w.alloc (.cells #[.string ⟨s.toArray⟩,.slice a l c] 55)).alloc (.cells #[.slice a l c] 49)):=((atK _ w).alloc (ar8 _) _).alloc (by simp) _;have MM:=ML hM sO hn hf g2 0 (w.heap.size+1) Bg (by simp) (by have:=Ax (w.alloc (.cells #[.string ⟨s.toArray⟩,.slice a l c] 55)) (.slice a l c) 49;simpa using this);clear g1 g2 h1 h2 lF;refine callsIn_of_wp Tryz.func53 rfl trivial ?_ rfl;simp only[Tryz.ntmps53,atn,asV,atq,atL,atM,as_,ata,ato,atd,as8,atl]
 gi_wp2_with (first
  |(refine⟨trivial,rfl,?_⟩;refine(K3 asB _ trivial rfl a l c _).mono ?_;rintro e w' ⟨rfl,rfl⟩)
  |(refine⟨trivial,rfl,?_⟩;refine MM.mono ?_;clear MM;rintro e W2 ⟨u,rfl,kb,hB⟩))
 go_ret
 exact⟨rfl,HS hM hB kb⟩
set_option maxRecDepth 100000 in
set_option maxHeartbeats 2000000 in
theorem apR(new:Bool)(op:Int)(s:List UInt8){ts:List Tm}(sO:Sm ts)(hn:∀t∈ts,og t)(hf:∀t∈ts,dv t):Ev.eZ ar1 af new 108 [.agg [Ev.iI op,Ev.iS s,iT ts]] (Ev.iL (varsOf ts)):=by
 intro M w us hM lF;obtain⟨v,ph,rfl,h1,h2⟩:=lF.sS;obtain rfl:=h2.of_nil;obtain⟨x,z,y,rfl,g1,g3,g2⟩:=ae4 h1;obtain rfl:=eY g1;obtain rfl:=eY g3;obtain⟨a,l,c,rfl⟩:=HR g2;have Bg:Below w.heap.size w ((w.alloc (.cells #[.int .i64 op,.string ⟨s.toArray⟩,.slice a l c] 82)).alloc (.cells #[.slice a l c] 49)):=((atK _ w).alloc (ar8 _) _).alloc (by simp) _;have MM:=ML hM sO hn hf g2 0 (w.heap.size+1) Bg (by simp) (by have:=Ax (w.alloc (.cells #[.int .i64 op,.string ⟨s.toArray⟩,.slice a l c] 82)) (.slice a l c) 49;simpa using this);clear g1 g2 h1 h2 lF;refine callsIn_of_wp Tryz.func108 rfl trivial ?_ rfl;simp only[Tryz.ntmps108,atn,asV,atq,atL,atM,as_,ata,ato,atd,as8,atl]
 gi_wp2_with (first
  |(refine⟨trivial,rfl,?_⟩;refine(K3 asB _ trivial rfl a l c _).mono ?_;rintro e w' ⟨rfl,rfl⟩)
  |(refine⟨trivial,rfl,?_⟩;refine MM.mono ?_;clear MM;rintro e W2 ⟨u,rfl,kb,hB⟩))
 go_ret
 exact⟨rfl,HS hM hB kb⟩
set_option maxRecDepth 100000 in
set_option maxHeartbeats 2000000 in
theorem apS(new:Bool)(t:Tm)(hn:og t)(hf:dv t):Ev.eZ ar1 af new 110 [dH t] (Ev.iL (varsOf [t])):=by
 intro M w us hM lF;obtain⟨v,ph,rfl,h1,h2⟩:=lF.sS;obtain rfl:=h2.of_nil;obtain⟨xs,htw,iR⟩:=W4 hM (auR t) t v (ar8 _) hn hf h1;obtain⟨k,n,s,a,l,c,rfl⟩:=htw.form;have DW:Below w.heap.size w (w.alloc (.cells #[.int .i64 k,.int .i64 n,.string s,.slice a l c] 51)):=(atK _ w).alloc (ar8 _) _;have Bg:Below w.heap.size w ((w.alloc (.cells #[.int .i64 k,.int .i64 n,.string s,.slice a l c] 51)).alloc (.cells #[.int .i64 k,.int .i64 n,.string s,.slice a l c] 51)):=DW.alloc (by simp) _;have Jh:Below w.heap.size w (((w.alloc (.cells #[.int .i64 k,.int .i64 n,.string s,.slice a l c] 51)).alloc (.cells #[.int .i64 k,.int .i64 n,.string s,.slice a l c] 51)).alloc (.cells #[.slice (aa ⟨w.heap.size+1,0,ah⟩) 1 1] 49)):=Bg.alloc (by simp;omega) _;have eV:=World.alloc_heap_new (w.alloc (.cells #[.int .i64 k,.int .i64 n,.string s,.slice a l c] 51)) (.cells #[.int .i64 k,.int .i64 n,.string s,.slice a l c] 51);rw[awC]at eV;have adA:(((w.alloc (.cells #[.int .i64 k,.int .i64 n,.string s,.slice a l c] 51)).alloc (.cells #[.int .i64 k,.int .i64 n,.string s,.slice a l c] 51)).alloc (.cells #[.slice (aa ⟨w.heap.size+1,0,ah⟩) 1 1] 49)).heap[w.heap.size+1]?=aa (.cells #[.int .i64 k,.int .i64 n,.string s,.slice a l c] 51):=(Below.heap_alloc _ _ _ (by simp)).trans eV
 have MM:=Uc (ts:=[t]) (jv:=[xs]) (d:=auR t) (a:=aa ⟨w.heap.size+1,0,ah⟩) (l:=1) (c:=1) 0 (w.heap.size+1+1) Jh
  ⟨by simp,.inr ⟨w.heap.size+1,0,1,rfl,by simp,λi ys hi=>by
   cases i with
   |succ i=>simp at hi
   |zero=>
    simp at hi;subst hi;refine⟨.int .i64 k,.int .i64 n,.string s,.slice a l c,?_,?_,?_,?_,(TW.below Jh htw).wide Jh.size⟩
    all_goals (simp only[axn];rw[adA];rfl)⟩⟩ (by simp only[asZ,List.map_nil,iR]) (by simp) (by have:=Ax ((w.alloc (.cells #[.int .i64 k,.int .i64 n,.string s,.slice a l c] 51)).alloc (.cells #[.int .i64 k,.int .i64 n,.string s,.slice a l c] 51)) (.slice (aa ⟨w.heap.size+1,0,ah⟩) 1 1) 49;simpa using this)
 clear eV adA h1 h2 lF htw;refine callsIn_of_wp Tryz.func110 rfl trivial ?_ rfl;simp only[Tryz.ntmps110,atn,asV,atq,atL,atM,as_,ata,ato,atd,as8,atl]
 gi_wp2_with (first
  |(refine⟨trivial,rfl,?_⟩;refine(K3 asB _ trivial rfl _ 1 1 _).mono ?_;rintro e w' ⟨rfl,rfl⟩)
  |(refine⟨trivial,rfl,?_⟩;refine MM.mono ?_;clear MM;rintro e W2 ⟨u,rfl,kb,hB⟩))
 go_ret
 exact⟨rfl,HS hM hB kb⟩
end Go.Proofs.YtpfogalbnijcoaaGreat
