/- Lemmas, a part of the proof; no conditions. -/
import Derived.Test.YtabefplkfkfdfaaGreatPAe
import Derived.RangeFuncNested
import Derived.RangeFuncBound
import Derived.RangeFuncCalls
import Derived.RangeFuncBox
import Derived.Shelf.Abstract
import Derived.Shelf.RegionOpen
import Derived.WalkKit
import Derived.OwnWalkIn
import Derived.TacticsInMore
import Derived.LoopIn
import Derived.Maps.OwnIn
import Derived.Maps.AppendAt
import Derived.Maps.Views
import Derived.Maps.OwnSet
import Derived.Sort.Grow
open Go.Ev.SE renaming den->UU
open Go.Proofs.Tryz renaming prog->Z2,underlying82->aKh,func245->aJI,ntmps245->aKU,underlying3->Up,underlying235->aI6,underlying4->aJg,zeroValue4->aKz
open Go.Op renaming equalIn->NI,equal->We
open Option renaming bind_some->Z8
open Array renaming forIn_toList->aJZ,replicate_succ->Ug,replicate_zero->PX,any_toList->aKl
open List renaming forIn_nil->aKJ,flatten_append->Uk,flatten_cons->TM,flatten_nil->aJf,take_append_drop->JP,size_toArray->Xy,push_toArray->DX,append_toArray->P5,map_flatten->aKu,mem_flatten->aJh,length_flatten->QM
open String renaming reduceEq->aKi
open Go renaming binOp->Kd,undef->ZL,TypeId->VK,Value->ZQ,Program->V5,FuncId->V4,World->Z0
open Go.Instr renaming findAsking->Qu,findKey->YA,sameBits->Xi
open Go.Oper renaming semAt_some->Kh
open Nat renaming reduceAdd->Yk,reduceSub->XB,mul_one->aLc,lt_succ_iff_lt_or_eq->aJG
open Go.Value renaming slice->aJP,int->P3
open Go.World renaming grownBy_alloc->Zg,size_alloc->aKk,cell?->Ws
open Go.RowKit.Below renaming refl->S4
open Go.Value.agg renaming injEq->aJV
open Array.mk renaming injEq->aJ7
open Go.IntKind renaming i64->QY
open List.Pairwise renaming map->XZ
open Subtype renaming ext->aKK
open Go.Maps renaming IsMap->aJ8,int_keyed->aJt
open Go.Boxed renaming new->aKj
open Go.OwnFrom renaming and->aKL
open Go.KeepsFrom renaming refl->aLm,of_grownBy->aLn
open Classical renaming choose_spec->aIC,choose->aLo,propDecidable->aLp
open SizeOf renaming sizeOf->Yi
open Go.Fence renaming wide->Z9
open Option renaming some->aa,none->ah
open Bool renaming true->ab,false->af
set_option linter.all false
def P2:=@List.forIn_cons
def Ya:=@List.map_map
def Nj:=@List.map_append
def Uh:=@List.flatten_eq_nil_iff
namespace Go.Proofs.YtabefplkfkfdfaaGreat
open Go Go.Ev
def ayG:Z2.underlying 9=aa .string:=kr
def eq9(d:Nat)(a b:ByteArray):a_ Z2 (NI (d+1) 9 (.string a) (.string b))=aa (a==b):=by
 rw[NI,bw,Go.Ev.run_underlying ayG,Z8];rfl
def Nw(d:Nat)(a b:Int):a_ Z2 (NI (d+1) 3 (.int .i64 a) (.int .i64 b))=aa (a==b):=by
 rw[NI,bw,Go.Ev.run_underlying SZ,Z8];rfl
def asi(d:Nat)(x y x' y':ZQ)(b1 b2:Bool)(h1:a_ Z2 (NI (d+1) 9 x x')=aa b1)(h2:a_ Z2 (NI (d+1) 3 y y')=aa b2):
 a_ Z2 (NI (d+2) 82 (.agg #[x,y]) (.agg #[x',y']))=aa (b1&&b2):=by
 rw[NI,bw,Go.Ev.run_underlying aKh,Z8];have bI:Z2.stoodInHeld 82=af:=by kernel_rfl
 have p9:∀(a b:ZQ),a_ Z2 (part 9 #[a,b] 0)=aa a:=λa b=>by kernel_rfl
 have p3:∀(a b:ZQ),a_ Z2 (part 3 #[a,b] 1)=aa b:=λa b=>by kernel_rfl
 have hp:a_ Z2 program=aa Z2:=rfl;rw[bw,hp,Z8,bI];simp only[W8,if_false,<-aJZ,P2,aKJ,bw,ne_eq,aKi,not_false_eq_true,if_true,p9,p3,Z8,h1,h2];have q:∀{B:Type} (a:B),a_ Z2 (pure a)=aa a:=λ_=>rfl;cases b1
 .rfl
 .simp only[YI,W8,if_false,q,Z8,bw,p3,h2];cases b2<;>rfl
def bq(a b:aj UInt8):((⟨a.toArray⟩:ByteArray)==⟨b.toArray⟩)=(a==b):=by
 show(a.toArray==b.toArray)=_;simp
def asj(P:V5)(t:VK)(a b c d:ZQ)(r:Bool)(hg:a_ P (eqGuard .eql t (.func 0) (.func 0) (.agg #[a,b]) (.agg #[c,d]))=aa ())(h:a_ P (We t (.agg #[a,b]) (.agg #[c,d]))=aa r):
 dN P .eql t (.agg [.raw a,.raw b]) (.agg [.raw c,.raw d])=aa (iB r):=by
 show(a_ P (do eqGuard .eql t (.func 0) (.func 0) (.agg #[a,b]) (.agg #[c,d]);Kd .eql t (.agg #[a,b]) (.agg #[c,d]))).map lift=_;rw[bw,hg];show(a_ P (do pure (.bool (<-We t (.agg #[a,b]) (.agg #[c,d]))))).map lift=_;rw[bw,h];rfl
deriving instance DecidableEq for De
def ag0(s s':aj UInt8)(n n':Int):dN Z2 .eql 82 (.agg [iS s,iI n]) (.agg [iS s',iI n'])=aa (iB (s==s'&&n==n')):=by
 refine asj _ _ _ _ _ _ _ kr ?_;rw[<-bq];exact asi 9998 _ _ _ _ _ _ (eq9 _ _ _) (Nw _ _ _)
def ju(d:De):ZQ:=.agg #[.string ⟨d.s.toArray⟩,.int .i64 d.n]
def eqK(k e:De):a_ Z2 (We 82 (ju k) (ju e))=aa (decide (k=e)):=by
 have h:a_ Z2 (We 82 (ju k) (ju e))=aa (k.s==e.s&&k.n==e.n):=by
  rw[<-bq];exact asi 9998 _ _ _ _ _ _ (eq9 _ _ _) (Nw _ _ _)
 rw[h];obtain⟨a,b⟩:=k;obtain⟨c,d⟩:=e;simp;rw[Bool.eq_iff_iff];simp
def zj{B:Type}(P:V5)(a:B):a_ P (pure a)=aa a:=rfl
def ami(k:De):∀(ks:aj De) (i:Nat),(k∈ks->∃j,a_ Z2 (Qu 82 (ju k) (ks.map λe=>⟨ju e,ZL,0⟩) i)=aa (aa (i+j,ZL))/\ks[j]?=aa k)/\
 (k∉ks->a_ Z2 (Qu 82 (ju k) (ks.map λe=>⟨ju e,ZL,0⟩) i)=aa ah)
 |[],i=>by simp[Qu,zj]
 |e::ks,i=>by
  obtain⟨h1,h2⟩:=ami k ks (i+1)
  have hu:a_ Z2 (Qu 82 (ju k) ((e::ks).map λe=>⟨ju e,ZL,0⟩) i)=a_ Z2 (if decide (k=e)=ab then pure (aa (i,ZL))else Qu 82 (ju k) (ks.map λe=>⟨ju e,ZL,0⟩) (i+1)):=by
   rw[ZM,Qu,bw,eqK,Z8]
  rw[hu];by_cases h:k=e
  .subst h;exact⟨λ_=>⟨0,by rw[aW az];simp[zj],rfl⟩,λhn=>bH az hn⟩
  .rw[aY (by simpa using h)];refine⟨λhm=>?_,λhn=>h2 λhm=>hn (by simp[hm])⟩;obtain⟨j,g1,g2⟩:=h1 (by simpa[h]using hm);exact⟨j+1,by rw[g1,show i+1+j=i+(j+1) by omega],by simpa using g2⟩
def Hz(b:Bool)(k:De):a_ Z2 (Instr.checkKey b 10000 82 (ju k))=aa ():=by
 obtain⟨s,n⟩:=k;cases b<;>kernel_rfl
def YC(k:De)(ks:aj De):a_ Z2 (YA 82 (ju k) (ks.map λe=>⟨ju e,ZL,0⟩))=a_ Z2 (Qu 82 (ju k) (ks.map λe=>⟨ju e,ZL,0⟩) 0):=by
 unfold YA;rw[bw,Go.Ev.run_underlying aKh,Z8];cases ks with
 |nil=>rfl
 |cons e ks=>rfl
def aow(b:Bool)(k:De)(ks:aj De):(k∈ks->∃j,gX Z2 b 82 (ju k) ((ks.map ju).map λe=>(e,.undef,0))=aa (aa j)/\ks[j]?=aa k)/\(k∉ks->gX Z2 b 82 (ju k) ((ks.map ju).map λe=>(e,.undef,0))=aa ah):=by
 have hm:(((ks.map ju).map λe=>(e,(.undef:IV),0)).map λe=>({key:=e.1,val:=ZL,born:=e.2.2}:MapEntry))=ks.map λe=>⟨ju e,ZL,0⟩:=by
  rw[Ya,Ya];rfl
 obtain⟨h1,h2⟩:=ami k ks 0;refine⟨λh=>?_,λh=>?_⟩
 .obtain⟨j,g1,g2⟩:=h1 h;refine⟨j,?_,g2⟩;unfold gX;rw[bw,Hz,Z8,hm,YC,g1];simp
 .unfold gX;rw[bw,Hz,Z8,hm,YC,h2 h]
def ag1(k:De):Xi 10000 (ju k) (ju k)=ab:=by
 show((#[_,_]:Array ZQ).size==2&&_)=ab;simp[Xi,bq]
def F0(d:De):IV:=.aU [.agg [iS d.s,iI d.n],iB ab]
def ag2:∀ds:aj De,oX (ds.map F0)=aa (ds.map ju)
 |[]=>rfl
 |k::ks=>by simp[oX,F0,Ev.keyOf,ag2 ks,ju];rfl
def abd(ds:aj De)(k:De):(k∈ds->∃j,gY Z2 82 (ds.map F0) (.agg [iS k.s,iI k.n])=aa (aa j)/\ds[j]?=aa k)/\(k∉ds->gY Z2 82 (ds.map F0) (.agg [iS k.s,iI k.n])=aa ah):=by
 have h:gY Z2 82 (ds.map F0) (.agg [iS k.s,iI k.n])=Hn Z2 82 (ds.map ju) (ju k):=by
  unfold gY;rw[ag2];have:zZ Z2 82=ah:=by kernel_rfl
  rw[this];rfl
 rw[h];obtain⟨a1,a2⟩:=aow ab k ds
 have hb:gX Z2 af 82 (ju k) ((ds.map ju).map λe=>(e,.undef,0))=gX Z2 ab 82 (ju k) ((ds.map ju).map λe=>(e,.undef,0)):=by
  unfold gX;rw[bw,bw,Hz,Hz]
 unfold Hn;rw[hb];refine⟨λhm=>?_,λhm=>?_⟩
 .obtain⟨j,g1,g2⟩:=a1 hm;refine⟨j,?_,g2⟩;rw[g1];simp only[if_true];rw[Z7,g2];simp only[Option.map_some,ag1,if_true]
 .rw[a2 hm];simp
abbrev eQ(ls:aj (aj Int)):IV:=.tree 1 (ls.map iL)
variable{i:Nat}{ls:aj (aj Int)}
def ag3(h:i<ls.length):cu 1 (eQ ls) (iI (i:Nat))=aa (iL ls[i]):=cM (by simp[h]) rfl
def aG7(h:i<ls.length):(ls.take (i+1)).flatten=(ls.take i).flatten++ls[i]:=by
 rw[ZN h,Uk];simp only[TM,aJf,Z_]
def Sj(ls:aj (aj Int))(i:Nat):(ls.take i).flatten.length<=ls.flatten.length:=by
 conv=>rhs;rw[<-JP i ls,Uk,UR]
 omega
def Eu(ls:aj (aj Int)):Pure (eQ ls):=by
 refine .tree 1 _ λe he c hc=>?_;obtain⟨x,_,rfl⟩:=Z6.1 he;simp[aD]at hc;subst hc;exact Hx x
open Go Go.RowKit Go.Shelf
attribute [local go_sem] Kh
set_option maxRecDepth 100000 in
set_option maxHeartbeats 1000000 in
def abe(F:Fence)(n:Nat)(h:F.fn 267)(fP:F.round=ah)(k m:Int)(s:ByteArray)(sl r:ZQ)(hr:r=if k=2 then sl else .slice ah 0 0)(w:Z0):
 CallsIn F n Z2 267 #[.agg #[.int .i64 k,.int .i64 m,.string s,sl]] w λe w'=>e=.returned r/\w'=w.alloc (.cells #[.int .i64 k,.int .i64 m,.string s,sl] 106):=by
 refine callsIn_of_wp Tryz.func267 rfl h ?_ fP;simp only[Tryz.ntmps267,Xy,Zx,YG,Yk,XB,Ug,PX,DX,P5,Qy,T7];subst hr
 gi_wp2
 all_goals first|(go_ret;exact⟨rfl,rfl⟩)|(exfalso;simp_all)
def wrap_small(i:Nat)(h:i+1<=9223372036854775807):wrap64 ((i:Int)+1)=((i+1:Nat):Int):=by grind [wrap64]
def MR(n i:Nat)(h:i<n):n-(intOf (.int .i64 ((i+1:Nat):Int))).toNat<n-(intOf (.int .i64 (i:Int))).toNat:=by grind [intOf]
abbrev j2:={x:Int//0<=x/\x<=1048576}
def SW(n₀:Nat)(W:Z0)(R:ZQ->List j2->Prop)(sl:ZQ)(m_:List (List j2)):Prop:=
 m_.length<=9223372036854775807/\((m_=[]/\∃a cap,sl=.slice a 0 cap)\/
 ∃b ay cap,sl=.slice (aa ⟨b,ay,ah⟩) m_.length cap/\b<n₀/\∀(i:Nat) (xs:List j2),m_[i]?=aa xs->∃u0 u1 u2 u3,W.cell? ⟨b,ay+i*4,ah⟩=aa u0/\W.cell? ⟨b,ay+i*4+1,ah⟩=aa u1/\
  W.cell? ⟨b,ay+i*4+2,ah⟩=aa u2/\W.cell? ⟨b,ay+i*4+3,ah⟩=aa u3/\R (.agg #[u0,u1,u2,u3]) xs)
def TW(n₀:Nat)(W:Z0):Nat->ZQ->List j2->Prop
 |0,_,_=>False
 |d+1,v,xs=>∃k n s a l c,v=.agg #[.int .i64 k,.int .i64 n,.string s,.slice a l c]/\((k=1/\∃h,xs=[⟨n,h⟩])\/(k≠1/\k≠2/\xs=[])\/(k=2/\∃m_,SW n₀ W (TW n₀ W d) (.slice a l c) m_/\xs=m_.flatten))
variable{W A:Z0}{n₀:Nat}
def TW.form:∀{d:Nat} {v:ZQ} {xs:List j2},TW n₀ W d v xs->∃k n s a l c,v=.agg #[.int .i64 k,.int .i64 n,.string s,.slice a l c]
 |0,_,_,ht=>ht.elim
 |d+1,_,_,⟨k,n,s,a,l,c,h1,_⟩=>⟨k,n,s,a,l,c,h1⟩
variable{R R':ZQ->List j2->Prop}{m_:aj (aj j2)}{sl:ZQ}{α:Z0}
def SW.below(h:Below n₀ A α)(hR:∀v xs,R v xs->R' v xs){m_:List (List j2)}(hs:SW n₀ A R sl m_):SW n₀ α R' sl m_:=by
 rcases hs with⟨hl,hs|⟨b,ay,cap,h1,h2,h3⟩⟩
 .exact⟨hl,.inl hs⟩
 .refine⟨hl,.inr ⟨b,ay,cap,h1,h2,λi xs hi=>?_⟩⟩;have⟨u0,u1,u2,u3,g0,g1,g2,g3,g4⟩:=h3 i xs hi;exact⟨u0,u1,u2,u3,(h.cell h2).trans g0,(h.cell h2).trans g1,(h.cell h2).trans g2,(h.cell h2).trans g3,hR _ _ g4⟩
def TW.below(h:Below n₀ A α):∀{d:Nat} {v:ZQ} {xs:List j2},TW n₀ A d v xs->TW n₀ α d v xs
 |0,_,_,ht=>ht
 |d+1,_,_,⟨k,n,s,a,l,c,h1,h2⟩=>⟨k,n,s,a,l,c,h1,h2.imp id λh2=>h2.imp id λ⟨hk,m_,h3,h4⟩=>⟨hk,m_,h3.below h λ_ _=>TW.below h,h4⟩⟩
variable{F:Fence}
def apN(hd:F.depth=ah)(k:Nat):F.room k:=λd h=>by grind
variable{P:V5}{R:Ending->Z0->Prop}{l m n:Nat}{w W':Z0}
def RoundIn.Lp(hd:F.depth=ah){m':Nat}{f:V4}{tmps:Array ZQ}{assign body:Code}
 (h:RoundIn F m P l f tmps assign body w R):RoundIn F m' P l f tmps assign body w R:=⟨h.1,λc cs _=>h.2 c cs (apN hd _)⟩
def YieldAt.Lp(hd:F.depth=ah)(m':Nat){av:Array ZQ}(h:YieldAt F m P l av W R):YieldAt F m' P l av W R:=by
 have⟨fn,tmps,assign,body,hy,hR⟩:=h;exact⟨fn,tmps,assign,body,hy,RoundIn.Lp hd hR⟩
set_option maxRecDepth 100000 in
set_option maxHeartbeats 2000000 in
def aox(F:Fence)(hd:F.depth=ah)(BZ:F.fn 246)(GN:F.fn 267)(fP:F.round=ah)(l n₀ N:Nat)(J Jx:List j2->Z0->Prop)
 (TV:∀pre W W',J pre W->W.grownBy W' ah->J pre W')
 (hY:∀m pre (x:j2) W,J pre W->pre.length<N->YieldAt F m Z2 l #[.int .i64 x.1] W λe W'=>
  (e=.returned (.bool ab)/\J (pre++[x]) W'/\Below n₀ W W')\/(e=.returned (.bool af)/\Jx (pre++[x]) W')):
 ∀(d n:Nat) (v:ZQ) (xs pre:List j2) (W:Z0),TW n₀ W d v xs->n₀<=W.heap.size->J pre W->pre.length+xs.length<=N->
  CallsIn F n Z2 246 #[v,.func (.yield l) #[] #[]] W λe W'=>
   (e=.returned (.bool ab)/\J (pre++xs) W'/\Below n₀ W W')\/(e=.returned (.bool af)/\∃q,q<+:xs/\Jx (pre++q) W'):=by
 have M9:∀k:Nat,(F.depth.isSome=ab->1<=k):=λk h=>by rw[hd]at h;cases h
 intro d;induction d with
 |zero=>intro n v xs pre W ht;exact ht.elim
 |succ d ih=>
  intro n v xs pre W ht hn hJ hN;obtain⟨k,m,s,a0,l0,c0,rfl,hxk⟩:=ht;obtain⟨sl,Kk⟩:∃sl,sl=aJP a0 l0 c0:=⟨_,rfl⟩;rw[<-Kk]at hxk⊢;clear Kk a0 l0 c0;refine callsIn_of_wp Tryz.func246 rfl BZ ?_ fP;simp only[Tryz.ntmps246,Xy,Zx,YG,Yk,XB,Ug,PX,DX,P5,Qy,T7];have cC:=TV pre W (W.alloc (.cells #[.int .i64 k,.int .i64 m,.string s,sl] 106)) hJ (Zg W _ ah);rcases hxk with⟨hk,hmw,rfl⟩|hxk
  .subst hk;simp only[List.length_singleton]at hN⊢;obtain⟨fn,tmps,assign,body,hy,hR⟩:=hY (n- 1) pre ⟨m,hmw⟩ _ cC (by omega)
   gi_wp2_with ((try exists M9 _);refine hR.mono ?_;clear hR;rintro e W2 (⟨rfl,gD,fD⟩|⟨rfl,xG⟩))
   .go_ret
    exact .inl ⟨rfl,gD,((S4 n₀ W).alloc hn _).trans fD⟩
   .go_ret
    exact .inr ⟨rfl,_,⟨[],Z_ _⟩,xG⟩
  .have hk:k≠1:=by
    rcases hxk with⟨h,_⟩|⟨h,_⟩
    .exact h
    .omega
   obtain⟨r,hr⟩:∃r,r=if k=2 then sl else aJP ah 0 0:=⟨_,rfl⟩
   obtain⟨us,hrs,pA⟩:∃us:List (List j2),SW n₀ W (TW n₀ W d) r us/\us.flatten=xs:=by
    rcases hxk with⟨_,h2,rfl⟩|⟨h2,m_,hs,rfl⟩
    .exact⟨[],by rw[hr,if_neg h2];exact⟨by simp,.inl ⟨rfl,ah,0,rfl⟩⟩,rfl⟩
    .exact⟨m_,by rw[hr,if_pos h2];exact hs,rfl⟩
   rw[<-pA]at hN⊢;have hH:Hid (r=if k=2 then sl else aJP ah 0 0):=hr;clear pA hr hxk;rcases hrs with⟨Kg,⟨rfl,a,cap,rfl⟩|⟨b,ay,cap,rfl,J4,zB⟩⟩
   .gi_wp2_with (first
     |((try exists M9 _);gi_at_call 267;refine(abe F _ GN fP k m s sl _ hH.out _).mono ?_;rintro e w' ⟨rfl,rfl⟩))
    gi_loopw [17] (λp wr=>p=.int .i64 0/\J pre wr/\Below n₀ W wr) λ_ _=>0
    case atStart=>exact⟨rfl,TV _ _ _ cC (Zg _ _ ah),((S4 n₀ W).alloc hn _).alloc (by simp;omega) _⟩
    case round=>
     obtain⟨rfl,F1,xS⟩:=hrel
     gi_wp2
     go_ret
     exact .inl ⟨rfl,by simpa using F1,xS⟩
   .gi_wp2_with (first
     |((try exists M9 _);gi_at_call 267;refine(abe F _ GN fP k m s sl _ hH.out _).mono ?_;rintro e w' ⟨rfl,rfl⟩))
    gi_loopw [17] (λp wr=>∃i:Nat,p=.int .i64 i/\i<=us.length/\J (pre++(us.take i).flatten) wr/\Below n₀ W wr) λp _=>us.length-(intOf p).toNat
    case atStart=>exact⟨0,rfl,by omega,by simpa using TV _ _ _ cC (Zg _ _ ah),((S4 n₀ W).alloc hn _).alloc (by simp;omega) _⟩
    case round=>
     obtain⟨i,rfl,hi,F1,xS⟩:=hrel;by_cases aq:i<us.length
     .have jV:(i:Int)<(us.length:Int):=by omega
      obtain⟨u0,u1,u2,u3,g0,g1,g2,g3,g4⟩:=zB i us[i] (UN aq);have c0:wr.cell? ⟨b,ay+i*4,ah⟩=aa u0:=(xS.cell J4).trans g0;have c1:wr.cell? ⟨b,ay+i*4+1,ah⟩=aa u1:=(xS.cell J4).trans g1;have c2:wr.cell? ⟨b,ay+i*4+2,ah⟩=aa u2:=(xS.cell J4).trans g2;have c3:wr.cell? ⟨b,ay+i*4+3,ah⟩=aa u3:=(xS.cell J4).trans g3;obtain⟨k',n',s',a',l',c',he⟩:=g4.form;simp only[aJV,aJ7,Tg,and_true]at he;obtain⟨rfl,rfl,rfl,rfl⟩:=he;have cd:n₀<=wr.heap.size:=YE hn xS.size;have Qx:(us.take (i+1)).flatten=(us.take i).flatten++us[i]:=by rw[ZN aq,Uk];simp only[TM,aJf,Z_]
      have hle:(us.take i).flatten.length+us[i].length<=us.flatten.length:=by
       rw[<-UR,<-Qx]
       conv=>rhs;rw[<-JP (i+1) us,Uk,UR]
       omega
      have ihc:=ih (n- 1) _ us[i] (pre++(us.take i).flatten) (wr.alloc (.cells #[.int .i64 k',.int .i64 n',.string s',.slice a' l' c'] 106)) (g4.below (xS.alloc cd _)) (by simp;omega) (TV _ _ _ F1 (Zg _ _ ah)) (by rw[UR];omega);clear g4 zB;have nC:wrap64 ((i:Int)+1)=((i+1:Nat):Int):=wrap_small i (by omega)
      gi_wp2_with ((try exists M9 _);refine ihc.mono ?_;clear ihc;rintro e W3 (⟨rfl,yC,fq⟩|⟨rfl,q,hq,XH⟩))
      .go_roundw
       case rel=>exact⟨i+1,by first|rfl|rw[nC],aq,by rw[Qx,<-ZZ];exact yC,(xS.alloc cd _).trans fq⟩
       case measure=>first|exact MR _ _ aq|(rw[nC];exact MR _ _ aq)
      .go_ret
       obtain⟨t,ht⟩:=hq;refine .inr ⟨rfl,(us.take i).flatten++q,⟨t++(us.drop (i+1)).flatten,?_⟩,by rw[<-ZZ];exact XH⟩
       conv=>rhs;rw[<-JP (i+1) us,Uk,Qx,<-ht]
       simp[ZZ]
     .have jV:¬(i:Int)<(us.length:Int):=by omega
      gi_wp2
      go_ret
      have:us.take i=us:=Wg (by omega);exact .inl ⟨rfl,by rw[this]at F1;exact F1,xS⟩
set_option maxRecDepth 100000 in
set_option maxHeartbeats 2000000 in
def ajT(F:Fence)(hd:F.depth=ah)(zk:F.fn 245)(BZ:F.fn 246)(GN:F.fn 267)(fP:F.round=ah)(n d l Bn n₀:Nat)(sl:ZQ)(us:List (List j2))(J Jx:List j2->Z0->Prop)
 (TV:∀pre W W',J pre W->W.grownBy W' ah->J pre W')
 (hY:∀pre (x:j2) W,J pre W->pre.length<us.flatten.length->YieldAt F (n- 1) Z2 l #[.int .i64 x.1] W λe W'=>
  (e=.returned (.bool ab)/\J (pre++[x]) W'/\Below n₀ W W')\/(e=.returned (.bool af)/\Jx (pre++[x]) W'))
 (W:Z0)(hb:Bn<n₀)(hn:n₀<=W.heap.size)(hBn:W.cell? ⟨Bn,0,ah⟩=aa sl)(hL:SW n₀ W (TW n₀ W d) sl us)(h0:J [] W):
 CallsIn F n Z2 245 #[.func (.yield l) #[] #[],.pointer (aa ⟨Bn,0,ah⟩)] W λe W'=>(∃v,e=.returned v)/\
  ((∃ys,ys=us.flatten/\J ys W')\/(∃pre,pre<+:us.flatten/\Jx pre W')):=by
 have M9:∀k:Nat,(F.depth.isSome=ab->1<=k):=λk h=>by rw[hd]at h;cases h
 have hw:=aox F hd BZ GN fP l n₀ us.flatten.length J Jx TV (λm pre x W hj hl=>YieldAt.Lp hd m (hY pre x W hj hl)) d (n- 1);obtain⟨Kg,⟨rfl,a,cap,rfl⟩|⟨b,ay,cap,rfl,J4,zB⟩⟩:=hL
 .refine callsIn_of_wp aJI rfl zk ?_ fP;simp only[aKU,Xy,Zx,YG,Yk,XB,Ug,PX,DX,P5,Qy,T7]
  gi_wp2
  gi_loopw [6] (λp wr=>p=.int .i64 0/\J [] wr/\Below n₀ W wr) λ_ _=>0
  case atStart=>exact⟨rfl,h0,S4 n₀ W⟩
  case round=>
   obtain⟨rfl,F1,xS⟩:=hrel
   gi_wp2
   go_end0
   exact⟨⟨_,rfl⟩,.inl ⟨_,rfl,F1⟩⟩
 .refine callsIn_of_wp aJI rfl zk ?_ fP;simp only[aKU,Xy,Zx,YG,Yk,XB,Ug,PX,DX,P5,Qy,T7]
  gi_wp2
  gi_loopw [6] (λp wr=>∃i:Nat,p=.int .i64 i/\i<=us.length/\J (us.take i).flatten wr/\Below n₀ W wr) λp _=>us.length-(intOf p).toNat
  case atStart=>exact⟨0,rfl,by omega,by simpa using h0,S4 n₀ W⟩
  case round=>
   obtain⟨i,rfl,hi,F1,xS⟩:=hrel;have hBc:wr.cell? ⟨Bn,0,ah⟩=aa (.slice (aa ⟨b,ay,ah⟩) us.length cap):=(xS.cell hb).trans hBn;by_cases aq:i<us.length
   .have jV:(i:Int)<(us.length:Int):=by omega
    obtain⟨u0,u1,u2,u3,g0,g1,g2,g3,g4⟩:=zB i us[i] (UN aq);have c0:wr.cell? ⟨b,ay+i*4,ah⟩=aa u0:=(xS.cell J4).trans g0;have c1:wr.cell? ⟨b,ay+i*4+1,ah⟩=aa u1:=(xS.cell J4).trans g1;have c2:wr.cell? ⟨b,ay+i*4+2,ah⟩=aa u2:=(xS.cell J4).trans g2;have c3:wr.cell? ⟨b,ay+i*4+3,ah⟩=aa u3:=(xS.cell J4).trans g3;have Qx:(us.take (i+1)).flatten=(us.take i).flatten++us[i]:=by rw[ZN aq,Uk];simp only[TM,aJf,Z_]
    have hle:(us.take i).flatten.length+us[i].length<=us.flatten.length:=by
     rw[<-UR,<-Qx]
     conv=>rhs;rw[<-JP (i+1) us,Uk,UR]
     omega
    have ihc:=hw _ us[i] (us.take i).flatten wr (g4.below xS) (YE hn xS.size) F1 hle;obtain⟨k',n',s',a',l',c',he⟩:=g4.form;simp only[aJV,aJ7,Tg,and_true]at he;obtain⟨rfl,rfl,rfl,rfl⟩:=he;clear g4 zB hw;have nC:wrap64 ((i:Int)+1)=((i+1:Nat):Int):=wrap_small i (by omega)
    gi_wp2_with ((try exists M9 _);refine ihc.mono ?_;clear ihc;rintro e W3 (⟨rfl,yC,fq⟩|⟨rfl,q,hq,XH⟩))
    .go_roundw
     case rel=>exact⟨i+1,by first|rfl|rw[nC],aq,by rw[Qx];exact yC,xS.trans fq⟩
     case measure=>first|exact MR _ _ aq|(rw[nC];exact MR _ _ aq)
    .refine bodyPost_ret (results_none rfl _ _ _) rfl ?_;obtain⟨t,ht⟩:=hq;refine⟨⟨_,rfl⟩,.inr ⟨(us.take i).flatten++q,⟨t++(us.drop (i+1)).flatten,?_⟩,XH⟩⟩
     conv=>rhs;rw[<-JP (i+1) us,Uk,Qx,<-ht]
     simp[ZZ]
   .have jV:¬(i:Int)<(us.length:Int):=by omega
    gi_wp2
    go_end0
    have:us.take i=us:=Wg (by omega);rw[this]at F1
    first|exact F1|exact⟨⟨_,rfl⟩,.inl F1⟩|exact .inl F1|exact⟨⟨_,rfl⟩,.inl ⟨_,rfl,F1⟩⟩
def ael(F:Fence)(hd:F.depth=ah)(zk:F.fn 245)(BZ:F.fn 246)(GN:F.fn 267)(fP:F.round=ah)(n d Bn n₀:Nat)(sl:ZQ)(us:List (List j2))(w:Z0)(hb:Bn<n₀)(hn:n₀<=w.heap.size)
 (hc:w.cell? ⟨Bn,0,ah⟩=aa sl)(hL:SW n₀ w (TW n₀ w d) sl us):
 SeqStopsK F n Z2 245 #[.pointer (aa ⟨Bn,0,ah⟩)] (λx:j2=> #[P3 .i64 x.1]) (Below n₀) (λys=>ys=us.flatten) (λpre=>pre<+:us.flatten) us.flatten.length w:=λl J Jx W hW hJ _ hY h0=>
 ajT F hd zk BZ GN fP n d l Bn n₀ sl us J Jx (λpre A α hj hg=>hJ pre A α ah hj hg λr e=>by cases e) hY W hb (YE hn hW.size) ((hW.cell (p:=⟨Bn,0,ah⟩) (by grind)).trans hc) (hL.below (hW.mono hn) λ_ _=>TW.below (hW.mono hn)) h0
set_option maxHeartbeats 1000000 in
def Sk(F:Fence)(n:Nat)(h:F.fn 208)(fP:F.round=ah)(a:Option Addr)(ln cp:Nat)(w:Z0):
 CallsIn F n Z2 208 #[.slice a ln cp] w λe w'=>e=.returned (.func (.func 245) #[] #[.pointer (aa ⟨w.heap.size,0,ah⟩)])/\w'=w.alloc (.cells #[.slice a ln cp] 68):=by
 refine callsIn_of_wp Tryz.func208 rfl h ?_ fP;simp only[Tryz.ntmps208,Xy,Zx,YG,Yk,XB,Ug,PX,DX,P5,Qy,T7]
 gi_wp2
 go_ret
 exact⟨rfl,rfl⟩
section
attribute [local go_sem] Kh
def uq(l:List j2):List j2:=l.foldl (λax x=>if x∈ax then ax else ax++[x]) []
variable{x:j2}
def YD(pre:List j2)(h:x∈uq pre):uq (pre++[x])=uq pre:=by
 simp_all[uq]
def Sl(pre:List j2)(h:x∉uq pre):uq (pre++[x])=uq pre++[x]:=by
 simp_all[uq]
theorem aCu(x:j2):(Lit.int .i64 x.1).wf=ab:=by
 have⟨x,h1,h2⟩:=x;have e1:QY.min= -9223372036854775808:=by decide
 have e2:QY.max=9223372036854775807:=by decide
 simp[Lit.wf];omega
theorem Sn:∀(N:Nat) (l:List Int),l.Nodup->(∀x∈l,0<=x/\x<N)->l.length<=N
 |0,[],_,_=>by simp
 |0,x::l,_,h=>by have:=h x (by simp);omega
 |N+1,l,hn,h=>by
  have ih:=Sn N (l.erase (N:Int)) (hn.erase _) λx hx=>by
   grind
  grind
theorem ajU(pre:List j2):(uq pre).Nodup:=by
 have key:∀(l ax:List j2),ax.Nodup->(l.foldl (λax x=>if x∈ax then ax else ax++[x]) ax).Nodup:=by
  intro l;induction l with
  |nil=>simp
  |cons y l ih=>
   intro ax h;rw[Zv];refine ih _ ?_
   grind
 exact key pre [] (by simp)
theorem ajV(pre:List j2):(uq pre).length<=1048577:=by
 have hn:((uq pre).map (·.1)).Nodup:=XZ (λx:j2=>x.1) (λa b h he=>h (aKK he)) (ajU pre)
 have:=Sn 1048577 ((uq pre).map (·.1)) hn λx hx=>by
  grind
 grind
def F2{H:Type}(xs:List j2):DataW H:=xs.foldl (λD x=>D.put (.int .i64 x.1) (.lit (.bool ab))) (.map [])
def aGV{H:Type}(pre:List j2)(x:j2):F2 (H:=H) (pre++[x])=(F2 pre).put (.int .i64 x.1) (.lit (.bool ab)):=by simp[F2]
def aFY{H:Type}(xs:List j2):aJ8 (F2 (H:=H) xs):=by
 have key:∀(l:List j2) (D:DataW H),aJ8 D->aJ8 (l.foldl (λD x=>D.put (.int .i64 x.1) (.lit (.bool ab))) D):=by
  intro l;induction l with
  |nil=>simp
  |cons y l ih=>
   intro D h;rw[Zv];obtain⟨es,rfl⟩:=h;exact ih _ ⟨_,rfl⟩
 exact key xs _ ⟨[],rfl⟩
theorem Oy{H:Type}(x:j2):∀(n:Nat) (xs:List j2),xs.length=n->(F2 (H:=H) xs).atKey (.int .i64 x.1) (.lit (.bool af))=.lit (.bool (decide (x∈xs)))
 |0,xs,h=>by
  rw[Kp h];rfl
 |n+1,xs,h=>by
  rcases List.eq_nil_or_concat xs with rfl|⟨ys,y,rfl⟩
  .rfl
  .rw[List.concat_eq_append]at h⊢;rw[aGV];by_cases hxy:x=y
   .subst hxy;rw[Maps.atKey_put_same (aFY ys) (by simp[WideAt.IsKeyLit])];simp
   .rw[Maps.atKey_put_other λhe=>hxy (aKK (by grind)),Oy x n ys (by grind)]
    grind
section
variable{H:Type}(w:Z0)
theorem aF7{e:VK}(he:P.underlying e=aa .bool){v:ZQ}{c:Bool}{ps:List MemPlace}(h:plainElem (H:=H) P e v=aa (.lit (.bool c),ps)):v=.bool c:=by
 unfold plainElem at h
 grind
variable{Q:Exit->Act->Z0->Prop}
def aem{aE:List Oper}{a:Act}{o:Oper}{ao:Array Oper}{nF:Nat}(hg:o.guard=ah)(m x:Operand)(t:VK)(fU:o.op=Op.lookup t m x af)
 (k e:VK)(K:Maps.Keyed P k)(ht:P.underlying t=aa (.map k e))(he:P.underlying e=aa .bool)(hz:(zeroValue e).run P w=.ok (.bool af) w)(b n:Nat)(D:DataW H)
 (hm:a.eval m=.map (aa b))(mu:w.ownsMap P k (plainElem P e) b n D)(key:ZQ)(kl:Lit)(hx:a.eval x=key)(ye:keyOf P k key=aa kl)(c:Bool)(bx:D.atKey kl (.lit (.bool af))=.lit (.bool c))
 (hK:wpListIn F nF P ao Q aE (a.put o.dst (.bool c)) w):
 wpListIn F nF P ao Q (o::aE) a w:=by
 refine wpListIn_plain hg λK' hK'=>?_;have⟨v,ps,jU,hv⟩:=mu.lookup K ht hz (plainElem_bool he af) ye;rw[bx]at hv;obtain rfl:=aF7 he hv;refine⟨by simp[Oper.about,fU],?_⟩;rw[Oper.semAt_plain F _ _ (by grind)];simp[execOp,fU,hm,hx,jU];exact hK' _ _ hK
end
def aGj{H:Type}{k:VK}{R:ZQ->Option (DataW H×List MemPlace)}{b:Nat}{D:DataW H}(h:W.ownsMap P k R b n D)(hb:W'.heap[b]?=W.heap[b]?):W'.ownsMap P k R b n D:=by
 have⟨es,clock,h1,h2⟩:=h;exact⟨es,clock,hb.trans h1,h2⟩
def ayH:(Z2.info? 3).map (λi=>(i.zero,i.size,i.bytes))=aa (aa (.int .i64 0),1,8):=by kernel_rfl
set_option maxRecDepth 100000 in
set_option maxHeartbeats 4000000 in
theorem aoy(F:Fence)(hd:F.depth=ah)(n:Nat)(uN:F.fn 207)(zk:F.fn 245)(BZ:F.fn 246)(GN:F.fn 267)(fP:F.round=ah)(d Bn:Nat)(sl:ZQ)(us:List (List j2))(w:Z0)(hb:Bn<w.heap.size)
 (hc:w.cell? ⟨Bn,0,ah⟩=aa sl)(hL:SW w.heap.size w (TW w.heap.size w d) sl us):
 CallsIn F (n+3) Z2 207 #[.func (.func 245) #[] #[.pointer (aa ⟨Bn,0,ah⟩)]] w λe W'=>∃v,e=.returned v/\W'.ownsRow w.heap.size 3 1 v (uq us.flatten).length ((uq us.flatten).map λx=>P3 .i64 x.1)/\(v=.slice ah 0 0↔uq us.flatten=[])/\Below w.heap.size w W':=by
 have h1:1<=n+3:=by omega
 obtain⟨i0,hi,v8,xO,Hp⟩:=info_parts ayH;have hmm:= @run_makeMap Z2;refine callsIn_of_wp_marks Tryz.func207 rfl uN ?_ fP;simp only[Tryz.ntmps207,Xy,Zx,YG,Yk,XB,Ug,PX,DX,P5,Qy,T7]
 gi_wp2
 have bO0:=aKj w 29 (.slice ah 0 0);have JM:=World.ownsMap_made (w.alloc (.cells #[.slice ah 0 0] 29)) Z2 3 (plainElem (H:=Unit) Z2 4);have bS0:=aKj ((w.alloc (.cells #[.slice ah 0 0] 29)).alloc (.map #[] 0)) 235 (.map (aa (w.heap.size+1)));simp only[aKk]at JM bS0;have Hb:Below w.heap.size w (((w.alloc (.cells #[.slice ah 0 0] 29)).alloc (.map #[] 0)).alloc (.cells #[.map (aa (w.heap.size+1))] 235)):=(((S4 _ w).alloc (XS _) _).alloc (by simp) _).alloc (by simp;omega) _
 refine wpIn_rangeFunc_ownG fP h1 (gf:=245) (lb:= #[.pointer (aa ⟨Bn,0,ah⟩)]) rfl zk (enters_of aJI (by kernel_rfl) rfl)
  (ael F hd zk BZ GN fP _ d Bn w.heap.size sl us _ hb (by simp;omega) ((Hb.cell (p:=⟨Bn,0,ah⟩) hb).trans hc) (hL.below Hb λ_ _=>TW.below Hb)) belowK_t (belowK_b (by simp;omega)) (S4 _ _) (λ_=>rfl)
  (λpre W=>((∃v,Boxed W w.heap.size 29 v/\W.ownsRow w.heap.size 3 1 v (uq pre).length ((uq pre).map λx=>P3 .i64 x.1)/\(v=.slice ah 0 0↔uq pre=[]))/\
   (Boxed W (w.heap.size+1+1) 235 (.map (aa (w.heap.size+1)))/\W.ownsMap Z2 3 (plainElem (H:=Unit) Z2 4) (w.heap.size+1) (uq pre).length (F2 (uq pre))))/\Below w.heap.size w W)
  (λ_ _ _=>False)
  (aKL (aKL (Own.from (holdsRow_own w.heap.size w.heap.size 29 3 1 (λpre=>(uq pre).length) (λpre=>(uq pre).map λx=>P3 .i64 x.1) (λpre v=>v=.slice ah 0 0↔uq pre=[])) _)
   (λs A α row hs hg hr=>⟨hs.1.kept hg (λe=>by have:=(hr _ e.symm).1;simp at this;omega),hs.2.kept hg (λe=>by have:=(hr _ e.symm).1;simp at this;omega)⟩)) (ownFrom_below (XS _) (by simp;omega)))
  (λ_ _ _ _ _ hs _ _=>hs)
  ⟨⟨⟨_,(bO0.alloc _).alloc _,World.ownsRow_nil _ _ _ _,by simp[uq]⟩,⟨bS0,JM.alloc _⟩⟩,Hb⟩
  (λx=>{tmps:= #[.func (.func 245) #[] #[.pointer (aa ⟨Bn,0,ah⟩)],undef,.slice ah 0 0,.pointer (aa ⟨w.heap.size,0,ah⟩),.pointer (aa ⟨w.heap.size+1+1,0,ah⟩),.int .i64 x.1,.map (aa (w.heap.size+1)),.func (.func 245) #[] #[.pointer (aa ⟨Bn,0,ah⟩)],.int .i64 x.1,undef,undef,undef,undef,undef,undef,undef,undef,undef,undef,undef],defers:=[]}) ?assign ?body ?doneZQ ?stop
 case assign=>
  intro l x W K hK
  gi_wp2
  exact hK
 case body=>
  rintro l pre x W ⟨⟨⟨v,hv,pG,DL⟩,kX,mu⟩,hB⟩ aq;have cD:=kX.cell;have ye:=Maps.keyOf_int_mk Up (aCu x);have iv:=ajV pre;have cd:w.heap.size<=W.heap.size:=hB.size;by_cases hx:x∈uq pre
  .have bx:(F2 (H:=Unit) (uq pre)).atKey (.int .i64 x.1) (.lit (.bool af))=.lit (.bool ab):=by rw[Oy x _ _ rfl];simp[hx]
   gi_wp2_with (gi_at_lookup;refine aem _ rfl _ _ 235 rfl 3 4 (aJt Up) aI6 aJg (aKz _) (w.heap.size+1) (uq pre).length _ rfl mu _ _ rfl ye ab bx ?_)
   exact⟨aLm _ _,S4 _ _,⟨⟨v,hv,by rw[YD pre hx];exact pG,by rw[YD pre hx];exact DL⟩,kX,by rw[YD pre hx];exact mu⟩,hB⟩
  .have bx:(F2 (H:=Unit) (uq pre)).atKey (.int .i64 x.1) (.lit (.bool af))=.lit (.bool af):=by rw[Oy x _ _ rfl];simp[hx]
   have G5:2000000<=maxLen:=by decide
   have hum:(uq pre).length<maxLen:=by omega
   have aCv:(uq pre).length+1<=maxLen:=by omega
   have hub:((uq pre).length+1)*8<=140737488355328:=by omega
   gi_wp2_with (first
    |(gi_at_lookup;refine aem _ rfl _ _ 235 rfl 3 4 (aJt Up) aI6 aJg (aKz _) (w.heap.size+1) (uq pre).length _ rfl mu _ _ rfl ye af bx ?_)
    |(gi_at_mapUpdate;refine wpListIn_mapUpdate_own _ rfl _ _ _ 235 rfl 3 4 (aJt Up) aI6 _ (w.heap.size+1) (uq pre).length _ rfl mu hum _ _ _ rfl rfl ye _ [] (plainElem_bool aJg ab) ?_;intro w1 amj HA;
      obtain⟨v1,Np,aen,aFm⟩:=holdsRow_own (β:=Unit) w.heap.size w.heap.size 29 3 1 (λ_=>(uq pre).length) (λ_=>(uq pre).map λx=>P3 .i64 x.1) (λ_ v=>v=.slice ah 0 0↔uq pre=[]) () W w1 (aa (w.heap.size+1)) ⟨v,hv,pG,DL⟩ HA (λr e=>by cases e;obtain⟨es,ck,hh,_⟩:=mu;exact⟨_,hh,rfl⟩);
      have dz:=Np.cell;have asl:w.heap.size<=w1.heap.size:=YE cd HA.size)
    |(gi_at_builtin;refine wpListIn_append_own _ rfl _ _ 29 rfl w.heap.size 3 i0 (.int .i64 0) 1 8 Tryz.underlying29 hi v8 xO Hp rfl (by decide) _ _ _ rfl (aen.alloc _) ⟨w1.heap.size,0,ah⟩ 1 1 [.int .i64 x.1] rfl rfl (cell_one_new _ _ _) (by simp[Value.oneCell']) aCv hub (YE asl (by simp)) ?_;
      intro v' w2 O1 ag4 _;obtain⟨g',Oj,rfl⟩:=ownsRow_succ O1;obtain⟨hv2,hv3,hr3,wm,fq⟩:=Np.appended (by decide) aen asl (XS _) O1 ag4;have oT:=hv2.cell;have hf2:=hv2.frozen))
   have Ky:Boxed w1 (w.heap.size+1+1) 235 (.map (aa (w.heap.size+1))):=kX.kept HA (λe=>by simp at e);have aCw:Boxed w2 (w.heap.size+1+1) 235 (.map (aa (w.heap.size+1))):=(Ky.alloc _).kept ag4 (Ky.not_row (by decide) aen);have aCx:=aCw.other (B':=w.heap.size) (by omega) (.slice (aa ⟨g',0,ah⟩) ((uq pre).length+1) Oj);have PU:w1.heap[w.heap.size+1]?=_:=aIC (aIC amj)|>.1
   refine⟨(aLn HA (λj e=>by cases e;simp)).trans (wm.from _),((S4 _ W).grown HA cd (λk e=>by cases e;omega)).trans fq,
    ⟨⟨_,hv3,by rw[Sl pre hx];simpa using hr3,by rw[Sl pre hx];simp⟩,aCx,?_⟩,(hB.grown HA cd (λk e=>by cases e;omega)).trans fq⟩
   rw[Sl pre hx,aGV,UR];exact aGj amj ((wm.same _ _ PU rfl).trans PU.symm)
 case doneZQ=>
  rintro D ys W hD rfl ⟨⟨⟨v,hv,pG,DL⟩,kX,mu⟩,hB⟩ hK;have hc:=hv.cell
  gi_wp2
  refine⟨by simp,.inl ⟨_,_,rfl,run_takeDeferred hK,?_⟩⟩;exact⟨_,results_tmp rfl _ _ _,v,rfl,ownsRow_putObj pG _ hK rfl,DL,hB.trans (belowK_b (w:=w) (XS _) W D _ _ (by simp at hD;omega) hK rfl rfl)⟩
 case stop=>
  rintro D c pre W _ _ h _;exact h.elim
end
attribute [local go_sem] Kh
def gN:Tm->aj Int
 |.mk k n _ ts=>if k=1 then[n]else if k=2 then Vw ts else[]
where Vw:aj Tm->aj Int
 |[]=>[]
 |t::ts=>gN t++Vw ts
def Jq:∀l:aj Tm,gN.Vw l=(l.map gN).flatten
 |[]=>rfl
 |t::l=>by simp[gN.Vw,Jq l]
variable{Z:Ev.Io}{u v:ZQ}
def i_(h:Ev.Rv Z (.raw v) u):u=v:=by cases h;rfl
variable{a c:Ev.IV}{s:Nat}
def aoz{b d:Ev.IV}(h:Ev.Rv Z (.agg [a,b,c,d]) v):∃x y z u,v=.agg #[x,y,z,u]/\Ev.Rv Z a x/\Ev.Rv Z b y/\Ev.Rv Z c z/\Ev.Rv Z d u:=by
 cases h with
 |agg _ vs hl hh=>
  match vs,hl,hh with
  |[x,y,z,u],_,hh=>exact⟨x,y,z,u,rfl,hh 0 _ _ rfl rfl,hh 1 _ _ rfl rfl,hh 2 _ _ rfl rfl,hh 3 _ _ rfl rfl⟩
def aoA{b:Ev.IV}(h:Ev.Rv Z (.agg [a,b]) v):∃x y,v=.agg #[x,y]/\Ev.Rv Z a x/\Ev.Rv Z b y:=by
 cases h with
 |agg _ vs hl hh=>
  match vs,hl,hh with
  |[x,y],_,hh=>exact⟨x,y,rfl,hh 0 _ _ rfl rfl,hh 1 _ _ rfl rfl⟩
def aoB{b:Ev.IV}(h:Ev.Rv Z (.agg [a,b,c]) v):∃x y z,v=.agg #[x,y,z]/\Ev.Rv Z a x/\Ev.Rv Z b y/\Ev.Rv Z c z:=by
 cases h with
 |agg _ vs hl hh=>
  match vs,hl,hh with
  |[x,y,z],_,hh=>exact⟨x,y,z,rfl,hh 0 _ _ rfl rfl,hh 1 _ _ rfl rfl,hh 2 _ _ rfl rfl⟩
def Oz{es:aj Ev.IV}(h:Ev.Rv Z (.tree s es) v):∃a l c,v=.slice a l c:=by
 cases h with
 |tree=>simp
 |fL=>simp
variable{M:Ev.Fz}{n₁:Nat}
def aeo(hM:Ev.zz M w):∀(d:Nat) (t:Tm) (v:ZQ),Yi t<=d->oM t->eH t->Ev.Rv (Ev.ll M) (eo t) v->∃xs,TW w.heap.size w d v xs/\xs.map (·.1)=gN t:=by
 intro d;induction d with
 |zero=>intro t v h;have⟨k,n,s,ts⟩:=t;grind
 |succ d ih=>
  rintro⟨k,n,s,ts⟩ v hd hn hf hr;rw[Ag]at hr;obtain⟨x,y,z,u,rfl,h1,h2,h3,h4⟩:=aoz hr;obtain rfl:=i_ h1;obtain rfl:=i_ h2;obtain rfl:=i_ h3;obtain⟨a,l,c,rfl⟩:=Oz h4;have⟨_,F3,c7⟩:=(rB _).1 hn;have⟨hf1,hf2⟩:=(FV _).1 hf;simp only[Tm.k,Tm.n,Tm.ts]at F3 c7 hf1 hf2;by_cases lO:k=1
  .exact⟨[⟨n,hf1 lO⟩],⟨k,n,_,a,l,c,rfl,.inl ⟨lO,hf1 lO,rfl⟩⟩,by simp[gN,lO]⟩
  by_cases q8:k=2
  rotate_left
  .exact⟨[],⟨k,n,_,a,l,c,rfl,.inr (.inl ⟨lO,q8,rfl⟩)⟩,by simp[gN,lO,q8]⟩
  have⟨m_,hs,hv⟩:∃m_,SW w.heap.size w (TW w.heap.size w d) (.slice a l c) m_/\m_.map (λxs=>xs.map (·.1))=ts.map gN:=amk hM F3 h4 λt ht v hv=>by
   have:=Xf ht
   grind
  exists m_.flatten,⟨k,n,_,a,l,c,rfl,.inr (.inr ⟨q8,m_,hs,rfl⟩)⟩;rw[aKu];simp[gN,q8,Jq,hv]
where
 amk {M:Ev.Fz} {w:Z0} (hM:Ev.zz M w) {ts:aj Tm} {a:aF Addr} {l c:Nat} (F3:Sm ts) (h4:Ev.Rv (Ev.ll M) (iT ts) (.slice a l c)) {R:ZQ->aj j2->Prop} (ih:∀t∈ts,∀v,Ev.Rv (Ev.ll M) (eo t) v->∃xs,R v xs/\xs.map (·.1)=gN t):
  ∃m_,SW w.heap.size w R (.slice a l c) m_/\m_.map (λxs=>xs.map (·.1))=ts.map gN:=by
  have lX:∀(b ay k:Nat) (u:ZQ),Ev.ti M b (ay+k)=aa u->b<w.heap.size/\w.cell? ⟨b,ay+k,ah⟩=aa u:=by
   intro b ay k u h;unfold Ev.ti at h;cases hb:M b with
   |none=>grind
   |some cs=>
    rw[hb]at h;have⟨e,f,hh⟩:=hM b cs hb;exact⟨hM.lt hb,by simp_all[Ws]⟩
  obtain⟨es,q9⟩:∃es,es=ts.map eo:=⟨_,rfl⟩;have h4':Ev.Rv (Ev.ll M) (.tree 4 es) (.slice a l c):=by grind
  cases h4' with
  |fL _ _ _ hs hn=>
   have:ts=[]:=by simp_all
   subst this;exact⟨[],⟨az,.inl ⟨rfl,_,_,rfl⟩⟩,rfl⟩
  |tree _ _ b ay _ us hs hc cD hu hh=>
   subst q9;rcases Nat.eq_zero_or_pos ts.length with h0|s_
   .have:=Kp h0;subst this;exact⟨[],⟨az,.inl ⟨rfl,_,_,rfl⟩⟩,rfl⟩
   have zB:∀i (hi:i<ts.length),∃xs,R (.agg #[us (i*4),us (i*4+1),us (i*4+2),us (i*4+3)]) xs/\xs.map (·.1)=gN ts[i]:=by
    intro i hi;refine ih ts[i] (Z4 hi) _ ?_;have Ko:(ts.map eo)[i]?=aa (eo ts[i]):=by grind
    have A8:=λj c=>hh i (eo ts[i]) j c Ko;generalize ts[i]=t at A8;have⟨k,n,s,ts'⟩:=t;rw[Ag]at A8⊢;refine .agg _ [us (i*4),us (i*4+1),us (i*4+2),us (i*4+3)] rfl λj c v h1 h2=>?_;have:=A8 j c h1;have hj:j<4:=by grind
    match j,hj with
    |0,_=>grind
    |1,_=>grind
    |2,_=>grind
    |3,_=>grind
   have huk:∀k,k<ts.length*4->b<w.heap.size/\w.cell? ⟨b,ay+k,ah⟩=aa (us k):=λk hk=>lX b ay k _ (hu k (by grind));refine⟨List.ofFn λi:Fin ts.length=>aLo (zB i.1 i.2),⟨aI,.inr ⟨b,ay,_,by simp;rfl,(huk 0 (by omega)).1,λi xs hi=>?_⟩⟩,?_⟩
   .rw[List.getElem?_ofFn]at hi;split at hi
    .rename_i aq;simp only[ZY]at hi;subst hi;refine⟨_,_,_,_,(huk (i*4) (by omega)).2,?_,?_,?_,(aIC (zB i aq)).1⟩
     all_goals grind
    grind
   .refine List.ext_getElem (by simp) λi h1 h2=>?_
    grind
def OA{aH:Bool}{l:aj Int}(hM:Ev.zz M w)(hB:Below w.heap.size w W')(hr:W'.ownsRow w.heap.size 3 1 u l.length (l.map λx=>P3 .i64 x)):Ev.Q_ aH M w (Ev.iL l) u W':=by
 have Bb:=hB.block;refine⟨Ev.xk aH M w W',?_,?_,?_,?_,hB.os,hB.tape,hB.output,hB.size,Bb⟩
 .intro b c hb;unfold Ev.xk at hb;split at hb
  .rename_i aq;split at hb
   .cases hb
   .rw[Bb b aq];exact hM b c hb
  .split at hb
   .rename_i c' e f hh;cases hb;exact⟨e,f,hh⟩
   .cases hb
 .intro b c hb;unfold Ev.xk at hb;split at hb
  .split at hb
   .cases hb
   .rename_i hn;exact .inl ⟨by simpa using hn,hb⟩
  .exact .inr (by omega)
 .intro hn b c hb;have aq:=hM.lt hb;unfold Ev.xk;rw[aW aq,aY (by simp[hn])];exact hb
 .obtain⟨bf,⟨rfl,h0⟩|⟨g,cap,cur,rfl,hg,hh,mS,_,cd,Qx⟩⟩:=hr
  .have:=Kp h0;subst this;exact .fL 1 ah 0 (by omega) λ_=>rfl
  .by_cases hl:l=[]
   .subst hl;exact .fL 1 _ _ (by omega) (by simp)
   have dE:∀(k:Nat) (x:Int),l[k]?=aa x->cur[k]?=aa (P3 .i64 x):=by
    intro k x hk;have gR:=(Z5.1 hk).1;have:(cur.toList.take (l.length*1))[k]?=aa (P3 .i64 x):=by rw[Qx];simp[hk]
    rw[List.getElem?_take,aW (by omega)]at this;simpa using this
   have hcm:Ev.ti (Ev.xk aH M w W') g=λk=>cur[k]? :=by
    funext k;unfold Ev.ti Ev.xk;rw[aY (by omega),hh];rfl
   have:=Ev.Rv.tree (Z:=Ev.ll (Ev.xk aH M w W')) 1 (l.map Ev.iI) g 0 cap (λk=>(cur[k]?).getD ZL) (by omega) (by simpa using mS) λe he=>by obtain⟨x,_,rfl⟩:=Z6.1 he;rfl
    (λk hk=>by
     show Ev.ti (Ev.xk aH M w W') g (0+k)=_;rw[hcm];simp only[Ki,aLc]at hk;have:=dE k l[k] (UN hk);simp[this]) (λi e j c he hc=>by
     rw[Z7]at he;obtain⟨x,hx,rfl⟩:=Option.map_eq_some_iff.1 he
     have hj:j=0:=by
      have:=(Z5.1 hc).1;simp[Ev.aD]at this;exact this
     subst hj;simp[Ev.aD]at hc;subst hc;have:=dE i x hx;simp only[aLc,Nat.add_zero,this];exact .raw _)
   simpa using this
attribute [local go_sem] Kh
def SW.wide(h:n₀<=n₁){R R':ZQ->aj j2->Prop}(hR:∀v xs,R v xs->R' v xs)(hs:SW n₀ A R sl m_):SW n₁ A R' sl m_:=by
 rcases hs with⟨hl,hs|⟨b,ay,cap,h1,h2,h3⟩⟩
 .exact⟨hl,.inl hs⟩
 .refine⟨hl,.inr ⟨b,ay,cap,h1,ak,λi xs hi=>?_⟩⟩
  grind
def TW.wide(h:n₀<=n₁):∀{d:Nat} {v:ZQ} {xs:aj j2},TW n₀ A d v xs->TW n₁ A d v xs
 |0,_,_,ht=>ht
 |d+1,_,_,⟨k,n,s,a,l,c,h1,h2⟩=>⟨k,n,s,a,l,c,h1,h2.imp id λh2=>h2.imp id λ⟨hk,m_,h3,h4⟩=>⟨hk,m_,h3.wide h λ_ _=>TW.wide h,h4⟩⟩
def aG5{b b':Nat}{e:VK}{xs:aj ZQ}(h:b<=b')(hr:W.ownsRow b' e s v n xs):W.ownsRow b e s v n xs:=by
 obtain⟨h1,h2|⟨g,cap,cur,h2,h3,h4⟩⟩:=hr
 .exact⟨h1,.inl h2⟩
 .exact⟨h1,.inr ⟨g,cap,cur,h2,ak,h4⟩⟩
def Ew(l:aj Int):aj Int:=l.foldl (λax x=>if x∈ax then ax else ax++[x]) []
def asm(xs:aj j2):(uq xs).map (·.1)=Ew (xs.map (·.1)):=by
 have key:∀(l ax:aj j2),(l.foldl (λax x=>if x∈ax then ax else ax++[x]) ax).map (·.1)=(l.map (·.1)).foldl (λax x=>if x∈ax then ax else ax++[x]) (ax.map (·.1)):=by
  intro l;induction l with
  |nil=>simp
  |cons y l ih=>
   intro ax;rw[Zv,ih,ZM,Zv]
   congr 1
   have hm:y∈ax↔y.1∈ax.map (·.1):=by
    grind
   grind
 exact key xs []
def bg(ts:aj Tm):aj Int:=Ew (ts.map gN).flatten
variable{a:aF Addr}{c:Nat}{ts:aj Tm}{w2:Z0}
def abf{d:Nat}(n Bn:Nat)(hB:Below w.heap.size w w2)(ki:SW w2.heap.size w2 (TW w2.heap.size w2 d) (.slice a l c) m_)(hv:m_.map (λxs=>xs.map (·.1))=ts.map gN)(hb:Bn<w2.heap.size)
 (hc:w2.cell? ⟨Bn,0,ah⟩=aa (.slice a l c)):
 CallsIn Z9 n Z2 207 #[.func (.func 245) #[] #[.pointer (aa ⟨Bn,0,ah⟩)]] w2 λe W'=>∃v,e=.returned v/\W'.ownsRow w.heap.size 3 1 v (bg ts).length ((bg ts).map λx=>P3 .i64 x)/\Below w.heap.size w W':=by
 have fk:(uq m_.flatten).map (·.1)=bg ts:=by
  rw[asm,aKu,bg,hv]
 refine callsIn_wide.2 (callsIn_wide.1 ((aoy Z9 rfl 0 trivial trivial trivial trivial rfl d Bn _ m_ w2 hb hc ki).mono ?_));rintro e W' ⟨v,rfl,h1,_,h3⟩;refine⟨v,rfl,?_,hB.trans (h3.mono hB.size)⟩;rw[<-fk,Ya,Ki];exact aG5 hB.size h1
def aHq(hM:Ev.zz M w)(F3:Sm ts)(hn:∀t∈ts,oM t)(hf:∀t∈ts,eH t)(hr:Ev.Rv (Ev.ll M) (iT ts) (.slice a l c))(n Bn:Nat)(hB:Below w.heap.size w w2)(hb:Bn<w2.heap.size)
 (hc:w2.cell? ⟨Bn,0,ah⟩=aa (.slice a l c)):
 CallsIn Z9 n Z2 207 #[.func (.func 245) #[] #[.pointer (aa ⟨Bn,0,ah⟩)]] w2 λe W'=>∃v,e=.returned v/\W'.ownsRow w.heap.size 3 1 v (bg ts).length ((bg ts).map λx=>P3 .i64 x)/\Below w.heap.size w W':=by
 have⟨d,hd⟩:∃d,∀t∈ts,Yi t<=d:=⟨Yi ts,λt ht=>Nat.le_of_lt (Xf ht)⟩;have⟨m_,hs,hv⟩:=aeo.amk (R:=TW w.heap.size w d) hM F3 hr λt ht v hv=>aeo hM d t v (hd t ht) (hn t ht) (hf t ht) hv;exact abf n Bn hB ((hs.below hB λ_ _=>TW.below hB).wide hB.size λ_ _=>TW.wide hB.size) hv hb hc
def GO(W:Z0)(v:ZQ)(t:VK):(W.alloc (.cells #[v] t)).cell? ⟨W.heap.size,0,ah⟩=aa v:=(aKj W t v).cell
set_option maxRecDepth 100000 in
set_option maxHeartbeats 2000000 in
def aCy(aH:Bool)(s:aj UInt8)(F3:Sm ts)(hn:∀t∈ts,oM t)(hf:∀t∈ts,eH t):Ev.fe Z2 af aH 164 [.agg [Ev.iS s,iT ts]] (Ev.iL (bg ts)):=by
 intro M w us hM py;obtain⟨v,xF,rfl,h1,h2⟩:=py.A7;obtain rfl:=h2.of_nil;obtain⟨x,y,rfl,g1,g2⟩:=aoA h1;obtain rfl:=i_ g1;obtain⟨a,l,c,rfl⟩:=Oz g2;have XO:Below w.heap.size w ((w.alloc (.cells #[.string ⟨s.toArray⟩,.slice a l c] 99)).alloc (.cells #[.slice a l c] 68)):=((S4 _ w).alloc (XS _) _).alloc (by simp) _;have Nx:=aHq hM F3 hn hf g2 0 (w.heap.size+1) XO (by simp) (by have:=GO (w.alloc (.cells #[.string ⟨s.toArray⟩,.slice a l c] 99)) (.slice a l c) 68;simpa using this);clear g1 g2 h1 h2 py;refine callsIn_of_wp Tryz.func164 rfl trivial ?_ rfl;simp only[Tryz.ntmps164,Xy,Zx,YG,Yk,XB,Ug,PX,DX,P5,Qy,T7]
 gi_wp2_with (first
  |(exists trivial,rfl;refine(Sk Z9 _ trivial rfl a l c _).mono ?_;rintro e w' ⟨rfl,rfl⟩)
  |(exists trivial,rfl;refine Nx.mono ?_;clear Nx;rintro e W2 ⟨u,rfl,pG,hB⟩))
 go_ret
 exact⟨rfl,OA hM hB pG⟩
set_option maxRecDepth 100000 in
set_option maxHeartbeats 2000000 in
def aCz(aH:Bool)(op:Int)(s:aj UInt8)(F3:Sm ts)(hn:∀t∈ts,oM t)(hf:∀t∈ts,eH t):Ev.fe Z2 af aH 230 [.agg [Ev.iI op,Ev.iS s,iT ts]] (Ev.iL (bg ts)):=by
 intro M w us hM py;obtain⟨v,xF,rfl,h1,h2⟩:=py.A7;obtain rfl:=h2.of_nil;obtain⟨x,z,y,rfl,g1,g3,g2⟩:=aoB h1;obtain rfl:=i_ g1;obtain rfl:=i_ g3;obtain⟨a,l,c,rfl⟩:=Oz g2;have XO:Below w.heap.size w ((w.alloc (.cells #[.int .i64 op,.string ⟨s.toArray⟩,.slice a l c] 70)).alloc (.cells #[.slice a l c] 68)):=((S4 _ w).alloc (XS _) _).alloc (by simp) _;have Nx:=aHq hM F3 hn hf g2 0 (w.heap.size+1) XO (by simp) (by have:=GO (w.alloc (.cells #[.int .i64 op,.string ⟨s.toArray⟩,.slice a l c] 70)) (.slice a l c) 68;simpa using this);clear g1 g2 h1 h2 py;refine callsIn_of_wp Tryz.func230 rfl trivial ?_ rfl;simp only[Tryz.ntmps230,Xy,Zx,YG,Yk,XB,Ug,PX,DX,P5,Qy,T7]
 gi_wp2_with (first
  |(exists trivial,rfl;refine(Sk Z9 _ trivial rfl a l c _).mono ?_;rintro e w' ⟨rfl,rfl⟩)
  |(exists trivial,rfl;refine Nx.mono ?_;clear Nx;rintro e W2 ⟨u,rfl,pG,hB⟩))
 go_ret
 exact⟨rfl,OA hM hB pG⟩
set_option maxRecDepth 100000 in
set_option maxHeartbeats 2000000 in
def aCA(aH:Bool)(t:Tm)(hn:oM t)(hf:eH t):Ev.fe Z2 af aH 204 [eo t] (Ev.iL (bg [t])):=by
 intro M w us hM py;obtain⟨v,xF,rfl,h1,h2⟩:=py.A7;obtain rfl:=h2.of_nil;obtain⟨xs,htw,pA⟩:=aeo hM (Yi t) t v (XS _) hn hf h1;obtain⟨k,n,s,a,l,c,rfl⟩:=htw.form;have Hb:Below w.heap.size w (w.alloc (.cells #[.int .i64 k,.int .i64 n,.string s,.slice a l c] 106)):=(S4 _ w).alloc (XS _) _;have XO:Below w.heap.size w ((w.alloc (.cells #[.int .i64 k,.int .i64 n,.string s,.slice a l c] 106)).alloc (.cells #[.int .i64 k,.int .i64 n,.string s,.slice a l c] 106)):=Hb.alloc (by simp) _;have hB2:Below w.heap.size w (((w.alloc (.cells #[.int .i64 k,.int .i64 n,.string s,.slice a l c] 106)).alloc (.cells #[.int .i64 k,.int .i64 n,.string s,.slice a l c] 106)).alloc (.cells #[.slice (aa ⟨w.heap.size+1,0,ah⟩) 1 1] 68)):=XO.alloc eE _;have jk:=World.alloc_heap_new (w.alloc (.cells #[.int .i64 k,.int .i64 n,.string s,.slice a l c] 106)) (.cells #[.int .i64 k,.int .i64 n,.string s,.slice a l c] 106);rw[aKk]at jk;have aml:(((w.alloc (.cells #[.int .i64 k,.int .i64 n,.string s,.slice a l c] 106)).alloc (.cells #[.int .i64 k,.int .i64 n,.string s,.slice a l c] 106)).alloc (.cells #[.slice (aa ⟨w.heap.size+1,0,ah⟩) 1 1] 68)).heap[w.heap.size+1]?=aa (.cells #[.int .i64 k,.int .i64 n,.string s,.slice a l c] 106):=(Below.heap_alloc _ _ _ (by simp)).trans jk
 have Nx:=abf (ts:=[t]) (m_:=[xs]) (d:=Yi t) (a:=aa ⟨w.heap.size+1,0,ah⟩) (l:=1) (c:=1) 0 (w.heap.size+1+1) hB2
  ⟨az,.inr ⟨w.heap.size+1,0,1,rfl,az,λi ys hi=>by
   cases i with
   |succ i=>simp at hi
   |zero=>
    simp at hi;subst hi;refine⟨.int .i64 k,.int .i64 n,.string s,.slice a l c,?_,?_,?_,?_,(TW.below hB2 htw).wide hB2.size⟩
    all_goals (simp only[Ws];rw[aml];rfl)⟩⟩ (by simp only[ZM,Wk,pA]) (by simp) (by have:=GO ((w.alloc (.cells #[.int .i64 k,.int .i64 n,.string s,.slice a l c] 106)).alloc (.cells #[.int .i64 k,.int .i64 n,.string s,.slice a l c] 106)) (.slice (aa ⟨w.heap.size+1,0,ah⟩) 1 1) 68;simpa using this)
 clear jk aml h1 h2 py htw;refine callsIn_of_wp Tryz.func204 rfl trivial ?_ rfl;simp only[Tryz.ntmps204,Xy,Zx,YG,Yk,XB,Ug,PX,DX,P5,Qy,T7]
 gi_wp2_with (first
  |(exists trivial,rfl;refine(Sk Z9 _ trivial rfl _ 1 1 _).mono ?_;rintro e w' ⟨rfl,rfl⟩)
  |(exists trivial,rfl;refine Nx.mono ?_;clear Nx;rintro e W2 ⟨u,rfl,pG,hB⟩))
 go_ret
 exact⟨rfl,OA hM hB pG⟩
end Go.Proofs.YtabefplkfkfdfaaGreat
namespace Go.Proofs.YtabefplkfkfdfaaGreat
open Go Go.RowKit
open Go Go.Ev
def asn:aj Nat:=zh++[257,72,26,71,137,70,139,225,145,183,75,76,186,140,224,138,185,9,28,27,143,77,142,141,74,144,73,146,78,39,268,192,154,227,33,85,155,233,199,164,230,194,166,204,280]
def aso:aj Nat:=[]
def asp:aj Nat:=[201]
def asr:aj Nat:=[185,247,209,222000151,500195,500196]
def Vx(l:aj Hint):fz:=⟨asn,aso,asp,l++[⟨999999,0,0,[],[],[],[]⟩],asr⟩
def amm:au:=
 (yM 6 du (yW gL (Mw du gL) (.dec 7 (Mw du gL) fX) (GI 2 40 sf eh (pH 2 40 1 fN r9))))
def aCB:bG Z2 (Vx []) 33=amm:=kr
def ag5:au:=
 (yK bS .geq bS 5 (.nr (Di bS 12)) bJ)
def ayI:bG Z2 (Vx []) 199=ag5:=kr
def abg:au:=
 (kP (kq 162 bS bR (y9 (qy .geq bW 0) (wB (qy .geq bW 0)))))
def ass:jc Z2 (Vx []) 400 ab 95=abg:=kr
def aHp:au:=
 (y7 ko 2 dQ bS 2 3 (C9 2 (mY cT .neq cw cT Qm mM)) (wB fX))
def ag6:au:=
 (kP (fE dQ dU (Dj dQ dU Qm (.aQ dQ aHp))))
def ayJ:jc Z2 (Vx [aP 0 93 4 [13]]) 400 ab 93=ag6:=kr
def ag7:aj Nat:=zh++[257,72,26,71,137,70,139,225,145,183,75,76,186,140,224,138,185,9,28,27,143,77,142,141,74,144,73,146,78,39,268,192,154,227,33,85,155,233,199,164,230,194,166,204,280]
def ag8:aj Nat:=[151,190]
def ag9:aj Nat:=[201]
def ag_:aj Nat:=[185,247,209,222000151,500195,500196]
def amn(l:aj Hint):fz:=⟨ag7,ag8,ag9,l++[⟨999999,0,0,[],[],[],[]⟩,⟨999998,0,0,[],[],[],[]⟩],ag_⟩
def Vy(l:aj Hint):fz:=⟨ag7,ag8,ag9,l++[⟨999999,0,0,[],[],[],[]⟩],ag_⟩
def aIw:au:=
 (kg (p_ 2) 4 js 2 cw 4 2 6 (jO 164 (kM 6 6) eu (.rws eu) (pH 1 8 5 eu (fx 4 8))) (wT 5))
def aha:au:=
 (sg wL 1 dQ bS 1 (Dh cw aIw) r9)
def abh:au:=
 (CM dQ aha)
def ast:fM Z2 (Vy [aP 0 195 3 [3,10] [(0,0)],aP 0 195 6 [3,16] [(0,0)]]) 400 af 195=abh:=kr
def aG3:au:=
 (kg ko 3 gv 2 bW 3 2 4 (jO 164 (kM 4 4) cS (.sub 1 cS (kj 5) bB) (tP 3)) sa)
def ahb:au:=
 (sg ko 1 dQ bS 1 (y9 gv aG3) wG)
def abi:au:=
 (CM dQ ahb)
def asu:fM Z2 (amn [aP 0 195 3 [10],aP 0 195 6 [16]]) 400 ab 195=abi:=kr
def aHD:au:=
 (kg (p_ 2) 4 js 3 cw 4 3 6 (jO 230 (ft 6 6 6) eu (.rws eu) (pH 1 8 5 eu (fx 4 8))) (wT 5))
def ahc:au:=
 (sg wL 1 dQ bS 1 (Dh cw aHD) r9)
def abj:au:=
 (CM dQ ahc)
def asv:fM Z2 (Vy [aP 0 196 3 [3,10] [(0,0)],aP 0 196 6 [3,16] [(0,0)]]) 400 af 196=abj:=kr
def aGz:au:=
 (kg ko 3 gv 3 bW 3 3 4 (jO 230 (ft 4 4 4) cS (.sub 1 cS (kj 5) bB) (tP 3)) sa)
def ahd:au:=
 (sg ko 1 dQ bS 1 (y9 gv aGz) wG)
def abk:au:=
 (CM dQ ahd)
def asw:fM Z2 (amn [aP 0 196 3 [10],aP 0 196 6 [16]]) 400 ab 196=abk:=kr
def aoC:au:=
 (qP ko 3 dQ 2 bS 3 (Qc 2 4 .eql 82 (kT bR bW) (kM 4 4) (.nr (AQ 3)) nz) bJ)
def amo:au:=
 (kP (y9 dQ aoC))
def aCC:bG Z2 (Vy [aP 2 233012008 2 [8]]) 233=amo:=kr
def abl:au:=
 (kg CV 2 iA 2 jt 2 2 4 (kc 154 (lV 4) 5 cS (MJ (.i 7) 0 7) (oz .geq 4 1 (AE .leq yX 6 (fC (Di yX 6) (MJ (.i 9) 0 9) (yS 82 kO (kM 4 4) eY (.aQ (Qk g_) (fC (Qk g_) (MJ (.i 8) 0 8) (pf 82 kO (kM 4 4) fX (fx 2 7))))))) (MJ (.i 9) 0 9))) (fE du (Di du 40) (fC (Di du 40) (MJ (.i 6) 0 6) (.next 0 ko))))
def abm:au:=
 (kg ko 2 du 6 eh 2 6 3 (kq 155 jt (eB 3 3 3 3 3 3) (AY cT 38 cT (BV gV cT) mM)) (Qd bB))
def abn:au:=
 (.qH (nP 1069 (Mu 221) (fE iA (Di iA 30) (fC (Di iA 30) (MJ (.i 6) 0 6) (.aQ iA abl)))) 1 (rz .neq 38 1 bB (Hu (ow qQ 1)) (.aQ du abm)))
def aep:au:=
 (za abn)
def aCD:bG Z2 (Vy [aP 0 85 5 [15],aP 2 85010000 3 [13] [(2,0)],aP 0 85 1000008 [8]]) 85=aep:=kr
def aoD(l:aj Int)(x:Int):x∈Ew l↔x∈l:=by
 have key:∀(l ax:aj Int),x∈(l.foldl (λax x=>if x∈ax then ax else ax++[x]) ax)↔x∈ax\/x∈l:=by
  intro l;induction l with
  |nil=>simp
  |cons y l ih=>
   intro ax;rw[Zv,ih];split
   .rename_i h;constructor
    .rintro(h1|h1)
     .exact .inl h1
     .exact .inr (by simp[h1])
    .rintro(h1|h1)
     .exact .inl h1
     .rcases ZP.1 h1 with rfl|h1
      .exact .inl h
      .exact .inr h1
   .simp[or_assoc]
 simpa[Ew]using key l []
def ahe(l:aj Int):(Ew l).Nodup:=by
 have key:∀(l ax:aj Int),ax.Nodup->(l.foldl (λax x=>if x∈ax then ax else ax++[x]) ax).Nodup:=by
  intro l;induction l with
  |nil=>intro ax h;exact h
  |cons y l ih=>
   intro ax h;rw[Zv];refine ih _ ?_;split
   .exact h
   .rename_i hy;rw[List.nodup_append];exact⟨h,az,λa ha b hb=>by simp at hb;subst hb;exactλhe=>hy (he▸ha)⟩
 exact key l [] az
def aGE:∀(d:Nat) (t:Tm),Yi t<=d->eH t->∀x∈gN t,0<=x/\x<=1048576
 |0,.mk k n s ts,hd,_,_,_=>by simp at hd
 |d+1,.mk k n s ts,hd,h,x,hx=>by
  obtain⟨h1,h2⟩:=(FV _).1 h;simp only[Tm.k,Tm.n,Tm.ts]at h1 h2;unfold gN at hx;split at hx
  .simp at hx;subst hx;exact h1 ‹_›
  .split at hx
   .rw[Jq]at hx;obtain⟨l,hl,hx⟩:=aJh.1 hx;obtain⟨u,hu,rfl⟩:=Z6.1 hl;refine aGE d u ?_ (h2 ‹_› u hu) x hx;have:=Xf hu;simp at hd;omega
   .simp at hx
def Bz(t:Tm)(h:eH t):∀x∈gN t,0<=x/\x<=1048576:=aGE _ t (XS _) h
def aH_{ts:aj Tm}(hf:∀t∈ts,eH t):(bg ts).length<=1048577:=
 Sn 1048577 _ (ahe _) λx hx=>by
  rw[bg,aoD]at hx;obtain⟨l,hl,hx⟩:=aJh.1 hx;obtain⟨u,hu,rfl⟩:=Z6.1 hl;have:=Bz u (hf u hu) x hx;omega
def GP(a:At):Prop:=∀t∈a.ts,eH t
def GQ(g:Gl):Prop:=∀t∈g.ts,eH t
def c46(aH:Bool)(a:At)(h:vI a)(hf:GP a):CC 164 aH [.agg [iS a.s,iT a.ts]] (iL (bg a.ts)):=
 CC.plain (by rw[gk];decide) (aCy aH a.s h.2.1 h.2.2 hf) (Hx _) kr
def c87(aH:Bool)(g:Gl)(h:tR g)(hf:GQ g):CC 230 aH [.agg [iI g.op,iS g.s,iT g.ts]] (iL (bg g.ts)):=
 CC.plain (by rw[gk];decide) (aCz aH g.op g.s h.2.1 h.2.2 hf) (Hx _) kr
def c88(aH:Bool)(t:Tm)(h:oM t)(hf:eH t):CC 204 aH [eo t] (iL (bg [t])):=
 CC.plain (by rw[gk];decide) (aCA aH t h hf) (Hx _) kr
def Vz(l:aj Int)(n:Int)(hl:Sm l):CC 95 ab [iL l,iI n] (iB (l.contains n)):=by
 refine CC.of ass kr kr az az ?_;simp[abg,UU];exists _,aCf l n hl;have:=aHl n l 0;simp at this⊢;simp[aZ];exact this
def Ny(r:Rl)(h:r.aA.length+r.aC.length<=1000):CC 33 af [cy r] (db (r.aA++r.aC)):=by
 refine CC.of aCB kr kr (by simpa using fO r) az ?_;have h1:=MQ (a:=[]) (b:=r.aA) eE;have h2:=MQ h;have hw:QY.wrap ((r.aA.length:Int)+r.aC.length)=r.aA.length+r.aC.length:=eU ak ak;simp only[Qy,Wk]at h1;rw[bQ];simp[amm,UU,aw,hw,kS];exact⟨ak,_,h1,h2⟩
mutual
theorem aoE:∀t:Tm,fy t=ab->eH t
 |.mk k n s ts,h=>by
  rw[FV];simp only[Tm.k,Tm.n,Tm.ts];refine⟨λh1=>?_,λh2=>?_⟩
  .rw[Sa (by exact h1)]at h;simp only[Tm.n,VM]at h;exact⟨of_decide_eq_true h.1.1.1,of_decide_eq_true h.1.1.2⟩
  .rw[Sc (by exact h2),<-Dk]at h;simp only[VM]at h;exact OB ts h.2
theorem OB:∀l:aj Tm,Hy l=ab->∀u∈l,eH u
 |[],_=>by simp
 |t::l,h=>by
  simp only[Hy,VM]at h;intro u hu;rcases ZP.1 hu with hu|hu
  .rw[hu];exact aoE t h.1
  .exact OB l h.2 u hu
end
variable{l:aj Tm}{i:Nat}{aH:Bool}
def aG0(h:nW l=ab):∀u∈l,eH u:=by
 simp only[nW,VM,<-Dk]at h;exact OB l h.1.1
def vV(ax:aj Int)(x:Int):aj Int:=if x∈ax then ax else ax++[x]
def dY(l xs:aj Int):aj Int:=xs.foldl vV l
def Ey(xs:aj Int):dY [] xs=Ew xs:=rfl
def oN(l xs ys:aj Int):dY l (xs++ys)=dY (dY l xs) ys:=by simp[dY]
def Vr.dY{l xs:aj Int}(h:Vr l)(hx:∀x∈xs,0<=x/\x<=1048576):Vr (dY l xs):=by
 induction xs generalizing l with
 |nil=>exact h
 |cons x xs ih=>
  refine ih (l:=vV l x) ?_ λy hy=>hx y aI;unfold vV;split
  .exact h
  .exact h.snoc ak (hx x az)
def fm(l:aj Tm):aj Int:=(l.map gN).flatten
def Lr(h:i<l.length):fm (l.take (i+1))=fm (l.take i)++gN l[i]:=by
 unfold fm;rw[ZN h,Nj,Uk];simp
def aeq(h:∀t∈l,eH t):∀x∈fm l,0<=x/\x<=1048576:=λx hx=>by
 have⟨y,hy,hx⟩:=aJh.1 hx;obtain⟨u,hu,rfl⟩:=Z6.1 hy;exact Bz u (h u hu) x hx
def Ls{t:Tm}(h:t.k≠1):gN t=fm (cN t):=by
 have⟨k,n,s,ts⟩:=t;simp only[Tm.k]at h;simp only[gN,cN,Tm.k,Tm.ts,Jq,fm]
 grind
variable{cfg:fz}{dO:au}{f:V4}{n:Nat}{r:aj Int}
def CC.aCE{n:Nat}{aH:Bool}{f:V4}{dO:au}{cfg:fz}{l r:aj Int}{xs:aj IV}(he:DH Z2 cfg n 1 f=dO)(hl:(Z2.funcs[f]?).map (·.params.size)=aa (xs.length+1))(hn:noTwo dO=ab)
 (hs:dO.sat Z2 CC (Ai (·=r)) [] (iL l::xs)):CC (306+f) aH (iL l::xs) (iL r):=by
 obtain⟨_,rfl,h⟩:=CC.ar5 (·=r) he hl hn hs;exact h
def CC.w6{av:aj IV}(he:jc Z2 cfg n aH f=dO)(hl:(Z2.funcs[f]?).map (·.params.size)=aa av.length)(ht:∀z,pU Z2 f z=ab)(hp:∀x∈av,Pure x)(hn:noTwo dO=ab)
 (hs:StQ dO (Ai (·=r)) [] av):CC f aH av (iL r):=by
 obtain⟨_,rfl,h⟩:=CC.aCs (·=r) he hl ht hp hn hs;exact h
def ayK(t:Tm)(lD:Sm t.ts)(ht:eH t)(ih:∀u∈t.ts,eH u->∀l:aj Int,Vr l->CC 491 ab [iL l,eo u] (iL (dY l (gN u))))(l:aj Int)(hl:Vr l):
 CC 491 ab [iL l,eo t] (iL (dY l (gN t))):=by
 refine CC.aCE (f:=185) ayv kr cE ?_;have GM:=Wi t;have Cc:=hl.len;have eG:(cN t).length<=9223372036854775807:=by unfold cN;grind
 have hfa:∀u∈cN t,eH u:=λu hu=>agU ht hu;have iha:=λu hu=>ih u (rR hu) (hfa u hu);rw[bL]at GM⊢;have key:∀(m:aj Int),Vr m->∀(x:aj IV->aj IV) (K:aj (aj IV->Prop)),True:=λ_ _ _ _=>trivial
 have step:∀{m:aj Int} {i:Nat} {a:aj Int} (aq:i<(cN t).length),Vr a/\a=dY m (fm ((cN t).take i))->Vr (dY a (gN (cN t)[i]))/\dY a (gN (cN t)[i])=dY m (fm ((cN t).take (i+1))):=by
  rintro m i a aq ⟨h1,rfl⟩;exact⟨h1.dY (Bz _ (hfa _ (Z4 aq))),by rw[Lr aq,oN]⟩
 have fin:∀{m:aj Int} {i:Nat} {a:aj Int},¬i<(cN t).length->Vr a/\a=dY m (fm ((cN t).take i))->a=dY m (fm (cN t)):=by
  rintro m i a aq ⟨_,rfl⟩;rw[Wg ak]
 have l4:t.k≠1->StQ aIX (Ai (·=dY l (gN t))) [] [iL l,.agg [iI t.k,iI t.n,iS t.s,iT t.ts],iT (cN t)]:=by
  intro hk;rw[Ls hk];refine aJ (cN t).length (λi (a:aj Int)=>[iI i,iL a]) (λi a=>Vr a/\a=dY l (fm ((cN t).take i))) l ?_ ?_ λi a hi hI=>?_
  .rfl
  .exact⟨hl,rfl⟩
  by_cases aq:i<(cN t).length
  .have hw:=aS aq eG;have hb:=iha (cN t)[i] (Z4 aq) a hI.1;rw[bL]at hb;simp[UU,aq,hw,iJ aq,bL,aw,aZ,aD];exact⟨_,hb,_,az,ak,step aq hI⟩
  .simp[UU,aq];exact⟨_,⟨by simp[aD,aZ],rfl⟩,by grind [Sg]⟩
 have l2:cN t=[]->∀x:IV,StQ aeI (Ai (·=l)) [] [iL l,.agg [iI t.k,iI t.n,iS t.s,iT t.ts],x,iT (cN t)]:=by
  intro ha x;rw[ha];refine aJ 0 (λi (a:aj Int)=>[iI i,iL a]) (λi a=>a=l) l ?_ rfl λi a hi hI=>?_
  .rfl
  obtain rfl:i=0:=ak;simp[UU];subst a;exact⟨_,⟨by simp[aD,aZ],rfl⟩,az⟩
 have l1:cN t=[]->∀(x:IV) (m:aj Int),StQ aKA (Ai (·=m)) [] [iL l,.agg [iI t.k,iI t.n,iS t.s,iT t.ts],x,iL m,iT (cN t)]:=by
  intro ha x m;rw[ha];refine aJ 0 (λi (a:aj Int)=>[iI i,iL a]) (λi a=>a=m) m ?_ rfl λi a hi hI=>?_
  .rfl
  obtain rfl:i=0:=ak;simp[UU];subst a;exact⟨_,⟨by simp[aD,aZ],rfl⟩,az⟩
 have l0:StQ aJa (Ai (·=dY l (gN t))) [GL λvs=>∃b:Bool,vs=[iB b]/\(b=decide (t.n∈l))] [iL l,.agg [iI t.k,iI t.n,iS t.s,iT t.ts]]:=by
  refine gK l.length (λi (_:Unit)=>[iI i]) (λi _=>∀x∈l.take i,x≠t.n) () ?_ ?_ λi _ hi hI=>?_
  .rfl
  .simp
  by_cases aq:i<l.length
  .have hw:=aS aq ak;simp[UU,aq,hw,aD,GL];by_cases he:l[i]=t.n
   .grind
   .right;exact⟨he,ak,bN aq hI he⟩
  .have:=cb aq hI;simp[UU,aq,GL]
   grind
 simp[agT,UU,aw];by_cases k1:t.k=1
 .left;exists k1;have aCF:gN t=[t.n]:=by obtain⟨k,n,s,ts⟩:=t;simp_all[Tm.k,gN,k1,Tm.n]
  have cj:cN t=[]:=Se ak;rw[aCF]at l0⊢;refine jI (λvs=>∃b:Bool,vs=[iB b]/\(b=decide (t.n∈l))) l0 ?_;rintro vs ⟨b,rfl,hb⟩;exists rfl;simp[UU,aZ];have aCG:dY l [t.n]=vV l t.n:=rfl;rw[aCG];unfold vV;cases b with
  |true=>
   have hm:t.n∈l:=aI;rw[aW hm];right;exact⟨rfl,_,GM,az,l2 cj _⟩
  |false=>
   have hm:t.n∉l:=aI;rw[aY hm];left;refine⟨rfl,iL (l++[t.n]),?_,_,GM,az,l1 cj _ _⟩;simp[dG,aD];exact⟨rfl,ak,ak⟩
 .right;exact⟨k1,_,GM,az,l4 k1⟩
def Uw:∀t:Tm,sS t->eH t->∀l:aj Int,Vr l->CC 491 ab [iL l,eo t] (iL (dY l (gN t)))
 |.mk k n s ts,h,hf=>ayK _ ((vu _).1 h).1 hf λu hu=>Uw u (((vu _).1 h).2 u hu)
 decreasing_by simp[Tm.ts]at hu;have:=Xf hu;grind
variable{Q:IV->Prop}
def amp(ts:aj Tm)(lD:Sm ts)(hw:∀t∈ts,sS t/\eH t)(hQ:Q (iL (bg ts))):StQ Qq Q [] [iT ts]:=by
 simp[Qq,UU];refine aJ ts.length (λi (a:aj Int)=>[iI i,iL a]) (λi a=>Vr a/\a=dY [] (fm (ts.take i))) [] ?_ ⟨Vr.nil,rfl⟩ λi a hi hI=>?_
 .rfl
 by_cases aq:i<ts.length
 .have nC:=aS aq lD;have hf:=hw _ (Z4 aq);have hb:=Uw ts[i] hf.1 hf.2 a hI.1;rw[bL]at hb;simp[UU,aq,nC,iJ aq,bL,aw,aZ,aD];obtain⟨h1,rfl⟩:=hI;exact⟨_,hb,_,az,ak,h1.dY (Bz _ hf.2),by rw[Lr aq,oN]⟩
 .have⟨h1,h2⟩:=hI;rw[Wg ak]at h2;simp[UU,aq];subst a;exact hQ
def aCH(ts:aj Tm)(lD:Sm ts)(hw:∀t∈ts,sS t/\eH t):CC 140 af [iT ts] (iL (bg ts)):=
 CC.w6 ayn kr (λ_=>kr) az cE (amp ts lD hw az)
def amq(ts:aj Tm)(lD:Sm ts)(hw:∀t∈ts,sS t/\eH t):CC 140 ab [iT ts] (iL (bg ts)):=
 CC.w6 ar6 kr (λ_=>kr) az cE (amp ts lD hw az)
def v93(g:Gl)(lD:Sm g.ts)(hw:∀t∈g.ts,sS t/\eH t):CC 145 af [.agg [iI g.op,iS g.s,iT g.ts]] (iL (bg g.ts)):=by
 refine CC.w6 aCc kr (λ_=>kr) (by intro x hx;obtain rfl:=Z3.1 hx;exact FX g) cE ?_;have hb:=aCH g.ts lD hw;simp[al_,UU,aw];exact⟨_,hb,az⟩
def amr(ds:aj De)(s:aj UInt8)(n:Int):Prop:=∃d∈ds,d.s=s/\d.n=n
noncomputable def ie(ds:aj De)(s:aj UInt8)(n:Int):Bool:=ds.any λd=>d.s==s&&d.n==n
def BA(ds:aj De)(s:aj UInt8)(n:Int):ie ds s n=ab↔amr ds s n:=by simp[ie,amr]
variable{ds:aj De}{s:aj UInt8}{m:Nat}
def Jr{n:Int}(h:∀d∈ds,(d.s=s->¬d.n=n)):ie ds s n=af:=by
 cases hb:ie ds s n with
 |false=>rfl
 |true=>obtain⟨d,h1,h2⟩:=(BA _ _ _).1 hb;exact bH h2.2 (h d h1 h2.1)
def Lt{n:Int}{d:De}(hd:d∈ds)(h:d.s=s/\d.n=n):ie ds s n=ab:=(BA _ _ _).2 ⟨d,hd,h⟩
def v51(l:aj De)(s:aj UInt8)(n:Int)(hl:Sm l):CC 27 af [rC l,iS s,iI n] (iB (ie l s n)):=by
 refine CC.dB aB_ kr (λ_=>kr) az cE ?_;simp[al7,aa7,UU,aw];refine gK l.length (λi (_:Unit)=>[iI i]) (λi _=>∀d∈l.take i,(d.s=s->¬d.n=n)) () ?_ az λi _ hi hI=>?_
 .simp[UU]
 by_cases aq:i<l.length
 .have hw:=aS aq hl;have hs:=λh=>bN (p:=λd:De=>(d.s=s->¬d.n=n)) aq hI h;have hy:=Lt (Z4 aq) (s:=s) (n:=n);simp[UU,aq,hw,R_ aq,aw];by_cases h1:l[i].s=s
  .by_cases h2:l[i].n=n
   .simp[h1,h2];exact hy ⟨h1,h2⟩
   .simp[h1,h2];exact⟨ak,hs λ_ h=>h2 h⟩
  .simp[h1];exact⟨ak,hs λh=>bH h h1⟩
 .simp[UU,aq];exact Jr (cb aq hI)
def aCI(l:aj De)(s:aj UInt8)(n:Int)(hl:Sm l):CC 27 ab [rC l,iS s,iI n] (iB (ie l s n)):=by
 refine CC.dB ayD kr (λ_=>kr) az cE ?_;simp[agZ,aIv,UU,aw];refine gK l.length (λi (_:Unit)=>[iI i]) (λi _=>∀d∈l.take i,(d.s=s->¬d.n=n)) () ?_ az λi _ hi hI=>?_
 .simp[UU]
 by_cases aq:i<l.length
 .have hw:=aS aq hl;have hs:=λh=>bN (p:=λd:De=>(d.s=s->¬d.n=n)) aq hI h;have hy:=Lt (Z4 aq) (s:=s) (n:=n);simp[UU,aq,hw,R_ aq,aw,aZ];by_cases h1:l[i].s=s
  .by_cases h2:l[i].n=n
   .simp[h1,h2];exact hy ⟨h1,h2⟩
   .simp[h1,h2];exact⟨ak,hs λ_ h=>h2 h⟩
  .simp[h1];exact⟨ak,hs λh=>bH h h1⟩
 .simp[UU,aq,aZ];exact Jr (cb aq hI)
def asx(l:aj De)(s:aj UInt8)(n:Int)(hl:Sm l):∃b,(b=0↔ie l s n=ab)/\CC 141 af [rC l,iS s,iI n] (iI b):=by
 refine CC.Si _ ayp kr (λ_=>kr) az cE ?_;simp[agO,aIj,UU,aw];refine gK l.length (λi (a:Int)=>[iI i,iI a]) (λ_ a=>a≠0) 7 ?_ az λi a hi ha=>?_
 .simp[UU]
 by_cases aq:i<l.length
 .have hw:=aS aq hl;simp[UU,aq,hw,R_ aq,aw];by_cases h1:l[i].s=s
  .simp[h1];omega
  .simp[h1];omega
 .have hb:=v51 l s n hl;simp[UU,aq];exists _,hb;cases ie l s n<;>simp[ha]
def BB(ds:aj De)(gs:aj Gl):Prop:=∀g∈gs,g.op=0->ie ds g.s g.ts.length=ab
def v201(l:aj De)(g:aj Gl)(hl:Sm l)(hg:Sm g):∃b,(b=0↔BB l g)/\CC 142 af [rC l,gw g] (iI b):=by
 refine CC.Si _ ayq kr (λ_=>kr) az cE ?_;simp[agP,aIe,UU,aw];refine gK g.length (λi (_:Unit)=>[iI i]) (λi _=>∀x∈g.take i,x.op=0->ie l x.s x.ts.length=ab) () ?_ az λi a hi hI=>?_
 .simp[UU]
 by_cases aq:i<g.length
 .have hw:=aS aq hg;obtain⟨b,hz,hb⟩:=asx l g[i].s g[i].ts.length hl;have hs:=λh=>bN (p:=λx:Gl=>x.op=0->ie l x.s x.ts.length=ab) aq hI h;simp[UU,aq,hw,sj aq,aw];by_cases h1:g[i].op=0
  .right;exists h1,_,hb;simp[hw];by_cases h2:b=0
   .right;exact⟨h2,ak,hs λ_=>hz.1 h2⟩
   .left;exact⟨h2,by simp[h2];exactλh=>h2 (hz.2 (h _ (Z4 aq) h1))⟩
  .left;exact⟨h1,ak,hs λh=>bH h h1⟩
 .simp[UU,aq];exact cb aq hI
def mz(n:Int):Bool:=decide (5<=n)&&decide (n<=12)
def asy(n:Int):CC 143 af [iI n] (iB (mz n)):=by
 refine CC.dB ayr kr (λ_=>kr) az cE ?_;simp[agQ,UU,aw,mz];omega
def aCJ(l:aj Int)(n:Int)(hl:Sm l):CC 146 af [iL l,iI n] (iB (decide (n∈l))):=by
 refine CC.dB ayt kr (λ_=>kr) az cE ?_;simp[agS,aHQ,UU,aw];refine gK l.length (λi (_:Unit)=>[iI i]) (λi _=>∀x∈l.take i,x≠n) () ?_ az λi _ hi hI=>?_
 .simp[UU]
 by_cases aq:i<l.length
 .have hw:=aS aq hl;simp[UU,aq,hw];by_cases h1:l[i]=n
  .left;exact⟨h1,h1▸Z4 aq⟩
  .right;exact⟨h1,ak,bN aq hI h1⟩
 .have:=cb aq hI;simp[UU,aq];exactλh=>this _ h rfl
def eq4(d:Nat)(a b:Bool):a_ Z2 (NI (d+1) 4 (.bool a) (.bool b))=aa (a==b):=by
 rw[NI,bw,Go.Ev.run_underlying X8,Z8];rfl
def asz(d:Nat)(x y z x' y' z':ZQ)(b1 b2 b3:Bool)(h1:a_ Z2 (NI (d+1) 3 x x')=aa b1)(h2:a_ Z2 (NI (d+1) 3 y y')=aa b2)(h3:a_ Z2 (NI (d+1) 4 z z')=aa b3):
 a_ Z2 (NI (d+2) 28 (.agg #[x,y,z]) (.agg #[x',y',z']))=aa (b1&&b2&&b3):=by
 rw[NI,bw,Go.Ev.run_underlying Tryz.underlying28,Z8];have bI:Z2.stoodInHeld 28=af:=by kernel_rfl
 have p1:∀(a b c:ZQ),a_ Z2 (part 3 #[a,b,c] 0)=aa a:=λa b c=>by kernel_rfl
 have p2:∀(a b c:ZQ),a_ Z2 (part 3 #[a,b,c] 1)=aa b:=λa b c=>by kernel_rfl
 have p3:∀(a b c:ZQ),a_ Z2 (part 4 #[a,b,c] 2)=aa c:=λa b c=>by kernel_rfl
 have hp:a_ Z2 program=aa Z2:=rfl;rw[bw,hp,Z8,bI];have q:∀{B:Type} (a:B),a_ Z2 (pure a)=aa a:=λ_=>rfl;simp only[W8,if_false,<-aJZ,P2,aKJ,bw,ne_eq,aKi,not_false_eq_true,if_true,p1,p2,p3,Z8,h1,h2,h3];cases b1
 .rfl
 .simp only[YI,W8,if_false,q,Z8,bw,p2,p3,h2,h3];cases b2
  .rfl
  .simp only[YI,W8,if_false,q,Z8,bw,p3,h3];cases b3<;>rfl
def asA(P:V5)(t:VK)(a b c a' b' c':ZQ)(r:Bool)(hg:a_ P (eqGuard .eql t (.func 0) (.func 0) (.agg #[a,b,c]) (.agg #[a',b',c']))=aa ())(h:a_ P (We t (.agg #[a,b,c]) (.agg #[a',b',c']))=aa r):
 dN P .eql t (.agg [.raw a,.raw b,.raw c]) (.agg [.raw a',.raw b',.raw c'])=aa (iB r):=by
 show(a_ P (do eqGuard .eql t (.func 0) (.func 0) (.agg #[a,b,c]) (.agg #[a',b',c']);Kd .eql t (.agg #[a,b,c]) (.agg #[a',b',c']))).map lift=_;rw[bw,hg];show(a_ P (do pure (.bool (<-We t (.agg #[a,b,c]) (.agg #[a',b',c']))))).map lift=_;rw[bw,h];rfl
@[simp] theorem aFn(a b a' b':Int)(c c':Bool):dN Z2 .eql 28 (.agg [iI a,iI b,iB c]) (.agg [iI a',iI b',iB c'])=aa (iB (a==a'&&b==b'&&c==c')):=by
  refine asA _ _ _ _ _ _ _ _ _ kr ?_;exact asz 9998 _ _ _ _ _ _ _ _ _ (Nw _ _ _) (Nw _ _ _) (eq4 _ _ _)
def aoF(P:V5)(t:VK)(a b c a' b' c':ZQ)(r:Bool)(hg:a_ P (eqGuard .neq t (.func 0) (.func 0) (.agg #[a,b,c]) (.agg #[a',b',c']))=aa ())(h:a_ P (We t (.agg #[a,b,c]) (.agg #[a',b',c']))=aa r):
 dN P .neq t (.agg [.raw a,.raw b,.raw c]) (.agg [.raw a',.raw b',.raw c'])=aa (iB (!r)):=by
 show(a_ P (do eqGuard .neq t (.func 0) (.func 0) (.agg #[a,b,c]) (.agg #[a',b',c']);Kd .neq t (.agg #[a,b,c]) (.agg #[a',b',c']))).map lift=_;rw[bw,hg];show(a_ P (do pure (.bool !(<-We t (.agg #[a,b,c]) (.agg #[a',b',c']))))).map lift=_;rw[bw,h];rfl
@[simp] theorem aEM(a b a' b':Int)(c c':Bool):dN Z2 .neq 28 (.agg [iI a,iI b,iB c]) (.agg [iI a',iI b',iB c'])=aa (iB (!(a==a'&&b==b'&&c==c'))):=by
  refine aoF _ _ _ _ _ _ _ _ _ kr ?_;exact asz 9998 _ _ _ _ _ _ _ _ _ (Nw _ _ _) (Nw _ _ _) (eq4 _ _ _)
def asB(l:aj Int)(n:Int)(hl:Sm l):CC 105 af [iL l,iI n] (iB (decide (n∈l))):=by
 refine CC.dB axU kr (λ_=>kr) az cE ?_;simp[al1,aaY,UU,aw];refine gK l.length (λi (_:Unit)=>[iI i]) (λi _=>∀x∈l.take i,x≠n) () ?_ az λi _ hi hI=>?_
 .simp[UU]
 by_cases aq:i<l.length
 .have hw:=aS aq hl;simp[UU,aq,hw];by_cases h1:l[i]=n
  .left;exact⟨h1,h1▸Z4 aq⟩
  .right;exact⟨h1,ak,bN aq hI h1⟩
 .have:=cb aq hI;simp[UU,aq];exactλh=>this _ h rfl
def asC(l:aj Int)(n:Int)(hl:Sm l):CC 110 af [iL l,iI n] (iB (decide (n∈l))):=by
 refine CC.dB axT kr (λ_=>kr) az cE ?_;simp[al0,aaX,UU,aw];refine gK l.length (λi (_:Unit)=>[iI i]) (λi _=>∀x∈l.take i,x≠n) () ?_ az λi _ hi hI=>?_
 .simp[UU]
 by_cases aq:i<l.length
 .have hw:=aS aq hl;simp[UU,aq,hw];by_cases h1:l[i]=n
  .left;exact⟨h1,h1▸Z4 aq⟩
  .right;exact⟨h1,ak,bN aq hI h1⟩
 .have:=cb aq hI;simp[UU,aq];exactλh=>this _ h rfl
def aCK(l:aj Int)(n:Int)(hl:Sm l):CC 187 af [iL l,iI n] (iB (decide (n∈l))):=by
 refine CC.dB axI kr (λ_=>kr) az cE ?_;simp[alQ,aaP,UU,aw];refine gK l.length (λi (_:Unit)=>[iI i]) (λi _=>∀x∈l.take i,x≠n) () ?_ az λi _ hi hI=>?_
 .simp[UU]
 by_cases aq:i<l.length
 .have hw:=aS aq hl;simp[UU,aq,hw];by_cases h1:l[i]=n
  .left;exact⟨h1,h1▸Z4 aq⟩
  .right;exact⟨h1,ak,bN aq hI h1⟩
 .have:=cb aq hI;simp[UU,aq];exactλh=>this _ h rfl
def k65(a b:aj Int)(ha:Sm a):CC 65 af [iL a,iL b] (iB (decide (a=b))):=by
 refine CC.dB aBR kr (λ_=>kr) az cE ?_;simp[arp,UU,aw];by_cases di:a.length=b.length
 rotate_left
 .left;exact⟨λh=>di ak,λh=>di (by rw[h])⟩
 right;exists ak;simp[agh];refine gK a.length (λi (_:Unit)=>[iI i]) (λi _=>a.take i=b.take i) () ?_ az λi _ hi hI=>?_
 .simp[UU]
 by_cases aq:i<a.length
 .have hw:=aS aq ha;have cR:i<b.length:=ak;simp[UU,aq,cR,hw];by_cases h1:a[i]=b[i]
  .right;exact⟨h1,ak,by rw[ZN aq,ZN cR,hI,h1]⟩
  .left;exact⟨h1,λh=>h1 (by subst h;rfl)⟩
 .have:a=b:=by
   rw[<-Wg (PE aq),hI,Wg ak]
  subst this;simp[UU,aq]
def tS{ls:aj (aj Int)}(h:i<ls.length):cu 1 (eQ ls) (iI (i:Nat))=aa (iL ls[i]):=by
 simp[cu,lz,h,aD]
def asD(a b:aj (aj Int))(ha:Sm a)(hs:∀l∈a,Sm l):CC 168 af [eQ a,eQ b] (iB (decide (a=b))):=by
 refine CC.dB axM kr (λ_=>kr) (by simp[Eu]) cE ?_;simp[alT,UU,aw];by_cases di:a.length=b.length
 rotate_left
 .left;exact⟨λh=>di ak,λh=>di (by rw[h])⟩
 right;exists ak;unfold aaS;refine aJ a.length (λi (_:Unit)=>[iI i]) (λi _=>a.take i=b.take i) () ?_ az λi _ hi hI=>?_
 .simp[UU]
 by_cases aq:i<a.length
 .have hw:=aS aq ha;have cR:i<b.length:=ak;have h65:=k65 a[i] b[i] (hs _ (Z4 aq));simp[UU,aq,cR,hw,tS aq,tS cR,aw];exists _,h65;by_cases h1:a[i]=b[i]
  .simp[h1];exact .mk () rfl ak (by rw[ZN aq,ZN cR,hI,h1])
  .simp[h1];exactλh=>h1 (by subst h;rfl)
 .have:a=b:=by
   rw[<-Wg (PE aq),hI,Wg ak]
  subst this;simp[UU,aq]
structure Oc where
 r:Int
 h:Int
 k:Bool
 deriving DecidableEq
def eS(o:Oc):IV:=.agg [iI o.r,iI o.h,iB o.k]
abbrev kY(l:aj Oc):IV:=.tree 3 (l.map eS)
def uO(o:Oc):Pure (eS o):=.agg _ az
@[simp] theorem aIU(l:aj Oc):Pure (kY l):=lS 3 eS (λa=>⟨_,rfl,az⟩) l
def VA{a b:aj Oc}(h:a.length+b.length<=1000):dG 3 24 (kY a) (kY b)=aa (kY (a++b)):=by
 have h2:=Dl (s:=3) (enc:=eS) (λx=>⟨_,rfl,rfl,rfl⟩) b;simp[dG,h2];omega
def GR{l:aj Oc}(h:i<l.length):cu 3 (kY l) (iI (i:Nat))=aa (.agg [iI l[i].r,iI l[i].h,iB l[i].k]):=cM (by simp[h,eS]) rfl
def pI(i kl n:Nat):aj Oc:=(List.range n).map λj=>⟨i,((n- 1- j:Nat):Int),decide (n- 1- j<kl)⟩
@[simp] theorem ajW(i kl n:Nat):(pI i kl n).length=n:=by simp[pI]
def zl(i:Nat)(r:Rl):aj Oc:=pI i r.aA.length (r.aA.length+r.aC.length)
def occs(l:aj Rl):aj Oc:=l.zipIdx.flatMap λq=>zl q.2 q.1
def ahf(l:aj Rl)(r:Rl):occs (l++[r])=occs l++zl l.length r:=by simp[occs,List.zipIdx_append]
def Lu{l:aj Rl}(h:i<l.length):occs (l.take (i+1))=occs (l.take i)++zl i l[i]:=by
 rw[ZN h,ahf,PY,Nat.min_eq_left ak]
def aJn:∀(l:aj Rl) (k:Nat),(∀r∈l,iF r)->((l.zipIdx k).flatMap λq=>zl q.2 q.1).length<=3*l.length
 |[],_,_=>by simp
 |r::l,k,h=>by
  have h1:=aJn l (k+1) λr hr=>h r aI;have h2:=(h r az).h;rw[List.zipIdx_cons,List.flatMap_cons,UR];simp only[zl,ajW,Zx];simp only[zl]at h1;omega
def qz(l:aj Rl)(h:∀r∈l,iF r):(occs l).length<=3*l.length:=aJn l 0 h
def F4(h:m<=1000):QY.wrap ((m:Int) - 1)=(m:Int) - 1:=by
 exact eU ak ak
def Lv{kl:Nat}(hm:m<n):(pI i kl n).take (n-(m+1)+1)=(pI i kl n).take (n-(m+1))++[⟨i,(m:Int),decide (m<kl)⟩]:=by
 have h:n-(m+1)<(pI i kl n).length:=eE;rw[ZN h]
 congr 2
 simp only[pI,List.getElem_map,List.getElem_range];rw[show n- 1-(n-(m+1))=m by omega]
variable{k0:aj IV->Prop}{x0:IV}
def ayL(i:Nat)(r:Rl)(ax:aj Oc)(hi:i<1000)(asE:ax.length<=500)(hr:r.aA.length+r.aC.length<=3)(hk:k0 [iI (i+1:Nat),kY (ax++zl i r)]):
 StQ agj Q [k0] [x0,iI i,kY ax,cy r,cy r]:=by
 have⟨rn,rk,rr,rg,rb,rv⟩:=r;unfold zl at hk;simp only[cy]at*
 generalize hn:rk.length+rr.length=n at hr hk;have mD:(rk.length:Int)+rr.length=n:=ak;refine fg (λ(m:Nat)=>[iI ((m:Int) - 1),kY (ax++(pI i rk.length n).take (n- m))]) (λm=>m<=n) (λm=>m) n ?_ (XS _) λm hm=>?_
 .simp[UU,mD,F4 (show n<=1000 by omega),eU (show(-9223372036854775808:Int)<=n by omega) ak]
 cases m with
 |zero=>
  have hw:=aS hi ak;simp[UU,hw];rw[Wg az]
  grind
 |succ m=>
  have hw:QY.wrap ((m:Int) - 1)=(m:Int) - 1:=F4 ak;have hc:dG 3 24 (kY (ax++(pI i rk.length n).take (n-(m+1)))) (.tree 3 [.agg [iI i,iI m,iB (decide (m<rk.length))]])=aa (kY (ax++(pI i rk.length n).take (n-(m+1))++[⟨i,(m:Int),decide (m<rk.length)⟩])):=VA (b:=[⟨i,(m:Int),decide (m<rk.length)⟩]) aI;simp[UU,aZ,aD,hc,hw];refine .mk m ?_ ak ak;rw[<-Lv ak,show n-(m+1)+1=n- m by omega]
def k18(p:Pg)(h:f_ p):CC 18 af [bc p] (kY (occs p.aX)):=by
 refine CC.of aBT kr kr (by simpa using cz p) az ?_;have⟨ds,rs⟩:=p;have hr:=h.r;have hs:=h.rs;simp only at hr hs⊢;simp[art,bc,UU,aw];refine aJ rs.length (λi (ax:aj Oc)=>[iI i,kY ax]) (λi ax=>ax=occs (rs.take i)) [] ?_ cE λi ax hi hI=>?_
 .rfl
 by_cases aq:i<rs.length
 .have Ud:=(hs _ (Z4 aq)).h;have hl:=qz (rs.take i) λr hr=>hs r (TC hr);rw[<-hI]at hl;simp only[PY]at hl;simp[UU,aq,nQ aq,aw];have bf:(rs[i].aA.length:Int)+rs[i].aC.length=((rs[i].aA.length+rs[i].aC.length:Nat):Int):=ak;refine ayL i rs[i] ax ak ak Ud ?_;exact .mk _ rfl ak (by rw[Lu aq,<-hI])
 .simp[UU]
  grind
def ayM(i:Nat)(r:Rl)(ax:aj Oc)(hi:i<1000)(asE:ax.length<=500)(hr:r.aA.length+r.aC.length<=3)(hk:k0 [iI (i+1:Nat),kY (ax++zl i r)]):
 StQ agq Q [k0] [x0,iI i,kY ax,cy r,db (r.aA++r.aC)]:=by
 have⟨rn,rk,rr,rg,rb,rv⟩:=r;unfold zl at hk;simp only[cy]at*
 rw[<-UR]at hr hk;generalize Ue:rk++rr=hs at hr hk⊢;generalize hn:hs.length=n at hr hk;refine fg (λ(m:Nat)=>[iI ((m:Int) - 1),kY (ax++(pI i rk.length n).take (n- m)),iS rn]) (λm=>m<=n) (λm=>m) n ?_ (XS _) λm hm=>?_
 .simp[UU,hn,F4 (show n<=1000 by omega),aw]
 cases m with
 |zero=>
  have hw:=aS hi ak;simp[UU];rw[Wg az]
  grind
 |succ m=>
  have hw:QY.wrap ((m:Int) - 1)=(m:Int) - 1:=F4 ak;have aq:m<hs.length:=ak;have hc:dG 3 24 (kY (ax++(pI i rk.length n).take (n-(m+1)))) (.tree 3 [.agg [iI i,iI m,iB (decide (m<rk.length))]])=aa (kY (ax++(pI i rk.length n).take (n-(m+1))++[⟨i,(m:Int),decide (m<rk.length)⟩])):=VA (b:=[⟨i,(m:Int),decide (m<rk.length)⟩]) aI;simp[UU,aw,aZ,aD,hc,hw,lI aq];refine .mk m ?_ ak ak;rw[<-Lv ak,show n-(m+1)+1=n- m by omega]
def k87(p:Pg)(h:f_ p):CC 87 af [bc p] (kY (occs p.aX)):=by
 refine CC.of aB3 kr kr (by simpa using cz p) az ?_;have⟨ds,rs⟩:=p;have hr:=h.r;have hs:=h.rs;simp only at hr hs⊢;simp[arG,bc,UU,aw];refine aJ rs.length (λi (ax:aj Oc)=>[iI i,kY ax]) (λi ax=>ax=occs (rs.take i)) [] ?_ cE λi ax hi hI=>?_
 .rfl
 by_cases aq:i<rs.length
 .have Ud:=(hs _ (Z4 aq)).h;have hl:=qz (rs.take i) λr hr=>hs r (TC hr);rw[<-hI]at hl;simp only[PY]at hl;have Cu:=Ny rs[i] ak;rw[bQ]at Cu;simp[UU,aq,nQ aq,aw];exists _,Cu;simp;refine ayM i rs[i] ax ak ak Ud ?_;exact .mk _ rfl ak (by rw[Lu aq,<-hI])
 .simp[UU]
  grind
def k81(p:Pg)(h:f_ p)(o:Oc):CC 81 af [bc p,eS o] (iB (decide (o∈occs p.aX))):=by
 refine CC.dB aBY kr (λ_=>kr) (by intro x hx;rcases ZP.1 hx with rfl|hx;exact cz p;obtain rfl:=Z3.1 hx;exact uO o) cE ?_;have YK:=k18 p h;have hl:=qz p.aX h.rs;have hr:=h.r;generalize occs p.aX=l at YK hl⊢;simp[arB,bc,eS,UU,aw]at YK⊢;exists _,YK;simp;refine aJ l.length (λi (_:Unit)=>[iI i]) (λi _=>∀x∈l.take i,x≠o) () ?_ az λi _ hi hI=>?_
 .rfl
 by_cases aq:i<l.length
 .have hw:=aS aq ak;simp[UU,aq,hw,GR aq,aw];by_cases h1:l[i]=o
  .grind
  .right;refine⟨?_,.mk () rfl ak (bN aq hI h1)⟩;intro e1 e2;refineλe3=>h1 ?_;cases hli:l[i];simp_all
 .have:=cb aq hI;simp[UU]
  grind
structure Pn where
 o:Oc
 bj:aj Int
 jJ:aj (aj Int)
 jg:aj (aj Int)
 deriving DecidableEq
def bT(x:Pn):IV:=.agg [iI x.o.r,iI x.o.h,iB x.o.k,iL x.bj,eQ x.jJ,eQ x.jg]
structure Lw(x:Pn):Prop where
 o:Sm x.bj
 k:Sm x.jJ
 t:Sm x.jg
 ks:∀l∈x.jJ,Sm l
 ts:∀l∈x.jg,Sm l
def qc(x:Pn):Pure (bT x):=.agg _ (by simp[Eu])
def aCL(a b:Pn)(ha:Lw a):CC 104 af [bT a,bT b] (iB (decide (a=b))):=by
 refine CC.dB axL kr (λ_=>kr) (by intro x hx;rcases ZP.1 hx with rfl|hx;exact qc a;obtain rfl:=Z3.1 hx;exact qc b) cE ?_;have⟨⟨r,h,k⟩,o,kn,t⟩:=a;have⟨⟨r',h',k'⟩,o',kn',t'⟩:=b;have h1:=k65 o o' ha.o;have h2:=asD kn kn' ha.k ha.ks;have h3:=asD t t' ha.t ha.ts;simp[alS,bT,UU,aw];by_cases e1:r=r'/\h=h'/\k=k'
 rotate_left
 .right;exact⟨λa b c=>e1 ⟨a,b,c⟩,by intro a b c;exact bH ⟨a,b,c⟩ e1⟩
 left;exists ⟨⟨e1.1,e1.2.1⟩,e1.2.2⟩,_,h1;by_cases e2:o=o'
 rotate_left
 .simp[e2]
 simp[e1,e2];exists _,h2;by_cases e3:kn=kn'
 rotate_left
 .simp[e3]
 simp[e3];exists _,h3;simp
abbrev YL(ls:aj (aj At)):IV:=.tree 1 (ls.map db)
abbrev Uf(ls:aj (aj Gl)):IV:=.tree 1 (ls.map gw)
def mO(l:aj At):aj Int:=(l.map λa=>bg a.ts).flatten
def oC(l:aj Gl):aj Int:=(l.map λa=>bg a.ts).flatten
def eN(ls:aj (aj At)):aj Int:=(ls.map mO).flatten
def d_(ls:aj (aj Gl)):aj Int:=(ls.map oC).flatten
def ahg{ls:aj (aj At)}(h:i<ls.length):cu 1 (YL ls) (iI (i:Nat))=aa (db ls[i]):=cM aI rfl
def ahh{ls:aj (aj Gl)}(h:i<ls.length):cu 1 (Uf ls) (iI (i:Nat))=aa (gw ls[i]):=cM aI rfl
def aIn(ls:aj (aj At)):Pure (YL ls):=by
 refine .tree 1 _ λe he c hc=>?_;obtain⟨x,_,rfl⟩:=Z6.1 he
 simp_all[aD]
def aHb(ls:aj (aj Gl)):Pure (Uf ls):=by
 refine .tree 1 _ λe he c hc=>?_;obtain⟨x,_,rfl⟩:=Z6.1 he
 simp_all[aD]
def F5{B:Type}{f:B->aj Int}{l:aj B}(h:i<l.length):((l.take (i+1)).map f).flatten=((l.take i).map f).flatten++f l[i]:=by
 rw[ZN h,Nj,Uk];simp
def OC{B:Type}{f:B->aj Int}:∀{l:aj B},(∀a∈l,(f a).length<=n)->((l.map f).flatten).length<=l.length*n
 |[],_=>by simp
 |a::l,h=>by
  have:=OC (f:=f) (l:=l) λa ha=>h a aI;have h1:=h a az;rw[ZM,TM,UR,Zx,Nat.add_mul];omega
def Js{B:Type}{f:B->aj Int}(l:aj B)(i:Nat):((l.take i).map f).flatten.length<=(l.map f).flatten.length:=by
 conv=>rhs;rw[<-JP i l,Nj,Uk,UR]
 omega
def uP(l:aj Int):∀e∈l.map iI,(aD e).length=1:=λe he=>by obtain⟨x,_,rfl⟩:=Z6.1 he;rfl
def F6(l:aj Int):∀c∈flat (l.map iI),(∃v,c=.raw v)/\aw c=ab:=λc hc=>by
 have⟨e,he,hc⟩:=List.mem_flatMap.1 hc;obtain⟨x,_,rfl⟩:=Z6.1 he;simp[aD]at hc;subst hc;exact⟨⟨_,rfl⟩,rfl⟩
def asF(l:aj At)(hl:Sm l)(hn:∀a∈l,vI a/\GP a)(ax:aj Int)(i:Nat)(hi:i<1000)(bf:ax.length+(mO l).length<=1000000000)(hk:k0 [iI (i+1:Nat),iL (ax++mO l)]):
 StQ aIw Q [k0] [x0,iI i,iL ax,db l]:=by
 have mU:=aS hi ak;refine aJ l.length (λj (q:aj Int)=>[iI j,iL q]) (λj q=>q=ax++mO (l.take j)) ax ?_ (by simp[mO]) λj q hj hq=>?_
 .rfl
 by_cases aq:j<l.length
 .have hw:=aS aq hl;have⟨h1,h2⟩:=hn _ (Z4 aq);have Nz:=c46 af l[j] h1 h2;have ht:=F5 (f:=λa:At=>bg a.ts) aq;have cR:=Js (f:=λa:At=>bg a.ts) l (j+1);rw[ht,UR]at cR;have hc:=By (a:=q) (b:=bg l[j].ts) (by rw[hq,UR];grind [mO]);simp[UU,aq,hw,lI aq,aw];exists _,Nz;simp[hc, -QM];refine⟨λx a ha hx=>?_,.mk _ rfl ak (by rw[hq,mO,mO,ht,ZZ])⟩;simp[aD]at hx;subst hx;rfl
 .rw[Wg ak]at hq;simp[UU]
  grind
def aCM(ls:aj (aj At))(hl:ls.length<=1000)(hn:∀l∈ls,Sm l/\∀a∈l,vI a/\GP a)(bf:(eN ls).length<=1000000000):
 StQ abh (·=iL (eN ls)) [] [YL ls]:=by
 exists ⟨_,rfl⟩,⟨_,rfl⟩;refine aJ ls.length (λi (q:aj Int)=>[iI i,iL q]) (λi q=>q=eN (ls.take i)) [] ?_ cE λi q hi hq=>?_
 .rfl
 by_cases aq:i<ls.length
 .have⟨h1,h2⟩:=hn _ (Z4 aq);have ht:=F5 (f:=mO) aq;have cR:=Js (f:=mO) ls (i+1);rw[ht,UR]at cR;simp[UU,aq,ahg aq, -QM];refine asF ls[i] h1 h2 q i ak (by rw[hq];grind [eN]) ?_;exact .mk _ rfl ak (by rw[hq,eN,eN,ht])
 .rw[Wg ak]at hq;simp[UU,aq];rw[hq]
def asG(l:aj At)(hl:Sm l)(hn:∀a∈l,vI a/\GP a)(i:Nat)(hi:i<1000)(hz:∀a∈l,bg a.ts=[])(hk:k0 [iI (i+1:Nat)]):
 StQ aG3 Q [k0] [x0,iI i,db l]:=by
 have mU:=aS hi ak;refine aJ l.length (λj (_:Unit)=>[iI j]) (λ_ _=>True) () ?_ trivial λj _ hj _=>?_
 .rfl
 by_cases aq:j<l.length
 .have hw:=aS aq hl;have⟨h1,h2⟩:=hn _ (Z4 aq);have Nz:=c46 af l[j] h1 h2;rw[hz _ (Z4 aq)]at Nz;simp[UU,aq,hw,lI aq,aw];exists _,Nz;simp;exact⟨⟨.tree 1 [],cE⟩,.mk () rfl ak trivial⟩
 .simp[UU]
  grind
def z139(ls:aj (aj At))(hl:ls.length<=1000)(hn:∀l∈ls,Sm l/\∀a∈l,vI a/\GP a)(hz:eN ls=[]):
 StQ abi (·=iL []) [] [YL ls]:=by
 exists ⟨_,rfl⟩,⟨_,rfl⟩;refine aJ ls.length (λi (_:Unit)=>[iI i]) (λ_ _=>True) () ?_ trivial λi _ hi _=>?_
 .rfl
 by_cases aq:i<ls.length
 .have⟨h1,h2⟩:=hn _ (Z4 aq);simp[UU,aq,ahg aq];refine asG ls[i] h1 h2 i ak (λa ha=>?_) (.mk () rfl ak trivial);have:=Uh.1 hz _ (Z6.2 ⟨_,Z4 aq,rfl⟩);exact Uh.1 this _ (Z6.2 ⟨a,ha,rfl⟩)
 .simp[UU,aq]
def asH:dK Z2 195=1:=kr
def f139(ls:aj (aj At))(hl:ls.length<=1000)(hn:∀l∈ls,Sm l/\∀a∈l,vI a/\GP a)(bf:(eN ls).length<=1000000000):tE Z2 (dK Z2 195) 195 [YL ls] ((eN ls).map iI):=by
 have h1:=asH;by_cases hp:eN ls=[]
 .exact .nu (nm:=ab) mixed uK asu kr (by simpa using aIn ls) (by rw[h1];exact uP _) (F6 _) az (by rw[h1,hp];exact z139 ls hl hn hp)
 .exact .nu (nm:=af) mixed uK ast kr (by simpa using aIn ls) (by rw[h1];exact uP _) (F6 _) (λ_=>by simpa using hp) (by rw[h1];exact aCM ls hl hn bf)
def ayN(aH:Bool)(ls:aj (aj At))(hl:ls.length<=1000)(hn:∀l∈ls,Sm l/\∀a∈l,vI a/\GP a)(bf:(eN ls).length<=1000000000):CC 1419 aH [YL ls] (iL (eN ls)):=by
 have h:=sR.fresh (aH:=aH) (tQ rfl) (f139 ls hl hn bf)
 simp_all[gk,asH,CC]
def asI(l:aj Gl)(hl:Sm l)(hn:∀a∈l,tR a/\GQ a)(ax:aj Int)(i:Nat)(hi:i<1000)(bf:ax.length+(oC l).length<=1000000000)(hk:k0 [iI (i+1:Nat),iL (ax++oC l)]):
 StQ aHD Q [k0] [x0,iI i,iL ax,gw l]:=by
 have mU:=aS hi ak;refine aJ l.length (λj (q:aj Int)=>[iI j,iL q]) (λj q=>q=ax++oC (l.take j)) ax ?_ (by simp[oC]) λj q hj hq=>?_
 .rfl
 by_cases aq:j<l.length
 .have hw:=aS aq hl;have⟨h1,h2⟩:=hn _ (Z4 aq);have J5:=c87 af l[j] h1 h2;have ht:=F5 (f:=λa:Gl=>bg a.ts) aq;have cR:=Js (f:=λa:Gl=>bg a.ts) l (j+1);rw[ht,UR]at cR;have hc:=By (a:=q) (b:=bg l[j].ts) (by rw[hq,UR];grind [oC]);simp[UU,aq,hw,sj aq,aw];exists _,J5;simp[hc, -QM];refine⟨λx a ha hx=>?_,.mk _ rfl ak (by rw[hq,oC,oC,ht,ZZ])⟩;simp[aD]at hx;subst hx;rfl
 .rw[Wg ak]at hq;simp[UU]
  grind
def aCN(ls:aj (aj Gl))(hl:ls.length<=1000)(hn:∀l∈ls,Sm l/\∀a∈l,tR a/\GQ a)(bf:(d_ ls).length<=1000000000):
 StQ abj (·=iL (d_ ls)) [] [Uf ls]:=by
 exists ⟨_,rfl⟩,⟨_,rfl⟩;refine aJ ls.length (λi (q:aj Int)=>[iI i,iL q]) (λi q=>q=d_ (ls.take i)) [] ?_ cE λi q hi hq=>?_
 .rfl
 by_cases aq:i<ls.length
 .have⟨h1,h2⟩:=hn _ (Z4 aq);have ht:=F5 (f:=oC) aq;have cR:=Js (f:=oC) ls (i+1);rw[ht,UR]at cR;simp[UU,aq,ahh aq, -QM];refine asI ls[i] h1 h2 q i ak (by rw[hq];grind [d_]) ?_;exact .mk _ rfl ak (by rw[hq,d_,d_,ht])
 .rw[Wg ak]at hq;simp[UU,aq];rw[hq]
def asJ(l:aj Gl)(hl:Sm l)(hn:∀a∈l,tR a/\GQ a)(i:Nat)(hi:i<1000)(hz:∀a∈l,bg a.ts=[])(hk:k0 [iI (i+1:Nat)]):
 StQ aGz Q [k0] [x0,iI i,gw l]:=by
 have mU:=aS hi ak;refine aJ l.length (λj (_:Unit)=>[iI j]) (λ_ _=>True) () ?_ trivial λj _ hj _=>?_
 .rfl
 by_cases aq:j<l.length
 .have hw:=aS aq hl;have⟨h1,h2⟩:=hn _ (Z4 aq);have J5:=c87 af l[j] h1 h2;rw[hz _ (Z4 aq)]at J5;simp[UU,aq,hw,sj aq,aw];exists _,J5;simp;exact⟨⟨.tree 1 [],cE⟩,.mk () rfl ak trivial⟩
 .simp[UU]
  grind
def aCO(ls:aj (aj Gl))(hl:ls.length<=1000)(hn:∀l∈ls,Sm l/\∀a∈l,tR a/\GQ a)(hz:d_ ls=[]):
 StQ abk (·=iL []) [] [Uf ls]:=by
 exists ⟨_,rfl⟩,⟨_,rfl⟩;refine aJ ls.length (λi (_:Unit)=>[iI i]) (λ_ _=>True) () ?_ trivial λi _ hi _=>?_
 .rfl
 by_cases aq:i<ls.length
 .have⟨h1,h2⟩:=hn _ (Z4 aq);simp[UU,aq,ahh aq];refine asJ ls[i] h1 h2 i ak (λa ha=>?_) (.mk () rfl ak trivial);have:=Uh.1 hz _ (Z6.2 ⟨_,Z4 aq,rfl⟩);exact Uh.1 this _ (Z6.2 ⟨a,ha,rfl⟩)
 .simp[UU,aq]
def asK:dK Z2 196=1:=kr
def f140(ls:aj (aj Gl))(hl:ls.length<=1000)(hn:∀l∈ls,Sm l/\∀a∈l,tR a/\GQ a)(bf:(d_ ls).length<=1000000000):tE Z2 (dK Z2 196) 196 [Uf ls] ((d_ ls).map iI):=by
 have h1:=asK;by_cases hp:d_ ls=[]
 .exact .nu (nm:=ab) mixed uK asw kr (by simpa using aHb ls) (by rw[h1];exact uP _) (F6 _) az (by rw[h1,hp];exact aCO ls hl hn hp)
 .exact .nu (nm:=af) mixed uK asv kr (by simpa using aHb ls) (by rw[h1];exact uP _) (F6 _) (λ_=>by simpa using hp) (by rw[h1];exact aCN ls hl hn bf)
def ams(aH:Bool)(ls:aj (aj Gl))(hl:ls.length<=1000)(hn:∀l∈ls,Sm l/\∀a∈l,tR a/\GQ a)(bf:(d_ ls).length<=1000000000):CC 1420 aH [Uf ls] (iL (d_ ls)):=by
 have h:=sR.fresh (aH:=aH) (tQ rfl) (f140 ls hl hn bf)
 simp_all[gk,asK,CC]
def asL:aj Nat:=zh++[257,72,26,71,137,70,139,225,145,183,75,76,186,140,224,138,185,9,28,27,143,77,142,141,74,144,73,146,78,39,268,192,154,227,33,85,155,233,199,164,230,194,166,204,280]
def asM:aj Nat:=[]
def asN:aj Nat:=[201]
def asO:aj Nat:=[185,247,209,222000151,500195,500196]
def ayO(l:aj Hint):fz:=⟨asL,asM,asN,l++[⟨999999,0,0,[],[],[],[]⟩],asO⟩
abbrev nt(e:SE)(a b:au):au:=.aQ e (.test e a b)
abbrev no(e:SE)(c:Int)(b:au):au:=.aQ (.ok e) (nt (.ok (.un .not (.ok e))) (.aQ (.rw (.i c)) (.ret (.i c))) b)
abbrev up(n k:Nat)(ρ:SE):au:=.aQ (.ok (.bin .add 3 (.var n) (.i 1))) (.next k (.ac (.ok (.bin .add 3 (.var n) (.i 1))) ρ))
def QA(S:SE)(q n:Nat)(φ:SE)(d:Nat)(α K:au):au:=
 .loop (.ac (.i 0) φ) (nt (.ok (.bin .lss 3 (.var n) (.len S))) (.bind (.idx q S (.var n)) (.aQ (.qG q (.var d)) α)) K)
def dF(q m i k:Nat)(ρ:SE):au:=QA (.ok (.var 0)) 2 (m+1) .an (m+2)
 (nt (.ok (.bin .eql 9 (.bt (.var (m+2)) 0) (.bt (.var m) q)))
 (no (.bin .geq 3 (.var (m+1)) (.i 0)) 7
 (.call 233 af (.ac (.ok (.var 0)) (.ac (.bt (.var m) q) (.ac (.len (.bt (.var m) (q+1))) .an)))
 (no (.var (m+3)) 9 (up i k ρ))))
 (up (m+1) (k+1) .an))
 (.aQ (.rw (.i 7)) (.ret (.i 7)))
def amt(n:Nat):au:=.loop (.ac (.var n) (.ac (.i 0) .an))
 (nt (.ok (.bin .lss 3 (.var (n+3)) (.len (.var (n+1)))))
 (.aQ (.idx 1 (.var (n+1)) (.var (n+3)))
 (.call 95 ab (.ac (.var (n+2)) (.ac (.mG 1 (.var (n+1)) (.var (n+3)) 0) .an))
 (no (.var (n+4)) 17
 (.aQ (.ok (.bin .add 3 (.var (n+3)) (.i 1)))
 (.next 11 (.ac (.var (n+2)) (.ac (.ok (.bin .add 3 (.var (n+3)) (.i 1))) .an)))))))
 (.ret (.i 0)))
def amu(n:Nat):au:=QA (.bt (.var 1) 4) 3 n .an (n+1)
 (.call 199 af (.ac (.bt (.var (n+1)) 0) .an) (.aQ (.ok (.var (n+2))) (no (.un .not (.ok (.var (n+2)))) 10 (up n 10 .an))))
 (.call 1419 ab (.ac (.tr 1 (.ac (.bt (.var 1) 1) (.ac (.bt (.var 1) 2) .an))) .an)
 (.call 1420 ab (.ac (.tr 1 (.ac (.bt (.var 1) 3) .an)) .an)
 (.aQ (.len (.var (n+2))) (amt (n+1)))))
def aes(n:Nat):au:=QA (.bt (.var 1) 3) 3 n .an (n+1)
 (.call 199 af (.ac (.bt (.var (n+1)) 0) .an) (nt (.ok (.var (n+2))) (up n 9 .an) (no (.bin .eql 3 (.bt (.var (n+1)) 0) (.i 1)) 10 (up n 9 .an))))
 (.aQ (.len (.bt (.var 1) 4)) (amu (n+1)))
def cF(l n k:Nat)(K:au):au:=QA (.bt (.var 1) l) 3 n .an (n+1)
 (nt (.ok (.bin .eql 3 (.bt (.var (n+1)) 0) (.i 0)))
 (.aQ (.len (.bt (.var (n+1)) 2)) (.aQ (.len (.ok (.var 0))) (dF 1 (n+1) n k .an)))
 (up n k .an)) K
def amv(n:Nat):au:=cF 3 n 7 (.aQ (.len (.bt (.var 1) 4)) (cF 4 (n+1) 8 (.aQ (.len (.bt (.var 1) 3)) (aes (n+2)))))
def amw(n:Nat):au:=QA (.bt (.var 1) 2) 2 n (.ac (.b af) .an) (n+2)
 (.aQ (.len (.bt (.var (n+2)) 1)) (.aQ (.len (.ok (.var 0))) (dF 0 (n+2) n 6 (.ac (.b ab) .an))))
 (.aQ (.len (.bt (.var 1) 3)) (amv (n+2)))
def YO(n:Nat):au:=QA (.bt (.var 1) 1) 2 n .an (n+1)
 (.aQ (.len (.bt (.var (n+1)) 1)) (.aQ (.len (.ok (.var 0))) (dF 0 (n+1) n 5 .an)))
 (.aQ (.len (.bt (.var 1) 2)) (amw (n+1)))
def aI5:au:=
 (.loop (I0 bB) (nt (.ok (.bin .lss 3 (.var 12) (.len (.var 11))))
 (.aQ (.idx 1 (.var 11) (.var 12))
 (no (.bin .leq 3 (.mG 1 (.var 11) (.var 12) 0) (.var 13)) 2
 (nt (.ok (.bin .eql 3 (.mG 1 (.var 11) (.var 12) 0) (.var 13)))
 (.aQ (.ok (.bin .add 3 (.var 13) (.i 1))) (up 12 4 (.ac (.ok (.bin .add 3 (.var 13) (.i 1))) .an)))
 (up 12 4 (.ac (.var 13) .an)))))
 (no (.bin .eql 3 (.bt (.var 1) 5) (.var 13)) 2
 (nt (.ok (.bin .eql 9 (.bt (.var 1) 0) (.s [])))
 (.aQ (.len (.bt (.var 1) 1)) (YO 14))
 (.call 154 af (.ac (.bt (.var 1) 0) .an) (no (.var 14) 7 (.aQ (.len (.bt (.var 1) 1)) (YO 15))))))))
def atF(l n k:Nat)(φ ρ:SE)(d:Nat)(K:au):au:=QA (.bt (.var 1) l) 2 n φ d
 (.call 194 af (.ac (.ac (.bt (.var d) 0) (.ac (.bt (.var d) 1) .an)) .an) (no (.var (d+1)) 2 (up n k ρ))) K
def goF(l n k:Nat)(φ ρ:SE)(d:Nat)(K:au):au:=QA (.bt (.var 1) l) 3 n φ d
 (.call 166 af (.ac (.ac (.bt (.var d) 0) (.ac (.bt (.var d) 1) (.ac (.bt (.var d) 2) .an))) .an) (no (.var (d+1)) 2 (up n k ρ))) K
def aHT:au:=atF 1 3 0 .an .an 4 (.aQ (.len (.bt (.var 1) 2))
 (atF 2 4 1 (.ac (.b af) .an) (.ac (.b ab) .an) 6 (.aQ (.len (.bt (.var 1) 3))
 (goF 3 6 2 .an .an 7 (.aQ (.len (.bt (.var 1) 4))
 (goF 4 7 3 (.ac (.b af) .an) (.ac (.b ab) .an) 9
 (.call 1419 ab (.ac (.tr 1 (.ac (.bt (.var 1) 1) (.ac (.bt (.var 1) 2) .an))) .an)
 (.call 1420 ab (.ac (.tr 1 (.ac (.bt (.var 1) 3) (.ac (.bt (.var 1) 4) .an))) .an)
 (.bind (.cat 1 8 (.var 9) (.var 10)) (.aQ (.len (.var 11)) aI5))))))))))
abbrev ajX:au:=.aQ (.rw (.i 6)) (.ret (.i 6))
def amx:au:=
 (Jc 6 1 (nP 1069 (Mu 221) (yW (iX 1) (mN 1) (CZ 1 1) (nt (.ok (.bin .gtr 3 (.ok (.bin .add 3 (.len (.bt (.var 1) 1)) (.len (.bt (.var 1) 2)))) (.i 0)))
 (nt (.ok (.bin .leq 3 (.ok (.bin .add 3 (.len (.bt (.var 1) 1)) (.len (.bt (.var 1) 2)))) (.i 4)))
 (.aQ (.len (.bt (.var 1) 3))
 (nt (.ok (.bin .leq 3 (.len (.bt (.var 1) 3)) (.i 12)))
 (.aQ (.len (.bt (.var 1) 4))
 (no (.bin .leq 3 (.len (.bt (.var 1) 4)) (.i 12)) 6 (.aQ (.len (.bt (.var 1) 1)) aHT)))
 ajX))
 ajX)
 ajX))))
def aCP:bG Z2 (ayO [adP 2 155008000 53 [(2,203,0)] [(8,1)] [(2,0),(2,21),(2,180),(2,181),(2,182),(2,183),(2,184),(2,185),(2,186),(2,187),(2,188),(2,189),(2,190),(2,191),(2,192),(2,193),(2,194),(2,195),(2,196),(2,197),(2,198),(2,199),(2,200)] [(2,22,2)],aP 2 155008000 47 [182] [] [19,163,164,165,166,167,168,169,170,171,172,173,174,175,176,177,178,179],aP 2 155008000 42 [165] [] [1,15,17,135,136,137,138,139,140,141,142,143,144,145,146,147,148,149,150,151,152,153,154,155,156,157,158,159,160,161,162],aP 6 155008000162022010008 2 [8],aP 3 155008000162 1 [8],aP 6 155008000158022010008 2 [8],aP 3 155008000158 1 [8],aP 2 155008000 34 [142,141],aP 5 155008000152010008 2 [8],aP 2 155008000 22 [11,103] [] [8,10,74,75,76,77,78,79,80,81,82,83,84,85,86,87,88,89,90,91,92,93,94,95,96,97,98,99,100],aP 2 155008000 15 [81,80] [] [4,6,55,56,57,58,59,60,61,62,63,64,65,66,67,68,69,70,71,72,73],aP 2 155008000 6 [62,61] [] [2,3,5,7,25,26,27,28,29,30,31,32,33,34,35,36,37,38,39,40,41,42,43,44,45,46,47,48,49,50,51,52,53,54]]) 155=amx:=kr
end Go.Proofs.YtabefplkfkfdfaaGreat
namespace Go.Ev
section
variable{Z:Io}{aB:St}{w:Z0}
def Jt(P:V5)(N:Nat)(c:Code)(e:aK)(df:aj Df)(G:St)(CD:Ex->aK->aj Df->St->Prop):Prop:=
 ∀α F Z a w Q,mT F ah Z->Inv N Z G w->eg Z e a.tmps->Ch α Z w G df a.defers->(∀ex e' HB aB,CD ex e' HB aB->Aw α N 0 Z w G ⟨ex,e',HB,aB⟩ Q)->c.wpIn F 0 P Q a w
variable{CD:Ex->aK->aj Df->St->Prop}{CW:nN}{G aG:St}{N:Nat}{P:V5}{c x y:Code}{df:aj Df}{e e1:aK}{fn:V4}{av:aj IV}
def Jt.Ty(h:dP P N ah c e df G CW)(hc:∀ex e' aB,CW ex e' aB->CD ex e' df aB):Jt P N c e df G CD:=
 λα F Z a w Q hF hi he hd hQ=>h α F Z a w Q hF hi he hd λex e' aB h1=>hQ ex e' df aB (hc _ _ _ h1)
theorem Jt.seq(h:Jt P N x e df G λex e1 wa aG=>aG.n<=N/\(ex=.normal->Jt P N y e1 wa aG CD)/\(ex≠.normal->CD ex e1 wa aG)):Jt P N (.seq x y) e df G CD:=by
 intro α F Z a w Q hF hi he hd hQ;refine wpIn_seq (h α F Z a w _ hF hi he hd λex e1 wa aG hc=>?_);have⟨hn,h1,h2⟩:=hc;intro a1 w1 cO gP i1 l1 dt d1 p1;cases ex with
 |normal=>exact h1 rfl α F cO a1 w1 Q (hF.mono l1.ext) i1 dt d1 λex e' HB aB hc=>(hQ ex e' HB aB hc).from hi l1 hn
 |exit id=>exact hQ _ _ _ _ (h2 az) a1 w1 cO gP i1 l1 dt d1 p1
 |goto l=>exact hQ _ _ _ _ (h2 az) a1 w1 cO gP i1 l1 dt d1 p1
 |ret=>exact hQ _ _ _ _ (h2 az) a1 w1 cO gP i1 l1 dt d1 p1
 |dh v=>exact hQ _ _ _ _ (h2 az) a1 w1 cO gP i1 l1 dt d1 p1
def HC(P:V5)(N:Nat)(c:Code)(e:aK)(df:aj Df)(G:St)(CD:Ex->aK->aj Df->St->Prop):Prop:=
 ∀α F Z a w Q,α<=w.heap.size->mT F ah Z->Inv N Z G w->eg Z e a.tmps->oH Z df a.defers->(∀ex e' HB aB,CD ex e' HB aB->Aw α N 0 Z w G ⟨ex,e',HB,aB⟩ Q)->c.wpIn F 0 P Q a w
def HC.ofD(h:Jt P N c e df G CD):HC P N c e df G CD:=
 λα F Z a w Q hB hF hi he hd hQ=>h α F Z a w Q hF hi he ⟨hB,[],hd,λ_ h=>(by cases h),List.nodup_nil⟩ hQ
def HC.asP{wa:aj Df}(h:jn P 0 ah fn x e df G ⟨.normal,e1,wa,aG⟩)(hn:aG.n<=N)(h1:HC P N y e1 wa aG CD):HC P N (.seq x y) e df G CD:=by
 intro α F Z a w Q hB hF hi he hd hQ;refine wpIn_seq (h.wp hn hF hi he hd ?_);intro a1 w1 cO gP i1 l1 dt d1 p1;exact h1 α F cO a1 w1 Q (YE hB l1.size) (hF.mono l1.ext) i1 dt d1 λex e' HB aB hc=>(hQ ex e' HB aB hc).from hi l1 hn
def eO.ayP{f:V4}{fn:Func}{RW:IV->St->Prop}(dX:P.funcs[f]?=aa fn)(hb:fn.body=aa c)(bf:av.length<=fn.ntmps)
 (h:HC P N c (fV av fn.ntmps) [] G λex e1 wa aG=>∃S mi dJ v,gg P S/\cG S/\(((ex=.normal\/ex=.ret)/\mi=ah)\/∃u,ex=.dh u/\mi=aa u)/\jR S 0 wa mi aG=aa (ah,dJ)/\dJ.n<=N/\fv P fn e1 dJ=aa v/\RW v dJ):eO P N f av G RW:=by
 intro Z us w hi hr;refine callsIn_of_wp_marks dX hb trivial ?_;refine h w.heap.size Z9 Z {tmps:=us.toArray++Array.replicate (fn.ntmps- us.toArray.size) ZL,defers:=[]} w _ (XS _) (.inl ⟨rfl,rfl⟩) hi (DW hr bf) trivial λex e1 wa aG hc=>?_;have⟨S,mi,dJ,v,hC,hk,hex,iU,hn,hv,yu⟩:=hc;have fY:=YE (n_ hk iU) hn;intro a1 w1 cO gP i1 l1 dt d1 p1;have⟨_,ids,dd1,dd2,dd3⟩:=d1
 have:∀u,rV cO mi u->LeavesInM Z9 0 P fn a1.tmps (λed w'=>∃v aB,RW v aB/\Cz N 0 Z w G v aB ed w') a1.defers u w1:=λu hu=>
  KC hu dd1 dd2 dd3 i1 λw1' ds1 aCQ i1' l1'=>Ia hC hk iU aCQ hu i1' hn λw2 vB u2 i2 l2 G_=>by
   rw[show u2=_ from G_];have⟨u,k1,k2⟩:=yh hv i2 (dt.mono l2.ext);exact⟨u,k1,v,dJ,yu,vB,k2,i2,Le.then hi fY (l1' _ _ _ _ (XS _) l1) l2⟩
 rcases hex with⟨rfl|rfl,rfl⟩|⟨u,rfl,rfl⟩
 .exact this _ rfl
 .exact this _ rfl
 .obtain⟨x,rfl,hx⟩:=p1;exact this _ ⟨x,rfl,hx⟩
noncomputable def s5(c:Code)(e:aK)(G:St)(cr:CR):Self:=
 ⟨λro rd _ c' e' HB aB=> @ite _ (ro=0/\rd=ah/\c'=c/\e'=e/\HB=[]/\aB=G) (aLp _) (aa cr) ah,λ_ _ _ _=>ah,λ_ _ _ _=>ah,λ_ _ _ _ _=>ah⟩
variable{cr:CR}{A:Array Oper}{h:V4}{v:IV}
def aet(h:∀fn,jn P 0 ah fn c e [] G cr):(∃m,kC P (s5 c e G cr) m)/\gg P (s5 c e G cr)/\c9 (s5 c e G cr)/\cG (s5 c e G cr):=by
 have⟨hle,m0,hm⟩:=h 0;refine⟨⟨m0,?_⟩,⟨λ_ _ _ _ _ _ _ h=>(by cases h),λ_ _ _ _ _ _ _ h=>(by cases h),λ_ _ _ _ _ _ _ _ h=>(by cases h),λ_ _ _ _ _ _ _ h=>(by cases h)⟩,?_,⟨λ_ _ _ _ _ _ h=>(by cases h),λ_ _ _ _ _ _ h=>(by cases h),λ_ _ _ _ _ _ _ h=>(by cases h)⟩⟩
 .intro N ro rd fn c' e' HB aB cr' hc
  grind [s5]
 .intro ro rd fn c' e' HB aB cr' hc
  simp_all[s5]
def aG_{fh:Func}{vY:Nat}{φ:Code}{mo:aF IV}{e2:aK}(dX:P.funcs[h]?=aa fh)(hb:fh.body=aa (.seq (.region vY A af) φ))(rZ:(fh.name != "runtime.NumGoroutine")=ab)
 (bf:av.length<=fh.ntmps)(Q4:A.any rI=ab)(P8:sC P 0 A A.toList (fV av fh.ntmps) mo G=aa (e1,ah,G))(hX:∀fn,jn P 0 ah fn φ e1 [] G ⟨.normal,e2,[],aB⟩)
 (hsh:∀S m,GZ P S 0 h φ e1 m G=(match S.code 0 ah h φ e1 [] G with|some r=>aa (r,m)|none=>ah))(nK:fv P fh e2 aB=aa v):
 ∃S,gg P S/\cG S/\jR S 0 [.call h av] mo G=aa (ah,aB):=by
 have⟨⟨m,hS⟩,hC,hm,hk⟩:=aet hX;exists pN P (s5 φ e1 G ⟨.normal,e2,[],aB⟩),Q5 hS hC hm hk,Ks hm hk;have Mr:(s5 φ e1 G ⟨.normal,e2,[],aB⟩).code 0 ah h φ e1 [] G=aa ⟨.normal,e2,[],aB⟩:=by simp[s5]
 have hd:HW P (s5 φ e1 G ⟨.normal,e2,[],aB⟩) 0 h av mo G=aa (ah,aB):=by
  unfold HW;rw[dX];simp only[hb,Option.isSome_some,rZ,Bool.and_self,YI,W8,if_false];rw[aY ak];simp only[GZ];rw[show(List.foldl (λ(e:aK) (x:IV×Nat)=>e.put (aa x.snd) x.fst) ⟨fh.ntmps,.lf⟩ av.zipIdx)=fV av fh.ntmps from rfl,P8]
  grind
 simp only[jR,pN,hd]
structure qA(o:Oper)(op:Op)(dst:aF Nat):Prop where
 op:o.op=op
 dst:o.dst=dst
 guard:o.guard=ah
variable{dst:aF Nat}{o:Oper}{op:Op}{ao:Array Oper}
def qA.MS(h:qA o op dst)(ao:Array Oper)(e:aK):bE o ao e=ab:=by grind [bE,h.guard]
variable{l:aj Oper}{A0 A1 A2 A3 B0 B3 B4 B5 B6 B7:Array Oper}{a0 a1 a2 a3 a4 a5 b0 b3 b4 b5 b6 b7 b8 b9 c0 c1 c2:Oper}{f0 f1:Func}{g:V4}{i0 i1 i2 i3 j0 j3 j4 j5 j6 j7:Nat}{x3:VK}{ι:Code}
def xj.vW(ho:qA o op dst)(hv:aN P 0 (aT e) o G=aa (.val v aG))(h:xj P 0 ah ao l (e.put dst v) df aG cr):xj P 0 ah ao (o::l) e df G cr:=by
 refine .val (ho.MS _ _) hv ?_
 simp_all[ho.dst]
def eV.vW{rd:aF Nat}(ho:qA o op dst)(hv:aN P 0 (aT e) o G=aa (.val v aG))(hn:aG.n<=N)(h:eV P N rd ao l (e.put dst v) df aG CW):eV P N rd ao (o::l) e df G CW:=by
 refine .val (ho.MS _ _) hv hn ?_
 simp_all[ho.dst]
def HD{i:Nat}(hl:A.toList=l)(h:xj P 0 ah A l e df G cr):jn P 0 ah fn (.region i A af) e df G cr:=.region aI
def aGT{t:VK}{x:IV}(ha:vL P t=aa af)(hs:bD P t=aa 1):partOf P t [x] 0=aa x:=by simp[partOf,ha,hs]
structure uQ(P:V5)(g h:V4)(t et T y:VK)(f0 f1:Func)(A0 A1 A2 A3 B0 B3 B4 B5 B6 B7:Array Oper)(a0 a1 a2 a3 a4 a5 b0 b3 b4 b5 b6 b7 b8 b9 c0 c1 c2:Oper)(i0 i1 i2 i3 j0 j3 j4 j5 j6 j7:Nat)(ι:Code)(x3:VK)(bt:Array Field):Prop where
 fn:P.funcs[g]?=aa f0
 fh:P.funcs[h]?=aa f1
 fb:f0.body=aa (.seq (.region i0 A0 af) (.seq (.region i1 A1 af) (.seq (.region i2 A2 af) (.seq (.region i3 A3 af) .ret))))
 hb:f1.body=aa (.seq (.region j0 B0 af) (.block 0 (.seq (.region j3 B3 af) (.cond (.tmp 6) (.region j4 B4 af) (.seq (.region j5 B5 af) (.cond (.tmp 8) (.seq (.region j6 B6 af) (.region j7 B7 af)) ι))))))
 nt:f0.ntmps=6
 nh:f1.ntmps=12
 name:(f1.name != "runtime.NumGoroutine")=ab
 res:f0.results.toList=[.cell 2 et]
 resh:f1.results.toList=[]
 lA0:A0.toList=[a0]
 lA1:A1.toList=[a1,a2]
 lA2:A2.toList=[a3,a4]
 lA3:A3.toList=[a5]
 lB0:B0.toList=[b0]
 lB3:B3.toList=[b3]
 lB4:B4.toList=[b4]
 lB5:B5.toList=[b5,b6,b7]
 lB6:B6.toList=[b8,b9]
 lB7:B7.toList=[c0,c1,c2]
 oa0:qA a0 (.alloc et) (aa 2)
 oa1:qA a1 (.makeFunc (.func h) #[] #[.tmp 2]) (aa 3)
 oa2:qA a2 (.defer {callee:=.value (.tmp 3),args:= #[],argTypes:= #[]}) ah
 oa3:qA a3 (.move (.tmp 0)) (aa 4)
 oa4:qA a4 (.call {callee:=.value (.tmp 4),args:= #[],argTypes:= #[]}) (aa 5)
 oa5:qA a5 (.store et (.tmp 2) (.const (.int .i64 0))) ah
 ob0:qA b0 (.call {callee:=.builtin .recover,args:= #[],argTypes:= #[]}) (aa 4)
 ob3:qA b3 (.binOp .eql T (.tmp 4) (.const .nilIface) x3) (aa 6)
 ob4:qA b4 (.assign (.tmp 4)) (aa 1)
 ob5:qA b5 (.typeAssert (.tmp 4) y t ab) (aa 7)
 ob6:qA b6 (.extract (.tmp 7) 1) (aa 8)
 ob7:qA b7 (.extract (.tmp 7) 0) (aa 9)
 ob8:qA b8 (.alloc t) (aa 2)
 ob9:qA b9 (.store t (.tmp 2) (.tmp 9)) ah
 oc0:qA c0 (.fieldAddr t (.tmp 2) 0) (aa 10)
 oc1:qA c1 (.load et (.tmp 10)) (aa 11)
 oc2:qA c2 (.store et (.tmp 0) (.tmp 11)) ah
 ze:dW P et=aa (.int .i64 0)
 se:bD P et=aa 1
 ae:vL P et=aa af
 zt:dW P t=aa (.agg #[.int .i64 0])
 st:bD P t=aa 1
 ut:P.underlying t=aa (.struct bt)
 fl:bt[0]?=aa bt[0]! /\bt[0]!.type=et/\bt[0]!.offset=0
 eq0:vM P .eql T (.tmp 4) (.const .nilIface) (.raw .nilIface) (.raw .nilIface)=aa (.bool ab)
 eq1:∀u,vM P .eql T (.tmp 4) (.const .nilIface) (.eT t (.agg [.raw u])) (.raw .nilIface)=aa (.bool af)
variable{t et T y:VK}{bt:Array Field}
def uQ.asQ(H:uQ P g h t et T y f0 f1 A0 A1 A2 A3 B0 B3 B4 B5 B6 B7 a0 a1 a2 a3 a4 a5 b0 b3 b4 b5 b6 b7 b8 b9 c0 c1 c2 i0 i1 i2 i3 j0 j3 j4 j5 j6 j7 ι x3 bt)(p:IV)(G:St):
 ∃S,gg P S/\cG S/\jR S 0 [.call h [p]] ah G=aa (ah,G):=by
 have aFK:(fV [p] f1.ntmps).n=12:=by rw[(jd (t:=0) (by grind [H.nh])).1,H.nh]
 refine aG_ (e1:=(fV [p] f1.ntmps).put (aa 4) (.raw .nilIface)) (e2:=(((fV [p] f1.ntmps).put (aa 4) (.raw .nilIface)).put (aa 6) (.bool ab)).put (aa 1) (.raw .nilIface)) (v:=.aU []) H.fh H.hb H.name (by grind [H.nh]) ?_ ?_ (λfn=>?_) (λS m=>rfl) ?_
 .rw[<-aKl,H.lB0];simp[rI,H.ob0.op]
 .rw[H.lB0];have:bE b0 B0 (fV [p] f1.ntmps)=ab:=H.ob0.MS _ _;simp[sC,this,rI,H.ob0.op,H.ob0.dst]
 .refine .aHX (.seq (aG:=G) (wa:=[]) (HD H.lB3 (.vW H.ob3 (v:=.bool ab) ?_ .nil)) (.cond (t:=ab) ?_ ?_)) az
  .simp only[aN,H.ob3.op,aT,lift];rw[dm ak,H.eq0];rfl
  .simp only[aT];rw[dm (by simp_all[gu])]
  .rw[aW rfl];refine HD H.lB4 (.vW H.ob4 (v:=.raw .nilIface) ?_ .nil);simp only[aN,H.ob4.op,aT];rw[iz (by decide),dm ak];rfl
 .simp[fv,H.resh]
def uQ.asR(H:uQ P g h t et T y f0 f1 A0 A1 A2 A3 B0 B3 B4 B5 B6 B7 a0 a1 a2 a3 a4 a5 b0 b3 b4 b5 b6 b7 b8 b9 c0 c1 c2 i0 i1 i2 i3 j0 j3 j4 j5 j6 j7 ι x3 bt)(id:Nat)(u:ZQ)(hu:aw (.raw u)=ab)(G:St)(hid:id<G.n)(bx:G.at id=aa (.cells [.int 0] 0 0)):
 ∃S,gg P S/\cG S/\jR S 0 [.call h [.ptr id 0 0 1]] (aa (.eT t (.agg [.raw u]))) G=aa (ah,Dy G id (.raw u)):=by
 have hn:(fV [.ptr id 0 0 1] f1.ntmps).n=12:=by rw[(jd (t:=0) (by rw[H.nh];simp)).1,H.nh]
 have h0:(fV [.ptr id 0 0 1] f1.ntmps).at 0=.ptr id 0 0 1:=by rw[(jd (t:=0) (by rw[H.nh];simp)).2 az];rfl
 generalize hE:fV [.ptr id 0 0 1] f1.ntmps=E0 at hn h0;obtain⟨e1,pQ⟩:∃e1,e1=E0.put (aa 4) (.eT t (.agg [.raw u])):=⟨_,rfl⟩;obtain⟨e2,E6⟩:∃e2,e2=e1.put (aa 6) (.bool af):=⟨_,rfl⟩;obtain⟨e3,Td⟩:∃e3,e3=e2.put (aa 7) (.aU [.agg [.raw u],.bool ab]):=⟨_,rfl⟩;obtain⟨e4,NA⟩:∃e4,e4=e3.put (aa 8) (.bool ab):=⟨_,rfl⟩;obtain⟨e5,he5⟩:∃e5,e5=e4.put (aa 9) (.agg [.raw u]):=⟨_,rfl⟩;obtain⟨e6,he6⟩:∃e6,e6=e5.put (aa 2) (.ptr G.n 0 0 1):=⟨_,rfl⟩;obtain⟨e7,he7⟩:∃e7,e7=e6.put ah .undef:=⟨_,rfl⟩;obtain⟨e8,he8⟩:∃e8,e8=e7.put (aa 10) (.ptr G.n 0 0 1):=⟨_,rfl⟩;obtain⟨e9,he9⟩:∃e9,e9=e8.put (aa 11) (.raw u):=⟨_,rfl⟩;have n1:e1.n=12:=by rw[pQ,gu,hn]
 have n2:e2.n=12:=by rw[E6,gu,n1]
 have n3:e3.n=12:=by rw[Td,gu,n2]
 have n4:e4.n=12:=by rw[NA,gu,n3]
 have n5:e5.n=12:=by rw[he5,gu,n4]
 have n6:e6.n=12:=by rw[he6,gu,n5]
 have n7:e7.n=12:=by rw[he7,gu,n6]
 have n8:e8.n=12:=by rw[he8,gu,n7]
 have lT:e1.at 4=.eT t (.agg [.raw u]):=by rw[pQ,dm (by rw[hn];decide)]
 have ey:e1.at 0=.ptr id 0 0 1:=by rw[pQ,iz (by decide),h0]
 have x26:e2.at 6=.bool af:=by rw[E6,dm (by rw[n1];decide)]
 have x24:e2.at 4=.eT t (.agg [.raw u]):=by rw[E6,iz (by decide),lT]
 have x37:e3.at 7=.aU [.agg [.raw u],.bool ab]:=by rw[Td,dm (by rw[n2];decide)]
 have x47:e4.at 7=.aU [.agg [.raw u],.bool ab]:=by rw[NA,iz (by decide),x37]
 have x58:e5.at 8=.bool ab:=by rw[he5,iz (by decide),NA,dm (by rw[n3];decide)]
 have x69:e6.at 9=.agg [.raw u]:=by rw[he6,iz (by decide),he5,dm (by rw[n4];decide)]
 have x62:e6.at 2=.ptr G.n 0 0 1:=by rw[he6,dm (by rw[n5];decide)]
 have x72:e7.at 2=.ptr G.n 0 0 1:=by rw[he7];exact x62
 have x8:e8.at 10=.ptr G.n 0 0 1:=by rw[he8,dm (by rw[n7];decide)]
 have x9:e9.at 11=.raw u:=by rw[he9,dm (by rw[n8];decide)]
 have x90:e9.at 0=.ptr id 0 0 1:=by
  rw[he9,iz (by decide),he8,iz (by decide),he7];show e6.at 0=_;rw[he6,iz (by decide),he5,iz (by decide),NA,iz (by decide),Td,iz (by decide),E6,iz (by decide),ey]
 refine aG_ (e1:=e1) (e2:=e9.put ah .undef) (v:=.aU []) H.fh H.hb H.name (by rw[H.nh];simp) ?_ ?_ (λfn=>?_) (λS m=>rfl) ?_
 .rw[<-aKl,H.lB0];simp[rI,H.ob0.op]
 .rw[H.lB0,hE];have:bE b0 B0 E0=ab:=H.ob0.MS _ _;simp[sC,this,rI,H.ob0.op,H.ob0.dst,pQ]
 .refine .aHX (.seq (e1:=e2) (aG:=G) (wa:=[]) (HD H.lB3 (.vW H.ob3 (v:=.bool af) ?_ (by rw[<-E6];exact .nil))) (.cond (t:=af) (by exact x26) ?_)) az
  .simp only[aN,H.ob3.op,aT,lift];rw[lT,H.eq1];rfl
  .rw[aY (by decide)]
   refine .seq (e1:=e5) (aG:=G) (wa:=[]) (HD H.lB5 (.vW H.ob5 (v:=.aU [.agg [.raw u],.bool ab]) (aG:=G) ?_ (by
    rw[<-Td]
    refine .vW H.ob6 (v:=.bool ab) (aG:=G) ?_ (by
     rw[<-NA];refine .vW H.ob7 (v:=.agg [.raw u]) (aG:=G) ?_ (by rw[<-he5];exact .nil);simp only[aN,H.ob7.op,aT,x47];rfl)
    simp only[aN,H.ob6.op,aT,x37];rfl))) (.cond (t:=ab) (by exact x58) ?_)
   .simp only[aN,H.ob5.op,aT,x24,H.ut,H.zt];simp;rfl
   .rw[aW rfl]
    refine .seq (e1:=e7) (aG:=(G.add (.cells [.int 0] 0 0)).put G.n (.cells [.raw u] 0 0)) (wa:=[]) (HD H.lB6 (.vW H.ob8 (v:=.ptr G.n 0 0 1) (aG:=G.add (.cells [.int 0] 0 0)) ?_ (by
     rw[<-he6];refine .vW H.ob9 (v:=.undef) (aG:=(G.add (.cells [.int 0] 0 0)).put G.n (.cells [.raw u] 0 0)) ?_ (by rw[<-he7];exact .nil);simp only[aN,H.ob9.op,aT,x62,x69,H.st,St.kB,if_true];rw[aW ⟨UT _,rfl,XS _,trivial,XS _,by simp[aD,hu]⟩];rfl))) (HD H.lB7 (.vW H.oc0 (v:=.ptr G.n 0 0 1) (aG:=(G.add (.cells [.int 0] 0 0)).put G.n (.cells [.raw u] 0 0)) ?_ (by
     rw[<-he8]
     refine .vW H.oc1 (v:=.raw u) (aG:=(G.add (.cells [.int 0] 0 0)).put G.n (.cells [.raw u] 0 0)) ?_ (by
      rw[<-he9];refine .vW H.oc2 (v:=.undef) (aG:=Dy G id (.raw u)) ?_ .nil;have cg:¬G.n=id:=ak;simp only[aN,H.oc2.op,aT,x90,x9,H.se,St.eF,St.kB,cg,if_false,bx];rw[aW ⟨UT _,rfl,XS _,trivial,XS _,by simp[aD,hu]⟩];rfl)
     simp only[aN,H.oc1.op,aT,x8,H.se,St.eF,if_true];rw[aW ⟨XS _,XS _,XS _⟩,aGT H.ae H.se];rfl)))
    .simp only[aN,H.ob8.op,H.zt];rfl
    .simp only[aN,H.oc0.op,aT,x72,H.ut,H.fl.1,H.fl.2.1,H.fl.2.2,H.se];rfl
 .simp[fv,H.resh]
def uQ.X6(H:uQ P g h t et T y f0 f1 A0 A1 A2 A3 B0 B3 B4 B5 B6 B7 a0 a1 a2 a3 a4 a5 b0 b3 b4 b5 b6 b7 b8 b9 c0 c1 c2 i0 i1 i2 i3 j0 j3 j4 j5 j6 j7 ι x3 bt):KD P g t:=by
 intro N cl f PJ G RW PW RW0 rX hN hX hR YS;have hn:(fV [cl] f0.ntmps).n=6:=by rw[(jd (t:=0) (by grind [H.nt])).1,H.nt]
 have h0:(fV [cl] f0.ntmps).at 0=cl:=by rw[(jd (t:=0) (by grind [H.nt])).2 az];rfl
 refine eO.ayP H.fn H.fb (by grind [H.nt]) ?_;generalize hE:fV [cl] f0.ntmps=E0 at hn h0;obtain⟨e1,pQ⟩:∃e1,e1=E0.put (aa 2) (.ptr G.n 0 0 1):=⟨_,rfl⟩;obtain⟨e2,E6⟩:∃e2,e2=(e1.put (aa 3) (.fn (.func h) [] [.ptr G.n 0 0 1])).put ah .undef:=⟨_,rfl⟩;obtain⟨e4,NA⟩:∃e4,e4=e2.put (aa 4) cl:=⟨_,rfl⟩;have n1:e1.n=6:=by rw[pQ,gu,hn]
 have n2:e2.n=6:=by rw[E6,gu,gu,n1]
 have n4:e4.n=6:=by rw[NA,gu,n2]
 have iW:e1.at 2=.ptr G.n 0 0 1:=by rw[pQ,dm ak]
 have NB:(e1.put (aa 3) (.fn (.func h) [] [.ptr G.n 0 0 1])).at 3=.fn (.func h) [] [.ptr G.n 0 0 1]:=dm ak;have Lx:e2.at 2=.ptr G.n 0 0 1:=by rw[E6];show(e1.put (aa 3) _).at 2=_;rw[iz (by decide),iW]
 have BC:e2.at 0=cl:=by rw[E6];show(e1.put (aa 3) _).at 0=_;rw[iz (by decide),pQ,iz (by decide),h0]
 have x44:e4.at 4=cl:=by rw[NA,dm ak]
 have x42:e4.at 2=.ptr G.n 0 0 1:=by rw[NA,iz (by decide),Lx]
 have aFo:kA P (.fn (.func h) [] [.ptr G.n 0 0 1]) []=aa (.enter h [.ptr G.n 0 0 1]):=by
  simp_all[kA,H.fh,H.hb,H.name]
 refine .asP (fn:=0) (e1:=e1) (wa:=[]) (aG:=G.add (.cells [.int 0] 0 0)) (HD H.lA0 (.vW H.oa0 (v:=.ptr G.n 0 0 1) ?_ (by rw[<-pQ];exact .nil))) hN ?_
 .simp only[aN,H.oa0.op,H.ze];rfl
 refine .asP (fn:=0) (e1:=e2) (wa:=[.call h [.ptr G.n 0 0 1]]) (aG:=G.add (.cells [.int 0] 0 0)) (HD H.lA1 (.vW (aG:=G.add (.cells [.int 0] 0 0)) H.oa1 (v:=.fn (.func h) [] [.ptr G.n 0 0 1]) ?_ ?_)) hN ?_
 .simp only[aN,H.oa1.op];show ret (IV.fn _ [] [aT e1 (.tmp 2)]) _=_;simp only[aT,iW];rfl
 .refine .defer (d:=.call h [.ptr G.n 0 0 1]) (H.oa2.MS _ _) ?_ (by rw[H.oa2.dst,<-E6];exact .nil)
  simp_all[aN,H.oa2.op,aT]
 have leave:∀{ex:Ex} {e5:aK} {mi:aF IV} {dJ oI:St} {x:IV},e5.at 2=.ptr G.n 0 0 1->(((ex=.normal\/ex=.ret)/\mi=ah)\/∃u,ex=.dh u/\mi=aa u)->
  (∃S,gg P S/\cG S/\jR S 0 [.call h [.ptr G.n 0 0 1]] mi dJ=aa (ah,oI))->oI.n<=N->oI.at G.n=aa (.cells [x] 0 0)->RW0 x oI->
  ∃S mi TE v,gg P S/\cG S/\(((ex=.normal\/ex=.ret)/\mi=ah)\/∃u,ex=.dh u/\mi=aa u)/\jR S 0 [.call h [.ptr G.n 0 0 1]] mi dJ=aa (ah,TE)/\TE.n<=N/\fv P f0 e5 TE=aa v/\RW0 v TE:=by
  intro ex e5 mi dJ oI x h2 hex ⟨S,s1,s2,s3⟩ Ba bx yu;refine⟨S,mi,oI,x,s1,s2,hex,s3,Ba,?_,yu⟩;simp only[fv,H.res,h2,H.se,bx];rw[aW ⟨XS _,XS _,XS _⟩,aGT H.ae H.se]
 refine .ofD (.seq (.Ty (CW:=λex e5 dJ=>(∃v,ex=.normal/\e5=e4.put (aa 5) v/\RW v dJ)\/∃v,ex=.dh v/\e5=e4/\PW v dJ) (.region ?_) ?_))
 .rw[H.lA2];refine .vW (aG:=G.add (.cells [.int 0] 0 0)) H.oa3 (v:=cl) ?_ hN ?_
  .simp only[aN,H.oa3.op,aT,BC];rfl
  .rw[<-NA];refine .acR (H.oa4.MS _ _) (f:=f) (av:=PJ) ?_ hX (λv dJ hv=>⟨(hR v dJ hv).2.1,?_⟩) λv dJ hv=>.inr ⟨v,rfl,rfl,hv⟩
   .simp only[aN,H.oa4.op,aT]
    grind
   .rw[H.oa4.dst];exact .nil (.inl ⟨v,rfl,rfl,hv⟩)
 .intro ex e5 dJ hc;rcases hc with⟨v,rfl,rfl,hv⟩|⟨v,rfl,rfl,hv⟩
  .have⟨r1,r2,r3⟩:=hR v dJ hv;have x52:(e4.put (aa 5) v).at 2=.ptr G.n 0 0 1:=by rw[iz (by decide),x42]
   refine⟨r2,λ_=>?_,λh=>bH rfl h⟩;refine .seq (.Ty (CW:=λex e6 oI=>ex=.normal/\e6=(e4.put (aa 5) v).put ah .undef/\oI=dJ.put G.n (.cells [.int 0] 0 0)) (.region ?_) ?_)
   .rw[H.lA3];refine .vW H.oa5 (v:=.undef) (aG:=dJ.put G.n (.cells [.int 0] 0 0)) ?_ r2 (.nil ⟨rfl,rfl,rfl⟩);simp only[aN,H.oa5.op,aT,x52,H.se,r1];rfl
   .rintro ex e6 oI ⟨rfl,rfl,rfl⟩;refine⟨r2,λ_=>.Ty (.ret (CW:=λex e6 oI=>ex=.ret/\e6=(e4.put (aa 5) v).put ah .undef/\oI=dJ.put G.n (.cells [.int 0] 0 0)) ⟨rfl,rfl,rfl⟩) ?_,λh=>bH rfl h⟩;rintro ex e6 oI ⟨rfl,rfl,rfl⟩;exact leave (by exact x52) (.inl ⟨.inr rfl,rfl⟩) (H.asQ _ _) r2 az r3
  .obtain⟨u,rfl,hu,r1,r2,r3,r4⟩:=YS v dJ hv;refine⟨ak,λh=>bH h az,λ_=>?_⟩;exact leave x42 (.inr ⟨_,rfl,rfl⟩) (H.asR G.n u hu dJ r3 r1) r2 (by simp[Dy]) r4
end
end Go.Ev
namespace Go.Proofs.YtabefplkfkfdfaaGreat
open Go Go.Ev
def asS:(λu:ZQ=>vM Z2 .eql 20 (.tmp 4) (.const .nilIface) (.eT 221 (.agg [.raw u])) (.raw .nilIface))=λ_=>aa (.bool af):=by kernel_rfl
def ayQ(u:ZQ):vM Z2 .eql 20 (.tmp 4) (.const .nilIface) (.eT 221 (.agg [.raw u])) (.raw .nilIface)=aa (.bool af):=congrFun asS u
def ajY:KD Z2 151 221:=by
 apply uQ.X6 (P:=Z2) (g:=151) (h:=190) (t:=221) (et:=38) (f0:=Tryz.f151) (f1:=Tryz.f190);constructor
 case fn=>exact Tryz.func151
 case fh=>exact Tryz.func190
 case fb=>exact rfl
 case hb=>exact rfl
 case nt=>exact rfl
 case nh=>exact rfl
 case name=>decide
 case res=>exact rfl
 case resh=>exact rfl
 case lA0=>exact rfl
 case lA1=>exact rfl
 case lA2=>exact rfl
 case lA3=>exact rfl
 case lB0=>exact rfl
 case lB3=>exact rfl
 case lB4=>exact rfl
 case lB5=>exact rfl
 case lB6=>exact rfl
 case lB7=>exact rfl
 case oa0=>exact⟨rfl,rfl,rfl⟩
 case oa1=>exact⟨rfl,rfl,rfl⟩
 case oa2=>exact⟨rfl,rfl,rfl⟩
 case oa3=>exact⟨rfl,rfl,rfl⟩
 case oa4=>exact⟨rfl,rfl,rfl⟩
 case oa5=>exact⟨rfl,rfl,rfl⟩
 case ob0=>exact⟨rfl,rfl,rfl⟩
 case ob3=>exact⟨rfl,rfl,rfl⟩
 case ob4=>exact⟨rfl,rfl,rfl⟩
 case ob5=>exact⟨rfl,rfl,rfl⟩
 case ob6=>exact⟨rfl,rfl,rfl⟩
 case ob7=>exact⟨rfl,rfl,rfl⟩
 case ob8=>exact⟨rfl,rfl,rfl⟩
 case ob9=>exact⟨rfl,rfl,rfl⟩
 case oc0=>exact⟨rfl,rfl,rfl⟩
 case oc1=>exact⟨rfl,rfl,rfl⟩
 case oc2=>exact⟨rfl,rfl,rfl⟩
 case ze=>kernel_rfl
 case se=>kernel_rfl
 case ae=>kernel_rfl
 case zt=>kernel_rfl
 case st=>kernel_rfl
 case ut=>exact Tryz.underlying221
 case fl=>exact⟨rfl,rfl,rfl⟩
 case eq0=>kernel_rfl
 case eq1=>exact ayQ
abbrev aR(r:Rl):IV:=.agg [iS r.name,db r.aA,db r.aC,gw r.aL,gw r.bC,iI r.vars]
section
variable{k0 k1 k2 k3 k4 k5 k6 k7 k8 k9 k10 Lo Qw:aj IV->Prop}
structure tf(ds:aj De)(r:Rl):Prop where
 d:Sm ds
 s:iF r
 n:pB r
 f:gy r
variable{ds:aj De}{r:Rl}{n:Nat}
theorem tf.aA(h:tf ds r):r.aA.length<=3/\∀a∈r.aA,vI a/\GP a:=
 ⟨by have:=h.s.h;omega,λa ha=>⟨h.n.hs a (YR _ ha),λt ht=>(h.f.hs a (YR _ ha) t ht).2⟩⟩
theorem tf.aC(h:tf ds r):r.aC.length<=3/\∀a∈r.aC,vI a/\GP a:=
 ⟨by have:=h.s.h;omega,λa ha=>⟨h.n.hs a (JU _ ha),λt ht=>(h.f.hs a (JU _ ha) t ht).2⟩⟩
theorem tf.aL(h:tf ds r):r.aL.length<=6/\∀a∈r.aL,tR a/\GQ a:=
 ⟨h.s.g,λa ha=>⟨h.n.gs a (YR _ ha),λt ht=>((h.f.gs a (YR _ ha)).2 t ht).2⟩⟩
theorem tf.bC(h:tf ds r):r.bC.length<=6/\∀a∈r.bC,tR a/\GQ a:=
 ⟨h.s.b,λa ha=>⟨h.n.gs a (JU _ ha),λt ht=>((h.f.gs a (JU _ ha)).2 t ht).2⟩⟩
def asT{l:aj At}(hl:l.length<=n)(h:∀a∈l,vI a/\GP a):(mO l).length<=n*1048577:=
 YE (OC λa ha=>aH_ (h a ha).2) (XX _ hl)
def ajZ{l:aj Gl}(hl:l.length<=n)(h:∀a∈l,tR a/\GQ a):(oC l).length<=n*1048577:=
 YE (OC λa ha=>aH_ (h a ha).2) (XX _ hl)
def abo(h:tf ds r):(eN [r.aA,r.aC]).length<=100000000/\CC 1419 ab [YL [r.aA,r.aC]] (iL (eN [r.aA,r.aC])):=by
 have h1:=asT h.aA.1 h.aA.2;have h2:=asT h.aC.1 h.aC.2;have hl:(eN [r.aA,r.aC]).length<=100000000:=by simp[eN, -QM];omega
 refine⟨hl,ayN ab _ az (λl hl=>?_) ak⟩;simp at hl;rcases hl with rfl|rfl
 .exact⟨by have:=h.aA.1;unfold Sm;omega,h.aA.2⟩
 .exact⟨by have:=h.aC.1;unfold Sm;omega,h.aC.2⟩
def aoG(h:tf ds r):(d_ [r.aL]).length<=100000000/\CC 1420 ab [Uf [r.aL]] (iL (d_ [r.aL])):=by
 have h1:=ajZ h.aL.1 h.aL.2;have hl:(d_ [r.aL]).length<=100000000:=by simp[d_, -QM];omega
 refine⟨hl,ams ab _ az (λl hl=>?_) ak⟩;simp at hl;rcases hl with rfl;exact⟨by have:=h.aL.1;unfold Sm;omega,h.aL.2⟩
def aoH(h:tf ds r):(d_ [r.aL,r.bC]).length<=100000000/\CC 1420 ab [Uf [r.aL,r.bC]] (iL (d_ [r.aL,r.bC])):=by
 have h1:=ajZ h.aL.1 h.aL.2;have h2:=ajZ h.bC.1 h.bC.2;have hl:(d_ [r.aL,r.bC]).length<=100000000:=by simp[d_, -QM];omega
 refine⟨hl,ams ab _ az (λl hl=>?_) ak⟩;simp at hl;rcases hl with rfl|rfl
 .exact⟨by have:=h.aL.1;unfold Sm;omega,h.aL.2⟩
 .exact⟨by have:=h.bC.1;unfold Sm;omega,h.bC.2⟩
def amy(aH:Bool)(z:IV):CC 1069 aH [iI 221] z:=by
 have h:=sR.X6 (aH:=aH) (z:=z) (n:=Z2.funcs.size) (f:=151) (t:=221) (by rw[gk];decide) ajY;rw[gk]at h;unfold CC;rw[gk];exact h
end
def gz(l:aj At):aj Tm:=(l.map At.ts).flatten
def qd(l:aj Gl):aj Tm:=(l.map Gl.ts).flatten
variable{i:Nat}{l:aj At}{t:Tm}
def Dm(h:i<l.length):gz (l.take (i+1))=gz (l.take i)++l[i].ts:=by
 unfold gz;rw[ZN h,Nj,Uk];simp
def aev{l:aj Gl}(h:i<l.length):qd (l.take (i+1))=qd (l.take i)++l[i].ts:=by
 unfold qd;rw[ZN h,Nj,Uk];simp
def F7:t∈gz l↔∃a∈l,t∈a.ts:=by
 grind [gz]
def aHW{l:aj Gl}:t∈qd l↔∃a∈l,t∈a.ts:=by
 grind [qd]
def jQ{ts:aj Tm}(h:∀t∈ts,eH t):Vr (bg ts):=by
 show Vr (Ew (fm ts));rw[<-Ey];exact Vr.nil.dY (aeq h)
def v203(r:Rl)(h:iF r)(hf:gy r):CC 144 af [cy r] (iL (bg (gz (r.aA++r.aC)))):=by
 refine CC.w6 ays kr (λ_=>kr) (by simpa using fO r) cE ?_;have xz:=Xx r (by have:=h.h;omega);have hl:=h.h;have h1:=h.hs;have h2:=hf.hs;rw[<-UR]at hl;rw[bQ]at xz⊢;generalize r.aA++r.aC=hs at xz hl h1 h2⊢;simp[agR,UU,aw];exists _,xz;simp;refine aJ hs.length (λi (a:aj Tm)=>[iI i,iT a]) (λi a=>a=gz (hs.take i)/\a.length<=8*i/\∀t∈a,WF t) [] ?_ (by simp[gz]) λi a hi hI=>?_
 .rfl
 have⟨rS,iE,gx⟩:=hI;by_cases aq:i<hs.length
 .have hw:=aS aq ak;have hm:=Z4 aq;have hk:=h1 _ hm;have hc:=FZ (a:=a) (b:=hs[i].ts) ak;simp[UU,aq,hw,lI aq,aw,hc]
  exact .mk (a++hs[i].ts) az ak ⟨by rw[Dm aq,rS],aI,λt ht=>by
   grind⟩
 .rw[Wg ak]at rS;have hb:=amq a ak gx;simp[UU,aq];rw[rS]at hb⊢;exact⟨_,hb,az⟩
def sq(r:Rl):aj Tm:=gz (r.aA++r.aC)++qd (r.aL++r.bC)
def aCR(r:Rl)(h:iF r)(hf:gy r):CC 77 af [cy r] (iL (bg (sq r))):=by
 refine CC.w6 aym kr (λ_=>kr) (by simpa using fO r) cE ?_;have xz:=Xx r (by have:=h.h;omega);have Ez:=ajR r (by have:=h.g;have:=h.b;omega);have hl:=h.h;have QB:r.aL.length+r.bC.length<=12:=by have:=h.g;have:=h.b;omega
 have h1:=h.hs;have h2:=hf.hs;have g1:=h.gs;have g2:=hf.gs;unfold sq;rw[<-UR]at hl QB;rw[bQ]at xz Ez⊢;generalize r.aA++r.aC=hs at xz hl h1 h2⊢;generalize r.aL++r.bC=gs at Ez QB g1 g2⊢;simp[agM,UU,aw];exists _,xz;simp;refine aJ hs.length (λi (a:aj Tm)=>[iI i,iT a]) (λi a=>a=gz (hs.take i)/\a.length<=8*i/\∀t∈a,WF t) [] ?_ (by simp[gz]) λi a hi hI=>?_
 .simp[UU]
 have⟨rS,iE,gx⟩:=hI;by_cases aq:i<hs.length
 .have hw:=aS aq ak;have hm:=Z4 aq;have hk:=h1 _ hm;have hc:=FZ (a:=a) (b:=hs[i].ts) ak;simp[UU,aq,hw,lI aq,aw,hc]
  exact .mk (a++hs[i].ts) az ak ⟨by rw[Dm aq,rS],eE,λt ht=>by
   rcases ZV.1 ht with ht|ht
   .exact gx t ht
   .exact h2 _ hm t ht⟩
 .rw[Wg ak]at rS;simp[UU,aq];exists _,Ez;simp;refine aJ gs.length (λi (a:aj Tm)=>[iI i,iT a]) (λi a=>a=gz hs++qd (gs.take i)/\a.length<=24+8*i/\∀t∈a,WF t) a ?_ ⟨by simp[qd,rS],ak,gx⟩ λj a hj hJ=>?_
  .simp[UU]
  have⟨oL,cC,gD⟩:=hJ;by_cases aq:j<gs.length
  .have hw:=aS aq ak;have hm:=Z4 aq;have hk:=g1 _ hm;have hc:=FZ (a:=a) (b:=gs[j].ts) ak;simp[UU,aq,hw,sj aq,aw,hc]
   exact .mk (a++gs[j].ts) az ak ⟨by rw[aev aq,oL,ZZ],eE,λt ht=>by
    rcases ZV.1 ht with ht|ht
    .exact gD t ht
    .exact(g2 _ hm).2 t ht⟩
  .rw[Wg ak]at oL;have hb:=amq a ak gD;simp[UU,aq];rw[oL]at hb⊢;exact⟨_,hb,az⟩
structure A5(ds:aj De)(r:Rl):Prop where
 h:∀a∈r.aA++r.aC,ie ds a.s a.ts.length=ab
 c:BB ds (r.aL++r.bC)
 g:∀g∈r.aL,mz g.op=ab\/g.op=1
 b:∀g∈r.bC,mz g.op=af
 v:∀g∈r.aL,∀v∈bg g.ts,v∈bg (gz (r.aA++r.aC))
def v154(ds:aj De)(hd:Sm ds)(r:Rl)(h:iF r)(hf:gy r):∃n,(n=0↔A5 ds r)/\CC 78 af [rC ds,cy r] (iI n):=by
 refine CC.Si _ ayo kr (λ_=>kr) (by intro x hx;rcases ZP.1 hx with rfl|hx;exact Ow _;obtain rfl:=Z3.1 hx;exact fO r) cE ?_;have YT:=v203 r h hf
 have WK:Vr (bg (gz (r.aA++r.aC))):=jQ λt ht=>by
  have⟨a,ha,ht⟩:=F7.1 ht;exact(hf.hs a ha t ht).2
 have asU:=WK.len;have xz:=Xx r (by have:=h.h;omega);have Ez:=ajR r (by have:=h.g;have:=h.b;omega);have hl:=h.h;have QB:r.aL.length+r.bC.length<=12:=by have:=h.g;have:=h.b;omega
 have hg:=h.g;have hb:=h.b;have g2:=hf.gs;have g1:=h.gs;have hM1:=λm:A5 ds r=>m.h;have hM2:=λm:A5 ds r=>m.c;have hM3:=λm:A5 ds r=>m.g;have hM4:=λm:A5 ds r=>m.b;have hM5:=λm:A5 ds r=>m.v;have hM:=λa b c d e=>(⟨a,b,c,d,e⟩:A5 ds r);generalize A5 ds r=M at hM1 hM2 hM3 hM4 hM5 hM⊢;rw[<-UR]at hl QB;rw[bQ]at xz Ez YT⊢;generalize hV:bg (gz (r.aA++r.aC))=YU at YT WK asU hM5 hM;generalize r.aA++r.aC=hs at xz hl hM1 hM;have⟨aCS,aj0,asV⟩:=v201 ds (r.aL++r.bC) hd ak;generalize Ui:r.aL++r.bC=gs at Ez QB asV aj0 hM2 hM;have⟨rn,rk,rr,rg,rb,rv⟩:=r;simp only at*
 simp[agN,UU,aw];exists _,xz;simp;refine aJ hs.length (λi (_:Unit)=>[iI i]) (λi _=>∀a∈hs.take i,ie ds a.s a.ts.length=ab) () ?_ az λi _ hi hI=>?_
 .simp[UU]
 by_cases aq:i<hs.length
 .have hw:=aS aq ak;have⟨b,hz,hb⟩:=asx ds hs[i].s hs[i].ts.length hd;simp[UU,aq,hw,lI aq,aw,Sh];exists _,hb;simp[Sh];by_cases h0:b=0
  .right;exact⟨h0,.mk () rfl ak (bN aq hI (hz.1 h0))⟩
  .left;exact⟨h0,by simp[h0];exactλm=>h0 (hz.2 (hM1 m _ (Z4 aq)))⟩
 have hA:=cb aq hI;simp[UU,aq,aw,Sh];exists _,Ez;simp;exists _,asV;simp[Sh];by_cases h0:aCS=0
 rotate_left
 .left;exact⟨h0,by simp[h0];exactλm=>h0 (aj0.2 (hM2 m))⟩
 right;exists h0;have hB:=aj0.1 h0;refine aJ rg.length (λi (_:Unit)=>[iI i]) (λi _=>∀g∈rg.take i,mz g.op=ab\/g.op=1) () ?_ az λi3 _ hi3 sU=>?_
 .simp[UU]
 by_cases H_:i3<rg.length
 .have hw:=aS H_ ak;have hb:=asy rg[i3].op;have hs3:=λh=>bN (p:=λg:Gl=>mz g.op=ab\/g.op=1) H_ sU h;have Ba:=λm=>hM3 m _ (Z4 H_);simp[UU,H_,hw,sj H_,aw];exists _,hb;cases hq:mz rg[i3].op<;>simp
  .by_cases h0:rg[i3].op=1
   .right;exact⟨h0,.mk () rfl ak (hs3 (.inr h0))⟩
   .left;exact⟨h0,λm=>by have:=Ba m;simp[hq,h0]at this⟩
  .exact .mk () rfl ak (hs3 (.inl hq))
 have hC:=cb H_ sU;simp[UU,H_,aw];refine aJ rb.length (λi (_:Unit)=>[iI i]) (λi _=>∀g∈rb.take i,mz g.op=af) () ?_ az λi2 _ Wo gx=>?_
 .simp[UU]
 by_cases cR:i2<rb.length
 .have hw:=aS cR ak;have hb:=asy rb[i2].op;simp[UU,cR,hw,sj cR,aw];exists _,hb;cases hq:mz rb[i2].op<;>simp
  .exact .mk () rfl ak (bN cR gx hq)
  .exactλm=>by have:=hM4 m _ (Z4 cR);simp[hq]at this
 have hD:=cb cR gx;simp[UU,cR,aw];exists _,YT;simp;refine aJ rg.length (λi (_:Unit)=>[iI i]) (λi _=>∀g∈rg.take i,∀v∈bg g.ts,v∈YU) () ?_ az λi1 _ Wn iE=>?_
 .simp[UU]
 by_cases nL:i1<rg.length
 .have hw1:=aS nL ak;have hm:=Ui▸YR _ (Z4 nL);have hff:=g2 _ (by simpa[Ui]using hm);have hb:=v93 rg[i1] (by have:=g1 _ (by simpa[Ui]using hm);omega) hff.2;have QC:=(jQ λt ht=>(hff.2 t ht).2).len;simp[UU,nL,sj nL,aw];exists _,hb;simp;generalize hl:bg rg[i1].ts=l at*
  refine aJ l.length (λi (_:Unit)=>[iI i]) (λi _=>∀v∈l.take i,v∈YU) () ?_ az λj _ hj hJ=>?_
  .simp[UU]
  by_cases aq:j<l.length
  .have hw:=aS aq ak;have hb:=aCJ YU l[j] ak;simp[UU,aq,hw];exists _,hb;by_cases hq:l[j]∈YU
   .simp[hq];exact .mk () rfl ak (bN aq hJ hq)
   .simp[hq];exactλm=>hq (hM5 m _ (Z4 nL) _ (by rw[hl];exact Z4 aq))
  .have hE:=cb aq hJ;simp[UU,aq,hw1];exact .mk () rfl ak (bN (p:=λg:Gl=>∀v∈bg g.ts,v∈YU) nL iE (by rw[hl];exact hE))
 .simp[UU,nL];exact hM hA hB hC hD (cb nL iE)
def okV(ts:aj Tm)(n:Int):Prop:=(∀(i:Nat) (h:i<(bg ts).length),(bg ts)[i]=(i:Int))/\n=((bg ts).length:Int)
structure xU(ds:aj De)(r:Rl):Prop where
 ne:r.aA++r.aC≠[]
 hs:∀a∈r.aA++r.aC,kJ a=ab
 gs:∀g∈r.aL++r.bC,fF g=ab
 v:okV (sq r) r.vars
 n:r.name=[]\/ic r.name=ab
 m:A5 ds r
variable{a:At}
def EA(h:kJ a=ab):∀t∈a.ts,eH t:=by
 simp only[kJ,VM]at h;exact aG0 h.2
def Aj{a:Gl}(h:fF a=ab):(a.op≠0->mh a.op=a.ts.length)/\∀t∈a.ts,eH t:=by
 unfold fF at h;split at h
 .rename_i h0;exact⟨λh1=>bH h0 h1,EA (a:=⟨a.s,a.ts⟩) h⟩
 .simp only[VM]at h;exact⟨λ_=>of_decide_eq_true h.1.2,aG0 h.2⟩
structure zH(r:Rl):Prop where
 hs:∀a∈r.aA++r.aC,eC a.ts<=1000000000000
 gs:∀a∈r.aL++r.bC,eC a.ts<=1000000000000
def vI.b(h:vI a)(hz:eC a.ts<=1000000000000):Qv a.ts:=⟨h.2.1,h.2.2,hz⟩
def tR.b{a:Gl}(h:tR a)(hz:eC a.ts<=1000000000000):Qv a.ts:=⟨h.2.1,h.2.2,hz⟩
theorem gy.len{r:Rl}(h:gy r):(bg (sq r)).length<=1048577:=by
 refine(jQ λt ht=>?_).len;rcases ZV.1 ht with ht|ht
 .have⟨a,ha,ht⟩:=F7.1 ht;exact(h.hs a ha t ht).2
 .have⟨a,ha,ht⟩:=aHW.1 ht;exact((h.gs a ha).2 t ht).2
def v90(ds:aj De)(hd:Sm ds)(r:Rl)(h:iF r)(hn:pB r)(hz:zH r):∃n,(n=0↔xU ds r)/\CC 28 af [rC ds,cy r] (iI n):=by
 refine CC.Si _ aCa kr (λ_=>kr) (by intro x hx;rcases ZP.1 hx with rfl|hx;exact Ow _;obtain rfl:=Z3.1 hx;exact fO r) cE ?_;have xz:=Xx r (by have:=h.h;omega);have Ez:=ajR r (by have:=h.g;have:=h.b;omega);have hl:=h.h;have QB:r.aL.length+r.bC.length<=12:=by have:=h.g;have:=h.b;omega
 have hg:=h.g;have hb:=h.b;have n1:=hn.hs;have n2:=hn.gs;have z1:=hz.hs;have z2:=hz.gs;have aj1:=hn.for;rw[<-UR]at hl QB;have YV:=aCR r h;have Ju:=v154 ds hd r h;have h89:=v89 r.name hn.n;have Cb:gy r->(bg (sq r)).length<=1048577:=λh=>h.len;have QD:=λm:xU ds r=>m.ne;have QE:=λm:xU ds r=>m.hs;have hO3:=λm:xU ds r=>m.gs;have hO4:=λm:xU ds r=>m.v;have hO5:=λm:xU ds r=>m.n;have hO6:=λm:xU ds r=>m.m;have hO:=λa b c d e f=>(⟨a,b,c,d,e,f⟩:xU ds r);generalize xU ds r=ν at QD QE hO3 hO4 hO5 hO6 hO⊢;generalize A5 ds r=M at hO6 Ju hO;generalize sq r=ar at YV hO4 hO Cb;unfold okV at hO4 hO;rw[bQ]at xz Ez YV Ju⊢;generalize Ue:r.aA++r.aC=hs at xz hl n1 aj1 z1 QD QE hO;generalize Ui:r.aL++r.bC=gs at Ez QB n2 aj1 z2 hO3 hO;have⟨rn,rk,rr,rg,rb,rv⟩:=r;simp only at*
 simp[al8,UU,aw];exists _,xz;simp;exists _,Ez;simp;by_cases z0:hs=[]
 .left;exact⟨z0,λm=>QD m z0⟩
 right;exists z0;right;exists ak;right;exists ak;right;exists ak;refine aJ hs.length (λi (_:Unit)=>[iI i]) (λi _=>∀a∈hs.take i,kJ a=ab) () ?_ az λi _ hi hI=>?_
 .simp[UU]
 by_cases aq:i<hs.length
 .have hw:=aS aq ak;have hm:=Z4 aq;have hb:=v49 hs[i] (n1 _ hm).1 ((n1 _ hm).b (z1 _ hm));simp[UU,aq,hw,lI aq,aw];exists _,hb;cases hq:kJ hs[i]<;>simp
  .exactλm=>by have:=QE m _ hm;simp[hq]at this
  .exact .mk () rfl ak (bN aq hI hq)
 have hA:=cb aq hI;simp[UU,aq];refine aJ gs.length (λi (_:Unit)=>[iI i]) (λi _=>∀a∈gs.take i,fF a=ab) () ?_ az λi1 _ Wn iE=>?_
 .simp[UU]
 by_cases nL:i1<gs.length
 .have hw:=aS nL ak;have hm:=Z4 nL;have hb:=v152 gs[i1] (n2 _ hm).1 ((n2 _ hm).b (z2 _ hm));simp[UU,nL,hw,sj nL,aw];exists _,hb;cases hq:fF gs[i1]<;>simp
  .exactλm=>by have:=hO3 m _ hm;simp[hq]at this
  .exact .mk () rfl ak (bN nL iE hq)
 have hB:=cb nL iE;have hF:=aj1 (λa ha=>EA (hA a ha)) λa ha=>Aj (hB a ha);have YV:=YV hF;have⟨kr,asW,Ju⟩:=Ju hF;have Cb:=Cb hF;generalize bg ar=v at*
 simp[UU,nL];exists _,YV;simp;refine aJ v.length (λi (_:Unit)=>[iI i]) (λi _=>∀(j:Nat) (h:j<v.length),j<i->v[j]=(j:Int)) () ?_ (λ_ _ h=>bH h ak) λi0 _ Kw rS=>?_
 .simp[UU]
 by_cases vR:i0<v.length
 .have hw:=aS vR ak;simp[UU,vR,hw];by_cases he:v[i0]=i0
  .right;exact⟨he,.mk () rfl ak λj hj QF=>by
    rcases aJG.1 QF with QF|rfl
    .exact rS j hj QF
    .exact he⟩
  .left;exact⟨he,λm=>he ((hO4 m).1 i0 vR)⟩
 have hC:=λj hj=>rS j hj ak;simp[UU,vR];by_cases hv:rv=v.length
 rotate_left
 .left;exact⟨hv,λm=>hv (hO4 m).2⟩
 right;exists hv;by_cases gq:rn=[]
 .right;exists gq,_,Ju;simp;rw[asW];exact⟨λm=>hO z0 hA hB ⟨hC,hv⟩ (.inl gq) m,hO6⟩
 .left;exists gq,_,h89;cases hq:ic rn<;>simp
  .exactλm=>by have:=hO5 m;simp[gq,hq]at this
  exists _,Ju;simp;rw[asW];exact⟨λm=>hO z0 hA hB ⟨hC,hv⟩ (.inr hq) m,hO6⟩
structure vK(p:Pg):Prop where
 d:∀d∈p.bU,ic d.s=ab/\0<=d.n/\d.n<=6
 u:∀(i:Nat) (h:i<p.bU.length),ie (p.bU.take i) p.bU[i].s p.bU[i].n=af
 r:∀r∈p.aX,xU p.bU r
def v34(p:Pg)(h:f_ p)(hz:∀r∈p.aX,zH r):∃a n,(n=0↔vK p)/\CC 9 af [bc p] (.aU [iI a,iI n]):=by
 refine CC.ar8 _ aB8 kr t34 (by simpa using cz p) cE ?_;have QD:=λm:vK p=>m.d;have QE:=λm:vK p=>m.u;have hO3:=λm:vK p=>m.r;have hO:=λa b c=>(⟨a,b,c⟩:vK p);generalize vK p=ν at QD QE hO3 hO⊢;have⟨ds,rs⟩:=p;have⟨hd,hr,dn,j8,Tf⟩:=h;simp only at*
 show aed.sat _ _ _ _ [.agg [rC ds,FW rs]];simp[aed,UU,aw];right;exists ak;refine aJ ds.length (λi (_:Unit)=>[iI i]) (λi _=>(∀d∈ds.take i,ic d.s=ab/\0<=d.n/\d.n<=6)/\∀(j:Nat) (h:j<ds.length),j<i->ie (ds.take j) ds[j].s ds[j].n=af) () ?_ ⟨az,λ_ _ h=>bH h ak⟩ λi _ hi hI=>?_
 .simp[UU]
 by_cases aq:i<ds.length
 .have hw:=aS aq ak;have hm:=Z4 aq;have h1:=v89 ds[i].s (dn _ hm);have h2:=aCI (ds.take i) ds[i].s ds[i].n eE;have lk:=ayE (L:=ds) (l:=i) ak;have dw:=λm=>QD m _ hm;simp[UU,aq,hw,R_ aq,aw];exists _,h1;cases b1:ic ds[i].s<;>simp
  .exactλm=>by have:=(dw m).1;simp[b1]at this
  by_cases z1:ds[i].n<0
  .left;exact⟨z1,λm=>by have:=(dw m).2;omega⟩
  right;exists ak;by_cases z2:6<ds[i].n
  .left;exact⟨z2,λm=>by have:=(dw m).2;omega⟩
  right;exists ak;exists _,lk,_,h2;simp;cases b2:ie (ds.take i) ds[i].s ds[i].n<;>simp
  .exact .mk () rfl ak ⟨bN aq hI.1 ⟨b1,ak,ak⟩,λj hj QF=>by
    rcases aJG.1 QF with QF|rfl
    .exact hI.2 j hj QF
    .exact b2⟩
  .exactλm=>by have:=QE m i aq;simp[b2]at this
 have hA:=cb aq hI.1;simp[UU,aq];right;exists ak;refine aJ rs.length (λi (_:Unit)=>[iI i]) (λi _=>∀r∈rs.take i,xU ds r) () ?_ az λi0 _ Kw rS=>?_
 .simp[UU]
 by_cases vR:i0<rs.length
 .have hw:=aS vR ak;have hm:=Z4 vR;have⟨n,hF,hb⟩:=v90 ds ak rs[i0] (j8 _ hm) (Tf _ hm) (hz _ hm);rw[bQ]at hb;simp[UU,vR,hw,nQ vR,aw];exists _,hb;simp;by_cases z:n=0
  .right;exact⟨z,.mk () rfl ak (bN vR rS (hF.1 z))⟩
  .left;exact⟨z,by simp[z];exactλm=>z (hF.2 (hO3 m _ hm))⟩
 .simp[UU,vR];exact hO hA (λj hj=>hI.2 j hj ak) (cb vR rS)
end Go.Proofs.YtabefplkfkfdfaaGreat

