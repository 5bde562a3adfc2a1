/- Lemmas, a part of the proof; no conditions. -/
import Derived.Test.YtabefplkfkfdfaaGreatPAg
import Derived.Test.YtabefplkfkfdfaaGreatPAh
import Derived.Test.YtabefplkfkfdfaaGreatPAk
open Go.Ev.SE renaming den->UU
open Go.Proofs.Tryz renaming prog->Z2,underlying28->aKm,underlying214->aJ9
open List renaming append_eq_nil_iff->aJK,take_length->Wc,length_flatten->QM,replicate->Xp,map_set->aK3,mem_iff_getElem->P7,length_eraseIdx->aJX,mem_of_mem_eraseIdx->aJC,findIdx?_eq_none_iff->aJz,findIdx?_cons->aJ_
open Option renaming bind_some->Z8,map_eq_some_iff->Lq
open And renaming intro->Xb
open Go.IntKind renaming i64->QY
open Go.Value renaming int->P3
open Prod renaming fst->Yd
open Go.Op renaming equal->We,equalIn->NI
open Go.Instr renaming checkKey->ZC,findKey->YA,findAsking->Qu,sameBits->Xi
open Go renaming undef->ZL,TypeId->VK
open Std.Legacy.Range renaming forIn_eq_forIn_range'->aKN,size->aKO
open Option renaming some->aa,none->ah
open Bool renaming true->ab,false->af
set_option linter.all false
namespace Go.Proofs.YtabefplkfkfdfaaGreat
open Go Go.Ev
variable{Q:IV->Prop}{eZ x0 x1 x2 x3 x4 x6 x7 ey gW iW x8 x9 lT nX rD tT tU x5:IV}{k0 k1 k2:aj IV->Prop}
variable{i m:Nat}{r:Rl}
variable{a:aj In}
variable{h:Int}{ts:aj Tm}
variable{gs:aj Gl}
variable{a:At}{hs:aj At}
variable{O:aj IV}{P:Program}{c:aj In}{n k:Nat}
variable{p:Pg}{ps te:aj Int}{x:Pn}
variable{ax:aj Ac}
variable{C:Cr}{k':aj IV->Prop}{ks:aj (aj IV->Prop)}{BC Cv HE:IV}
variable{x:IV}
variable{k:Ac}{y:IV}
variable{t:VK}
def OK:au:=
 (I9 (lE qO gM fS fX (wA 6 7 (FL 8 9))))
def OL:au:=
 (I9 (lE qO gM fS (ph .eql qO eh) (wA 6 7 (FL 8 9))))
def xC:au:=
 (xy .leq 11 1 gV bJ (.test ej (y6 gM gM OK OK) (mY (ph .eql qO eh) .lss gM kO bJ (alE gM OL OL))))
def LK:au:=
 (I9 (lE gV (.i 4) fS ej (wA 6 7 (FL 8 9))))
def LL:au:=
 (MH gV (ry fS ej (wA 6 7 (FL 8 9))))
def pc:au:=
 (y6 bB bB LL LL)
def sx:au:=
 (BY (FQ 3 FI) CQ (wX FI 1) (jr g_ pc) (BY (wX FI 2) (jr iC pc) (wX FI 3) (jr ga pc) (FK (wX FI 4) (jr lG pc))))
def LM:au:=
 (MH gV (ry fS ej (r8 fX 7 (FL 8 9))))
def LN:au:=
 (MH gV (lE fS ej g_ fX (FL 8 9)))
def OM:au:=
 (MH gV (ry fS ej (wA 6 7 (r8 fX 9 Qi))))
def ON:au:=
 (MH gV (ry fS ej (wA 6 7 (ry ga fX Qi))))
def sy:au:=
 (AR (FQ 3 qO) CQ 1 (y6 bB bB LM LM) (AR (yQ 2) (y6 bB bB LN LN) 3 (y6 bB bB OM OM) (FK (yQ 4) (y6 bB bB ON ON))))
def OO:au:=
 (MH gV (lE fS ej (Ae 12 1 0) (Ae 12 1 1) (ry (Ae 12 1 2) (Ae 12 1 3) (o7 13))))
def iu:au:=
 (rz .lss 3 1 fw (my 7 AP 1 (wP 7 11 .eql 11 6 (AR (FQ 3 qO) CQ 1 (jr g_ xC) (AR (yQ 2) (jr iC xC) 3 (jr ga xC) (FK (yQ 4) (jr lG xC)))) (vc 11 0 7 (y6 (.i 2) (.i 2) bJ (I9 (lE gV (.i 2) fX ej (wA 6 7 (FL 8 9))))) 11 0 8 (qW 868 (kI (AL 6 7 8 9)) 11 2 .an (I5 12 (jr (qS 12) (yS 3 lF FI eY (jr AO (CU 11 1 jt bJ (y6 (.i 3) (.i 3) bJ (I9 (lE gV (.i 3) fS ej (lE (Ae 12 1 0) (Ae 12 1 1) (Ae 12 1 2) (Ae 12 1 3) Qi)))))))))) (vc 11 0 9 (y6 (.i 4) (.i 4) LK LK) 11 0 10 (CU 11 1 jt bJ (y6 (.i 5) (.i 5) bJ (I9 (lE gV (.i 5) fS ej (wA 6 7 (FL 8 9)))))) (vc 11 0 1 (AR (FQ 3 qO) CQ 1 (jr g_ pc) (AR (yQ 2) (jr iC pc) 3 (jr ga pc) (FK (yQ 4) (jr lG pc)))) 11 0 4 (AR (FQ 3 qO) CQ 1 (jr g_ sx) (AR (yQ 2) (jr iC sx) 3 (jr ga sx) (FK (yQ 4) (jr lG sx)))) (vc 11 0 3 (AR (FQ 3 qO) CQ 1 (.test g_ bJ sy) (AR (yQ 2) (.test iC bJ sy) 3 (.test ga bJ sy) (FK (yQ 4) (.test lG bJ sy)))) 11 0 5 (qW 868 (kI (AL 6 7 8 9)) 11 2 .an (I5 12 (jr (qS 12) (CU 11 1 jt bJ (pf 3 lF FI fX (y6 bB bB OO OO)))))) pc)))))) (rz .eql 3 3 (.i 5) (rz .neq 4 5 fN (fC fS eM (.ret fN)) bJ) bJ))
def abY:au:=
 (.loop (lE bB qQ bB eY (lE eY fX eY eY (kT eY AI))) iu)
def abZ:au:=
 (.loop (lE bB qQ bB eY (lE eY eY fX eY (kT eY AI))) iu)
def ab0:au:=
 (.loop (lE bB qQ bB eY (lE eY eY eY fX (kT eY AI))) iu)
def ab1:au:=
 (.loop (lE bB qQ bB eY (lE eY eY eY eY (kT fX AI))) iu)
def QQ:au:=
 (qV 4 (BY (FQ 3 eh) CQ (wX eh 1) (FH abY) (BY (wX eh 2) (FH abZ) (wX eh 3) (FH ab0) (FK (wX eh 4) (FH ab1)))))
def auD:bG Z2 (mP [aP 0 223 7 [6,5,7,8,20] [(2,0),(1,3),(1,2),(1,1),(1,0)]]) 223=QQ:=kr
set_option maxRecDepth 100000 in
def apk:comes ((Y_ Z2 (λ_=>[]) 3000).call 0 14 [] ⟨0,.lf⟩) (iB ab)=ab:=kx
def k14:CC 14 af [] (iB ab):=CC.plain (tQ rfl) (fe.run mixed (λ_ _ _ h=>by cases h) apk) az kr
def akK{t:Tm}(h:t∈mA ts ps):t∈ts:=by
 obtain⟨v,_,h⟩:=XC.1 h;unfold Al at h;split at h
 .split at h
  .rename_i u hu;obtain rfl:=Z3.1 h;exact ZU hu
  .cases h
 .cases h
def auE(s:aj UInt8)(n:Int)(h:ic s=ab)(h0:0<=n)(h6:n<=6):CC 181 af [iS s,iI n] (iI 0):=by
 refine CC.B9 auB kr (λ_=>kr) (qC az az) cE ?_;have Ju:=v83 s;rw[h]at Ju;have z1:¬n<0:=ak;have z2:¬6<n:=ak;simp[am6,UU,aw];exists _,Ju;simp[z1,z2];omega
structure EK(a:Ac):Prop where
 s:ic a.s=ab
 n:0<=a.n/\a.n<=6
 asc:a.ps.Pairwise (·<·)
 v:∀v∈a.ps,0<=v/\v<a.n
def aDB(a:Ac)(h:EK a)(hl:a.ps.length<=8):CC 123 af [lK a] (iI 0):=by
 refine CC.B9 auA kr (λ_=>kr) (jh (qe a)) cE ?_;have akL:=auE a.s a.n h.s h.n.1 h.n.2;have hC:=lK.eq_1 a;have ajQ:=h.asc;have hv:=h.v;rw[hC];simp[am5,UU,aw];exists _,akL;simp;unfold abX;refine aJ a.ps.length (λi (q:Int)=>[iI i,iI q]) (λi q=>∀v∈a.ps.drop i,q<v) (-1) ?_ (by intro v hm;have:=(hv v (by simpa using hm)).1;omega) λi q hi hI=>?_
 .simp[UU]
 by_cases aq:i<a.ps.length
 .have hw:=aS aq ak;have hd:=UQ aq;have hq:¬a.ps[i]<=q:=by have:=hI a.ps[i] (by rw[hd];exact List.mem_cons_self);omega
  have hn:=(hv _ (Z4 aq)).2;have hn:¬a.n<=a.ps[i]:=ak;simp[UU,aq,hw,jf aq,aw,hq,hn];refine .mk a.ps[i] rfl ak λv hm=>?_;have hp:(a.ps.drop i).Pairwise (·<·):=ajQ.sublist (List.drop_sublist _ _);rw[hd,List.pairwise_cons]at hp;exact hp.1 v hm
 .simp[UU,aq]
def auF(b0 b1 b2 b3:Bool)(n:Int)(h1:1<=n)(h4:n<=4)(e0:b0=ab)(e1:1<n->b1=ab)(e2:2<n->b2=ab)(e3:3<n->b3=ab):
 CC 868 ab [.agg [.agg [iB b0,iB b1,iB b2,iB b3]],iI n] (.aU [iB ab,.agg [iB b0,iB b1,iB b2,iB b3]]):=by
 have h:=CC.alL (aH:=ab) (ins:=[[iB b0,iB b1,iB b2,iB b3]]) (outs:=[[iB b0,iB b1,iB b2,iB b3]]) (xs:=[iI n]) (z:=iB ab) (n:=400) (f:=256) auz kr rfl (by simp[aw]) (by
  simp[am4,UU,aw];unfold abW;obtain⟨m,rfl⟩:∃m:Nat,n=m:=⟨n.toNat,ak⟩;refine aJ m (λi (_:Unit)=>[iI i]) (λ_ _=>True) () ?_ trivial λi _ hi _=>?_
  .simp[UU]
  by_cases aq:i<m
  .have hw:=aS aq ak;have hc:i=0\/i=1\/i=2\/i=3:=ak;rcases hc with rfl|rfl|rfl|rfl
   .simp[UU,aq,e0,aw];exact .mk () rfl ak trivial
   .have:=e1 ak;have hz:(1:Int)<m:=ak;simp[UU,hz,this,aw];exact .mk () rfl ak trivial
   .have:=e2 ak;have hz:(2:Int)<m:=ak;simp[UU,hz,this,aw];exact .mk () rfl ak trivial
   .have:=e3 ak;have hz:(3:Int)<m:=ak;simp[UU,hz,this,aw];exact .mk () rfl ak trivial
  .have hz:¬(i:Int)<m:=ak;simp[UU,hz,aw,aZ])
 rw[gk]at h;exact h
inductive rF:In->Prop
 |mt (a b:Int) (t:Tm):0<=a->a<4->0<=b->b<6->oM t->o9 t=ab->rF ⟨1,a,b,eR,[t]⟩
 |ts (g:Gl):tR g->fF g=ab->g.op=1\/5<=g.op->rF ⟨2,0,0,g,[]⟩
 |fd (a b:Int) (ts:List Tm):0<=a->a<4->0<=b->ts.length<=6->(∀t∈ts,oM t/\o9 t=ab)->rF ⟨3,a,b,eR,ts⟩
 |ap (a b:Int):0<=a->a<4->0<=b->b<4->a≠b->rF ⟨4,a,b,eR,[]⟩
 |fr (a b:Int):0<=a->a<40->1<=b->b<=4->rF ⟨5,a,b,eR,[]⟩
 |rm (a:Int):0<=a->a<4->rF ⟨6,a,0,eR,[]⟩
 |kp:rF ⟨7,0,0,eR,[]⟩
 |nt (a b:Int):0<=a->a<40->1<=b->b<=4->rF ⟨8,a,b,eR,[]⟩
 |pu (g:Gl):tR g->fF g=ab->g.op<=4->rF ⟨9,0,0,g,[]⟩
 |cm (a b:Int):0<=a->a<40->0<=b->b<=1048576->rF ⟨10,a,b,eR,[]⟩
def aGW{t:Tm}(h:o9 t=ab):vJ t 200 20=ab:=by
 have e1:∀a b:Nat,decide ((a:Int)<=b)=decide (a<=b):=λa b=>by simp
 rw[vJ,show(200:Int)=((200:Nat):Int)from rfl,show(20:Int)=((20:Nat):Int)from rfl,e1,e1];rw[o9]at h;exact h
def apl(i:In)(hl:i.ts.length<=6)(h:∀t∈i.ts,oM t/\o9 t=ab)(hQ:Q (iB ab)):StQ ir Q [] [encI i]:=by
 have hE:=encI.eq_1 i;rw[hE];unfold ir;refine aJ i.ts.length (λj (_:Unit)=>[iI j]) (λ_ _=>True) () ?_ trivial λj _ hj _=>?_
 .simp[UU]
 by_cases aq:j<i.ts.length
 .have hw:=aS aq ak;obtain⟨h1,h2⟩:=h _ (Z4 aq);obtain⟨k,_,hc⟩:=v159 i.ts[j] h1 200 20 ak ak ak ak;rw[aGW h2,bL]at hc;simp[UU,aq,hw,iJ aq,bL,aw];exists _,hc;simp[aw];exact .mk () rfl ak trivial
 .simp[UU,aq,hQ]
def apm(i:In)(hl:i.ts.length<=6)(h:∀t∈i.ts,oM t/\o9 t=ab)(hQ:Q (iB ab)):StQ uV Q [] [encI i,x1]:=by
 have hE:=encI.eq_1 i;rw[hE];unfold uV;refine aJ i.ts.length (λj (_:Unit)=>[iI j]) (λ_ _=>True) () ?_ trivial λj _ hj _=>?_
 .simp[UU]
 by_cases aq:j<i.ts.length
 .have hw:=aS aq ak;obtain⟨h1,h2⟩:=h _ (Z4 aq);obtain⟨k,_,hc⟩:=v159 i.ts[j] h1 200 20 ak ak ak ak;rw[aGW h2,bL]at hc;simp[UU,aq,hw,iJ aq,bL,aw];exists _,hc;simp[aw];exact .mk () rfl ak trivial
 .simp[UU,aq,hQ]
def aDC(i:In)(h:rF i):CC 222 af [encI i] (iB ab):=by
 refine CC.dB auC kr (λ_=>kr) (jh (aer i)) cE ?_;have h0:=λhl h=>apl (Q:=Ah (·=ab)) i hl h az;have h1:=λx1 hl h=>apm (Q:=Ah (·=ab)) (x1:=x1) i hl h az;cases h with
 |mt a b t a0 a4 b0 b6 hn hr=>
  have h0:=h0 az (by intro u hu;obtain rfl:=Z3.1 hu;exact⟨hn,hr⟩);simp[encI,eR]at h0;simp[zw,encI,eR,UU,aw,a0,a4,b0,b6];exact h0
 |ts g hn hr ho=>
  have h1:=h1 (iB ab) az (by intro u hu;cases hu);have Zs:=v138 g hn;rw[hr]at Zs;simp[encI]at h1;simp[zw,encI,UU,aw];exists _,Zs;by_cases e:g.op=1
  .simp[e]at h1⊢;exact h1
  .have h5:5<=g.op:=ak;simp[e,h5];exact h1
 |fd a b ts a0 a4 b0 hl ht=>
  have h0:=h0 hl ht;simp[encI,eR]at h0;have hz:¬(6:Int)<ts.length:=ak;have Hp:¬(ts.length:Int)<0:=ak;simp[zw,encI,eR,UU,aw,a0,a4,b0,hz,Hp]
  first|exact h0|exact⟨ak,h0⟩
 |ap a b a0 a4 b0 b4 cg=>
  have h0:=h0 az (by intro u hu;cases hu);simp[encI,eR]at h0;simp[zw,encI,eR,UU,aw,a0,a4,b0,b4,cg];exact h0
 |fr a b a0 a4 b0 b4=>
  have h0:=h0 az (by intro u hu;cases hu);simp[encI,eR]at h0;simp[zw,encI,eR,UU,aw,a0,a4,b0,b4];exact h0
 |rm a a0 a4=>
  have h0:=h0 az (by intro u hu;cases hu);simp[encI,eR]at h0;simp[zw,encI,eR,UU,aw,a0,a4];exact h0
 |kp=>
  have h0:=h0 az (by intro u hu;cases hu);simp[encI,eR]at h0;simp[zw,encI,eR,UU,aw];exact h0
 |nt a b a0 a4 b0 b4=>
  have h0:=h0 az (by intro u hu;cases hu);simp[encI,eR]at h0;simp[zw,encI,eR,UU,aw,a0,a4,b0,b4];exact h0
 |pu g hn hr ho=>
  have h1:=h1 (iB ab) az (by intro u hu;cases hu);have Zs:=v138 g hn;rw[hr]at Zs;simp[encI]at h1;simp[zw,encI,UU,aw];exists _,Zs;simp[ho];exact h1
 |cm a b a0 a4 b0 b4=>
  have h0:=h0 az (by intro u hu;cases hu);simp[encI,eR]at h0;simp[zw,encI,eR,UU,aw,a0,a4,b0,b4];exact h0
structure Sf where
 last:Int
 fi:Int
 kept:Bool
 rem:Bool
 b:Int->Bool
 fr:aj Int
inductive Cw(o:Oc):Sf->In->Sf->Prop
 |rm (s:Sf) (i:In):i.op=6->0<=i.a->i.a<4->s.b i.a=ab->s.last<i.a->s.fi<=1->Cw o s i {s with last:=i.a,fi:=1,rem:=s.rem||i.a==o.h}
 |kp (s:Sf) (i:In):i.op=7->s.fi<2->Cw o s i {s with fi:=2,kept:=ab}
 |nt (s:Sf) (i:In):i.op=8->1<=i.b->i.b<=4->(∀v,0<=v->v<i.b->s.b v=ab)->i.b∈s.fr->i.a=o.r->s.fi<3->Cw o s i {s with fi:=3}
 |pu (s:Sf) (i:In):i.op=9->s.fi<=4->Cw o s i {s with fi:=4}
 |cm (s:Sf) (i:In):i.op=10->i.a=o.r->s.fi<5->Cw o s i {s with fi:=5}
 |mt (s:Sf) (i:In):i.op=1->0<=i.a->i.a<4->s.b i.a=ab->s.fi=0->Cw o s i s
 |ap (s:Sf) (i:In):i.op=4->0<=i.a->i.a<4->s.b i.a=ab->0<=i.b->i.b<4->s.b i.b=ab->s.fi=0->Cw o s i s
 |fd (s:Sf) (i:In):i.op=3->0<=i.a->i.a<4->s.b i.a=af->s.fi=0->Cw o s i {s with b:=λv=>v==i.a||s.b v}
 |fr (s:Sf) (i:In):i.op=5->1<=i.b->i.b<=4->(∀v,0<=v->v<i.b->s.b v=ab)->i.a=o.r->s.fi=0->Cw o s i {s with fr:=GS s.fr i.b}
 |ts (s:Sf) (i:In):i.op=2->s.fi=0->Cw o s i s
def pC(o:Oc):Sf->aj In->Sf->Prop
 |s,[],t=>s=t
 |s,i::c,t=>∃u,Cw o s i u/\pC o u c t
variable{o:Oc}{i:In}
def pC.app:∀{c d:aj In} {s t u:Sf},pC o s c t->pC o t d u->pC o s (c++d) u
 |[],_,_,_,_,h1,h2=>by cases h1;grind
 |_::_,_,_,_,_,⟨v,h,h1⟩,h2=>⟨v,h,h1.app h2⟩
def pC.one{s t:Sf}(h:Cw o s i t):pC o s [i] t:=⟨t,h,rfl⟩
def JD(s:Sf):aj IV:=[iI s.last,iI s.fi,iB s.kept,iB s.rem,iB (s.b 0),iB (s.b 1),iB (s.b 2),iB (s.b 3),tV s.fr]
def azy(ks:aj Int)(k:Int):rE Z2 3 (tV ks) (iI k) (iB ab)=aa (tV (GS ks k)):=by
 have h:=ajb (O:=[tV ks,iI k]) (m:=.var 0) (key:=.var 1) (ks:=ks) (k:=k) rfl rfl
 simp_all[ahK,ml,akv]
def azz(ks:aj Int)(k:Int):o_ Z2 3 (tV ks) (iI k) (iB af)=aa (iB (decide (k∈ks))):=by
 have h:=aGO (O:=[tV ks,iI k]) (m:=.var 0) (key:=.var 1) (ks:=ks) (k:=k) rfl rfl
 simp_all[ahL,ml,akv]
def orE{p A:Prop}(h:A):p/\A\/¬p/\A:=aI
def c4{a:Int}(h0:0<=a)(h4:a<4):a=0\/a=1\/a=2\/a=3:=ak
variable{b0 b1 b2 b3 kp rm:Bool}{la:Int}{m:IV}
def SI(hn:n<1000)(hk:k0 [iI (n+1:Nat),iI la,iI 0,iB kp,iB rm,iB b0,iB b1,iB b2,iB b3,m]):
 StQ pc Q [k0] [kz o c,iI n,iI la,iI 0,iB kp,iB rm,iB b0,iB b1,iB b2,iB b3,m,encI i]:=by
 have hw:=aS hn ak
 simp_all[pc,LL,cq]
def apn{st:Int}(hn:n<1000)(hl:la<i.a)(hs:st<=1)(hk:k0 [iI (n+1:Nat),iI i.a,iI 1,iB kp,iB (rm||i.a==o.h),iB b0,iB b1,iB b2,iB b3,m]):
 StQ xC Q [k0] [kz o c,iI n,iI la,iI st,iB kp,iB rm,iB b0,iB b1,iB b2,iB b3,m,encI i]:=by
 have hw:=aS hn ak;have z1:¬i.a<=la:=ak;have z2:¬1<st:=ak;have z3:(st=1)\/¬(st=1):=ak;have hE:=encI.eq_1 i;have hB:=kz.eq_1 o c;rw[hE,hB];cases rm with
 |true=>
  simp[xC,OK,cq]
  grind
 |false=>
  simp[xC,OL,cq]
  grind
def apo(hn:n<1000)(h0:0<=i.b)(h4:i.b<4)(hb:(i.b=0->b0=ab)/\(i.b=1->b1=ab)/\(i.b=2->b2=ab)/\(i.b=3->b3=ab))(hk:k0 [iI (n+1:Nat),iI la,iI 0,iB kp,iB rm,iB b0,iB b1,iB b2,iB b3,m]):
 StQ sx Q [k0] [kz o c,iI n,iI la,iI 0,iB kp,iB rm,iB b0,iB b1,iB b2,iB b3,m,encI i]:=by
 have hy:=SI (Q:=Q) (o:=o) (c:=c) (i:=i) hn hk;have hE:=encI.eq_1 i;rw[hE]at*
 rcases c4 h0 h4 with e|e|e|e
 .have:=hb.1 e;subst this;simp[sx,cq,e]at hy⊢;exact hy
 .have:=hb.2.1 e;subst this;simp[sx,cq,e]at hy⊢;exact hy
 .have:=hb.2.2.1 e;subst this;simp[sx,cq,e]at hy⊢;exact hy
 .have:=hb.2.2.2 e;subst this;simp[sx,cq,e]at hy⊢;exact hy
def apq(hn:n<1000)(h0:0<=i.a)(h4:i.a<4)(hk:k0 [iI (n+1:Nat),iI la,iI 0,iB kp,iB rm,iB (0==i.a||b0),iB (1==i.a||b1),iB (2==i.a||b2),iB (3==i.a||b3),m]):
 StQ sy Q [k0] [kz o c,iI n,iI la,iI 0,iB kp,iB rm,iB b0,iB b1,iB b2,iB b3,m,encI i]:=by
 have hw:=aS hn ak;have hE:=encI.eq_1 i;rw[hE]at*
 rcases c4 h0 h4 with e|e|e|e
 .simp_all[sy,LM,cq]
 .simp_all[sy,LN,cq]
 .simp_all[sy,OM,cq]
 simp_all[sy,ON,cq]
set_option maxHeartbeats 8000000 in
def apr(hn:n<1000)(hi:c[n]?=aa i)(s t:Sf)(h:Cw o s i t)(hk:k0 (iI (n+1:Nat)::JD t)):
 iu.sat Z2 CC Q [k0] ([kz o c,iI n]++JD s):=by
 obtain⟨aq,PK⟩:=Z5.1 hi;have hw:=aS hn ak;have eW:cu 7 (cP c) (iI n)=aa (.agg [iI i.op,iI i.a,iI i.b,iI i.g.op,iS i.g.s,iT i.g.ts,iT i.ts]):=cM (by simp[hi,encI]) rfl;have hE:=encI.eq_1 i;have hB:=kz.eq_1 o c;unfold JD at*
 cases h with
 |rm e a0 a4 hb hl hs=>
  have hy:=apn (Q:=Q) (k0:=k0) (o:=o) (c:=c) (i:=i) (kp:=s.kept) (rm:=s.rem) (b0:=s.b 0) (b1:=s.b 1) (b2:=s.b 2) (b3:=s.b 3) (m:=tV s.fr) hn hl hs hk;rw[hE,hB]at*
  rcases c4 a0 a4 with e2|e2|e2|e2<;>
  .rw[e2]at hb;simp[iu,cq,aq,eW,aw,e,e2,hb]at hy⊢;exact hy
 |kp e hs=>
  rw[hB];have z1:¬2<s.fi:=ak;have z2:¬2=s.fi:=ak;have z3:¬s.fi=2:=ak;simp[iu,cq,aq,eW,aw,e,z1,z2,z3,hw];exact hk
 |nt e b1 b4 hb hf ha hs=>
  rw[hB];have XQ:=auF (s.b 0) (s.b 1) (s.b 2) (s.b 3) i.b b1 b4 (hb 0 ak ak) (λh=>hb 1 ak h) (λh=>hb 2 ak h) (λh=>hb 3 ak h);have hg:=azz s.fr i.b;rw[decide_eq_true hf]at hg;have z1:¬3<s.fi:=ak;have z2:¬3=s.fi:=ak;have z3:¬s.fi=3:=ak;simp[iu,cq,aq,eW,aw,e,z1,z2,z3,hw];refine⟨_,XQ,?_⟩;simp[cq,hg,ha,aZ,aw];exact hk
 |pu e hs=>
  rw[hB];have z1:¬4<s.fi:=ak;simp[iu,LK,cq,aq,eW,aw,e,z1,hw];exact orE hk
 |cm e ha hs=>
  rw[hB];have z1:¬5<s.fi:=ak;have z2:¬5=s.fi:=ak;have z3:¬s.fi=5:=ak;simp[iu,cq,aq,eW,aw,e,ha,z1,z2,z3,hw];exact hk
 |mt e a0 a4 hb hs=>
  have hy:=SI (Q:=Q) (k0:=k0) (o:=o) (c:=c) (i:=i) (la:=s.last) (kp:=s.kept) (rm:=s.rem) (b0:=s.b 0) (b1:=s.b 1) (b2:=s.b 2) (b3:=s.b 3) (m:=tV s.fr) hn (by rw[hs]at hk;exact hk);rw[hE,hB]at*
  rcases c4 a0 a4 with e2|e2|e2|e2<;>
  .rw[e2]at hb;simp[iu,cq,aq,eW,aw,e,e2,hb,hs]at hy⊢;exact hy
 |ap e a0 a4 hb c0 c4' fD hs=>
  have hy:=apo (Q:=Q) (k0:=k0) (o:=o) (c:=c) (i:=i) (la:=s.last) (kp:=s.kept) (rm:=s.rem) (b0:=s.b 0) (b1:=s.b 1) (b2:=s.b 2) (b3:=s.b 3) (m:=tV s.fr) hn c0 c4' ⟨λh=>by rw[h]at fD;exact fD,λh=>by rw[h]at fD;exact fD,λh=>by rw[h]at fD;exact fD,λh=>by rw[h]at fD;exact fD⟩ (by rw[hs]at hk;exact hk);rw[hE,hB]at*
  rcases c4 a0 a4 with e2|e2|e2|e2<;>
  .rw[e2]at hb;simp[iu,cq,aq,eW,aw,e,e2,hb,hs]at hy⊢;exact hy
 |fd e a0 a4 hb hs=>
  have hy:=apq (Q:=Q) (k0:=k0) (o:=o) (c:=c) (i:=i) (la:=s.last) (kp:=s.kept) (rm:=s.rem) (b0:=s.b 0) (b1:=s.b 1) (b2:=s.b 2) (b3:=s.b 3) (m:=tV s.fr) hn a0 a4 (by rw[hs]at hk;exact hk);rw[hE,hB]at*
  rcases c4 a0 a4 with e2|e2|e2|e2<;>
  .rw[e2]at hb;simp[iu,cq,aq,eW,aw,e,e2,hb,hs]at hy⊢;exact hy
 |fr e b1 b4 hb ha hs=>
  rw[hB];have XQ:=auF (s.b 0) (s.b 1) (s.b 2) (s.b 3) i.b b1 b4 (hb 0 ak ak) (λh=>hb 1 ak h) (λh=>hb 2 ak h) (λh=>hb 3 ak h);have hg:=azy s.fr i.b;simp[iu,OO,cq,aq,eW,aw,e,hs,hw];refine⟨_,XQ,?_⟩;simp[cq,hg,ha,aZ,aw];rw[hs]at hk;exact hk
 |ts e hs=>
  have hy:=SI (Q:=Q) (k0:=k0) (o:=o) (c:=c) (i:=i) (la:=s.last) (kp:=s.kept) (rm:=s.rem) (b0:=s.b 0) (b1:=s.b 1) (b2:=s.b 2) (b3:=s.b 3) (m:=tV s.fr) hn (by rw[hs]at hk;exact hk);rw[hE,hB]at*
  simp[iu,cq,aq,eW,aw,e,hs]at hy⊢;exact hy
def Zt(h:Int):Sf:=⟨-1,0,af,af,λv=>v==h,[]⟩
def auG{init:SE}(o:Oc)(c:aj In)(hc:c.length<=200)(s0 t:Sf)(akN:lA Z2 [kz o c] init=aa (iI (0:Nat)::JD s0))(hr:pC o s0 c t)(hs:t.fi=5)(J0:t.rem= !o.k)(hk:t.kept=ab->o.k=ab)(hQ:Q (iB ab)):
 (au.loop init iu).sat Z2 CC Q [] [kz o c]:=by
 refine aJ c.length (λi (s:Sf)=>iI (i:Nat)::JD s) (λi s=>pC o s (c.drop i) t) s0 akN hr λi s hi hI=>?_;by_cases aq:i<c.length
 .have hd:=UQ aq;rw[hd]at hI;obtain⟨u,h1,h2⟩:=hI;exact apr (n:=i) ak (UN aq) s u h1 (.mk u rfl ak h2)
 .rw[ZX ak]at hI;obtain rfl:s=t:=hI;have hB:=kz.eq_1 o c;unfold JD;rw[hB];cases bM:o.k with
  |true=>
   rw[bM]at J0;simp[iu,cq,aq,hs,J0,aw];cases s.kept<;>simp[hQ]
  |false=>
   rw[bM]at J0 hk
   have q8:s.kept=af:=by
    cases h:s.kept with
    |false=>rfl
    |true=>exact bH (hk h) az
   simp[iu,cq,aq,hs,J0,q8,aw,hQ]
def aDD(o:Oc)(c:aj In)(hc:c.length<=200)(h0:0<=o.h)(h4:o.h<4)(t:Sf)(hr:pC o (Zt o.h) c t)(hs:t.fi=5)(J0:t.rem= !o.k)(hk:t.kept=ab->o.k=ab):CC 223 af [kz o c] (iB ab):=by
 refine CC.dB auD kr (λ_=>kr) (jh (.agg _ az)) cE ?_;obtain⟨o1,o2,o3⟩:=o;simp only at h0 h4;have hB:kz ⟨o1,o2,o3⟩ c=.agg [iI o1,iI o2,iB o3,cP c]:=rfl;have hy:=λinit akN=>auG (Q:=Ah (·=ab)) (init:=init) ⟨o1,o2,o3⟩ c hc (Zt o2) t akN hr hs J0 hk az;unfold JD Zt at hy;simp only at hy;rw[hB]at*
 rcases c4 h0 h4 with rfl|rfl|rfl|rfl
 .simp[QQ,cq,aw];unfold abY;exact hy _ (by simp[cq])
 .simp[QQ,cq,aw];unfold abZ;exact hy _ (by simp[cq])
 .simp[QQ,cq,aw];unfold ab0;exact hy _ (by simp[cq])
 .simp[QQ,cq,aw];unfold ab1;exact hy _ (by simp[cq])
structure akO(o:Oc)(c:aj In):Prop where
 len:c.length<=200
 r:0<=o.r/\o.r<40
 h:0<=o.h/\o.h<4
 i:∀i∈c,rF i
 f:∃t,pC o (Zt o.h) c t/\t.fi=5/\t.rem=(!o.k)/\(t.kept=ab->o.k=ab)
variable{i:Nat}{K:aj (aj IV->Prop)}{U:aj De}
def ixI{l:aj In}(h:i<l.length):cu 7 (cP l) (iI (i:Nat))=aa (.agg [iI l[i].op,iI l[i].a,iI l[i].b,iI l[i].g.op,iS l[i].g.s,iT l[i].g.ts,iT l[i].ts]):=cM (by simp[h,encI]) rfl
def aDE(o:Oc)(c:aj In)(h:akO o c):CC 182 af [kz o c] (iI 0):=by
 refine CC.B9 auy kr (λ_=>kr) (jh (.agg _ az)) cE ?_;obtain⟨hl,⟨r0,r1⟩,⟨h0,h4⟩,hi,t,hf,hs,J0,hk⟩:=h;have aDF:=aDD o c hl h0 h4 t hf hs J0 hk;have auH:=λi cX=>aDC i (hi i cX);have hE:=encI.eq_1;have hB:=kz.eq_1 o c;have z1:¬(200:Int)<c.length:=ak;simp only[hE]at auH;rw[hB]at*
 simp[am3,cq,aw,z1,r0,r1,h0,h4];unfold abV;refine aJ c.length (λi (_:Unit)=>[iI i]) (λ_ _=>True) () ?_ trivial λi _ hi _=>?_
 .simp[cq]
 by_cases aq:i<c.length
 .have hw:=aS aq ak;simp[cq,aq,hw,ixI aq,aw];exists _,auH _ (Z4 aq);simp[cq];exact .mk () rfl ak trivial
 .simp[cq,aq,aw];exists _,aDF;simp[cq]
def aG4{es x:SE}{a b:au}:(au.pick es x a b).sat P C Q K O↔∃ds rem,es.den P O=aa (.aU ds)/\(∃r,x.den P O=aa (.aU (.aU ds::.aU rem::r)))/\(rem=[]->a.sat P C Q K O)/\∀i y,rem[i]?=aa y->b.sat P C Q K (O++[y,.aU [.aU ds,.aU (rem.eraseIdx i),y]]):=Iff.rfl
def aGB{k:au}:(au.uniq k).sat P C Q K O↔k.sat P C Q K O:=Iff.rfl
structure jv{B:Type}(cs:aj (B×IV))(F:B->aF IV):Prop where
 n:(cs.map Yd).Nodup
 m:∀k y,(k,y)∈cs↔F k=aa y
section
variable{B:Type}[DecidableEq B]{e:B->IV}{cs:aj (B×IV)}{F:B->aF IV}
theorem jv.nil:jv ([]:aj (B×IV)) λ_=>ah:=⟨az,az⟩
theorem jv.get(h:jv cs F)(hk:zu t e)(k:B)(d:IV):o_ Z2 t (iV e cs) (e k) d=aa ((F k).getD d):=by
 obtain⟨h1,h2⟩:=hk.get h.n k d;cases hF:F k with
 |none=>
  exact h2 λ⟨y,hy⟩=>by rw[h.m,hF]at hy;cases hy
 |some y=>exact h1 y ((h.m k y).2 hF)
theorem jv.ins(h:jv cs F)(hk:zu t e)(k:B)(y:IV):∃cL,jv cL (λq=>if q=k then aa y else F q)/\rE Z2 t (iV e cs) (e k) y=aa (iV e cL):=by
 obtain⟨cL,h1,h2,h3⟩:=hk.ins h.n k y;refine⟨cL,⟨h1,λq z=>?_⟩,h3⟩;rw[h2];by_cases hq:q=k
 .subst hq;simp;exact eq_comm
 .simp[hq,h.m]
end
structure Bk where
 o:Oc
 c:aj In
structure Un where
 s:aj UInt8
 n:Int
 bs:aj Bk
 nv:Bool
 la:Int
def Dr(b:Bk):IV:=.agg [iI b.o.r,iI b.o.h,iB b.o.k,cP b.c]
abbrev zx(l:aj Bk):IV:=.tree 4 (l.map Dr)
@[simp] theorem aDG(l:aj Bk):Pure (zx l):=lS 4 Dr (λa=>⟨_,rfl,az⟩) l
def w8(u:Un):IV:=.agg [iS u.s,iI u.n,zx u.bs,iB u.nv,iI u.la]
abbrev zI(l:aj Un):IV:=.tree 5 (l.map w8)
@[simp] theorem aDH(l:aj Un):Pure (zI l):=lS 5 w8 (λa=>⟨_,rfl,az⟩) l
def lM(us:aj Un)(ax:aj Ac)(rl:Int):IV:=.agg [zI us,dC ax,iI rl]
def auI{l:aj Bk}(h:i<l.length):cu 4 (zx l) (iI (i:Nat))=aa (.agg [iI l[i].o.r,iI l[i].o.h,iB l[i].o.k,cP l[i].c]):=cM (by simp[h,Dr]) rfl
def SJ{l:aj Un}(h:i<l.length):cu 5 (zI l) (iI (i:Nat))=aa (.agg [iS l[i].s,iI l[i].n,zx l[i].bs,iB l[i].nv,iI l[i].la]):=cM (by simp[h,w8]) rfl
structure Sb where
 H:Int->aF De
 A:Int×Int->Bool
inductive LP(ax:List Ac)(U:List De):Sb->In->Sb->Prop
 |fd (s:Sb) (i:In) (j:Nat) (a:Ac):i.op=3->i.b=j->ax[j]?=aa a->i.ts.length=a.ps.length->LP ax U s i ⟨λv=>if v=i.a then aa ⟨a.s,a.n⟩else s.H v,s.A⟩
 |mt (s:Sb) (i:In) (d:De):i.op=1->s.H i.a=aa d->i.b<d.n->LP ax U s i s
 |ap (s:Sb) (i:In):i.op=4->LP ax U s i ⟨s.H,λp=>decide (p=(i.b,i.a))||(decide (p=(i.a,i.b))||s.A p)⟩
 |pu (s:Sb) (i:In):i.op=9->(i.g.op=0->⟨i.g.s,i.g.ts.length⟩∈U)->LP ax U s i s
 |no (s:Sb) (i:In):i.op≠3->i.op≠1->i.op≠4->i.op≠9->LP ax U s i s
def pD(ax:aj Ac)(U:aj De):Sb->aj In->Sb->Prop
 |s,[],t=>s=t
 |s,i::c,t=>∃u,LP ax U s i u/\pD ax U u c t
def pD.app:∀{c d:aj In} {s t u:Sb},pD ax U s c t->pD ax U t d u->pD ax U s (c++d) u
 |[],_,_,_,_,h1,h2=>by cases h1;exact h2
 |_::_,_,_,_,_,⟨v,h,h1⟩,h2=>⟨v,h,h1.app h2⟩
def pD.one{s t:Sb}{i:In}(h:LP ax U s i t):pD ax U s [i] t:=⟨t,h,rfl⟩
def Zw(t:Sb):Prop:=∀x y d,x<y->t.H x=aa d->t.H y=aa d->t.A (x,y)=ab
def fH(H:Int->aF De)(k:Int):aF IV:=(H k).map eD
def fA{B:Type}(A:B->Bool)(p:B):aF IV:=if A p=ab then aa (iB ab)else ah
def aeV(H:Int->aF De)(ds:aj IV):Prop:=∀y∈ds,∃k d,H k=aa d/\y=.aU [iI k,.agg [iS d.s,iI d.n]]
variable{cs:aj (Int×IV)}{n:Int}
def akP{H:Int->aF De}(h:jv cs (fH H)):aeV H (cs.map (EH iI)):=λy hy=>by
 obtain⟨⟨k,v⟩,hq,rfl⟩:=Z6.1 hy;have:=(h.m k v).1 hq;unfold fH at this;obtain⟨d,h1,rfl⟩:=Lq.1 this;exact⟨k,d,h1,rfl⟩
section
variable{k0 k1 k2 k3 k4 k5 k6:aj IV->Prop}
def azA(t:Sb)(hf:Zw t)(ds:aj IV)(Hf:aeV t.H ds)(BI:aj ((Int×Int)×IV))(hA:jv BI (fA t.A))(kx:Int)(dx:De)(hx:t.H kx=aa dx)(rD:IV)(rem:aj IV)
 (hk:k6 [.aU [.aU ds,.aU rem,.aU [iI kx,.agg [iS dx.s,iI dx.n]]]]):
 SD.sat Z2 CC Q [k0,k1,k2,k3,k4,k5,k6] [x0,x1,x2,x3,x4,x5,x6,x7,x8,x9,ey,eZ,.aU ds,iV QP BI,lT,rD,.aU [.aU ds,.aU rem,.aU [iI kx,.agg [iS dx.s,iI dx.n]]]]:=by
 unfold SD;refine fg (λ(a:aj IV×aj IV)=>[.aU (.aU ds::.aU a.1::a.2)]) (λa=>∀y∈a.1,y∈ds) (λa=>a.1.length) (ds,[]) ?_ (λy hy=>hy) λa ha=>?_
 .simp[cq]
 obtain⟨re,r⟩:=a;refine aG4.2 ⟨ds,re,by simp[cq],⟨r,by simp[cq]⟩,λhe=>?_,λi y hy=>?_⟩
 .simp[cq];exact hk
 obtain⟨ky,dy,h1,rfl⟩:=Hf y (ha y (ZU hy))
 have bf:(re.eraseIdx i).length<re.length:=by
  have:=(Z5.1 hy).1;rw[aJX];split<;>omega
 have hn:GK (λ(a:aj IV×aj IV)=>[.aU (.aU ds::.aU a.1::a.2)]) (λa=>∀y∈a.1,y∈ds) (λa=>a.1.length) (re,r) [.aU [.aU ds,.aU (re.eraseIdx i),.aU [iI ky,.agg [iS dy.s,iI dy.n]]]]:=
  .mk (re.eraseIdx i,[.aU [iI ky,.agg [iS dy.s,iI dy.n]]]) rfl (λz hz=>ha z (aJC hz)) bf
 simp[cq,aw,aZ];by_cases e:kx<ky
 rotate_left
 .right;exact⟨ak,hn⟩
 left;refine⟨e,?_⟩;have hb:=ag0 dx.s dy.s dx.n dy.n;simp[hb];by_cases e2:dx.s=dy.s/\dx.n=dy.n
 rotate_left
 .right;exact⟨λh1 h2=>e2 ⟨h1,h2⟩,hn⟩
 left;refine⟨e2,?_⟩
 have hde:dx=dy:=by
  obtain⟨a,b⟩:=dx;obtain⟨c,d⟩:=dy;simp only at e2;rw[e2.1,e2.2]
 have hAt:=hf kx ky dx e hx (hde▸h1);have hg:=hA.get Zr (kx,ky) (iB af);unfold fA at hg;rw[aW hAt]at hg;have hg:o_ Z2 214 (iV QP BI) (.agg [iI kx,iI ky]) (iB af)=aa (iB ab):=hg;simp[hg,aZ];exact hn
def azB(t:Sb)(hf:Zw t)(ds:aj IV)(Hf:aeV t.H ds)(BI:aj ((Int×Int)×IV))(hA:jv BI (fA t.A))(j:Nat)(hj:j<1000)(hk:k4 [iI (j+1:Nat)]):
 StQ SG Q [k0,k1,k2,k3,k4,k5] [x0,x1,x2,x3,x4,x5,x6,iI j,x8,x9,ey,eZ,.aU ds,iV QP BI]:=by
 have hw:=aS hj ak;unfold SG;refine fg (λ(a:aj IV×aj IV)=>[.aU (.aU ds::.aU a.1::a.2)]) (λa=>∀y∈a.1,y∈ds) (λa=>a.1.length) (ds,[]) ?_ (λy hy=>hy) λa ha=>?_
 .simp[cq]
 obtain⟨re,r⟩:=a;refine aG4.2 ⟨ds,re,by simp[cq],⟨r,by simp[cq]⟩,λhe=>?_,λi y hy=>?_⟩
 .simp[cq,hw];exact hk
 obtain⟨kx,dx,h1,rfl⟩:=Hf y (ha y (ZU hy))
 have bf:(re.eraseIdx i).length<re.length:=by
  have:=(Z5.1 hy).1;rw[aJX];split<;>omega
 have hn:GK (λ(a:aj IV×aj IV)=>[.aU (.aU ds::.aU a.1::a.2)]) (λa=>∀y∈a.1,y∈ds) (λa=>a.1.length) (re,r) [.aU [.aU ds,.aU (re.eraseIdx i),.aU [iI kx,.agg [iS dx.s,iI dx.n]]]]:=
  .mk (re.eraseIdx i,[.aU [iI kx,.agg [iS dx.s,iI dx.n]]]) rfl (λz hz=>ha z (aJC hz)) bf
 have Jo:kS 9 (.aU ds) (iB ab)=aa (.int ds.length):=rfl;simp[cq,aw,aZ,Jo,aGB];exact azA t hf ds Hf BI hA kx dx h1 _ _ hn
end
structure JE(cs:aj (Int×IV)):Prop where
 n:(cs.map Yd).Nodup
 v:∀q∈cs,∃n:Int,q.2=iI n
def JE.nil:JE []:=⟨az,by intro q hq;cases hq⟩
theorem JE.get(h:JE cs)(k:Int):∃n:Int,o_ Z2 3 (iV iI cs) (iI k) (iI 0)=aa (iI n):=by
 obtain⟨h1,h2⟩:=vX.get h.n k (iI 0);by_cases hy:∃y,(k,y)∈cs
 .obtain⟨y,hy⟩:=hy;obtain⟨n,hn⟩:=h.v _ hy;simp only at hn;subst hn;exact⟨n,h1 _ hy⟩
 .exact⟨0,h2 hy⟩
def JE.ins(h:JE cs)(k v:Int):∃cL,JE cL/\rE Z2 3 (iV iI cs) (iI k) (iI v)=aa (iV iI cL):=by
 obtain⟨cL,h1,h2,h3⟩:=vX.ins h.n k (iI v);refine⟨cL,⟨h1,λq hq=>?_⟩,h3⟩;rcases(h2 q).1 hq with rfl|⟨_,hq⟩
 .exact⟨v,rfl⟩
 .exact h.v q hq
def rG(ts:aj Tm)(n:Int):Bool:=ts.any λt=>t.n==n
def l_:aj Tm->Bool
 |[]=>ab
 |t::ts=>t.k==1&& !rG ts t.n&&l_ ts
def LQ(ts:aj Tm)(n:Int):aF Nat:=ts.findIdx? λt=>t.n==n
def Cy(ss:aj Tm):aj Tm->Nat->aF (aj Int)
 |[],_=>aa []
 |t::ts,i=>match LQ ss t.n with
  |none=>Cy ss ts (i+1)
  |some j=>if j=i then(Cy ss ts (i+1)).map ((i:Int)::·)else ah
def qj(a b:At):aF Ac:=
 if a.s=b.s/\a.ts.length=b.ts.length/\l_ a.ts=ab/\l_ b.ts=ab then(Cy b.ts a.ts 0).map λps=>⟨a.s,a.ts.length,ps⟩else ah
def th(r:Rl):aF Ac:=match r.aA++r.aC with
 |[a,b]=>if r.aC=[]\/r.aL≠[]then ah else qj a b
 |_=>ah
def EL(l:aj Ac)(k:Ac):aj Ac:=if k∈l then l else l++[k]
def oW(l:aj Ac):aF Ac->aj Ac
 |some k=>EL l k
 |none=>l
def mQ(l:aj Rl):aj Ac:=l.foldl (λax r=>oW ax (th r)) []
def ma(ks:aj Ac)(s:aj UInt8)(ps:aj Int):Bool:=ks.any λk=>k.s==s&&k.ps.all λv=>ps.contains v
def qD:rG ts n=ab↔∃t∈ts,t.n=n:=by simp[rG]
def BJ:∀ts:aj Tm,l_ ts=ab↔(∀t∈ts,t.k=1)/\(ts.map Tm.n).Nodup
 |[]=>by simp[l_]
 |t::ts=>by
  rw[l_,VM,VM,BJ ts,ZM,List.nodup_cons]
  have e:(!rG ts t.n)=ab↔t.n∉ts.map Tm.n:=by
   rw[Bool.not_eq_true',<-Bool.not_eq_true,qD];simp
  rw[e];simp
  grind
def akQ{j:Nat}(hn:(ts.map Tm.n).Nodup)(h:j<ts.length)(he:ts[j].n=n):LQ ts n=aa j:=by
 unfold LQ;rw[List.findIdx?_eq_some_iff_getElem];refine⟨h,by simpa using he,λi hi=>?_⟩;have:=Zj.1 hn i j eE (by simpa using h) hi;simp at this;simpa using λe=>this (e.trans he.symm)
def akR:LQ ts n=ah↔∀t∈ts,t.n≠n:=by
 unfold LQ;rw[aJz];simp
def SK(ss:aj Tm):∀(ts:aj Tm) (i:Nat) (ps:aj Int),Cy ss ts i=aa ps->ps.length<=ts.length
 |[],_,ps,h=>by cases h;simp
 |t::ts,i,ps,h=>by
  rw[Cy]at h;split at h
  .have:=SK ss ts _ ps h;simp;omega
  .split at h
   .obtain⟨qs,h1,rfl⟩:=Lq.1 h;have:=SK ss ts _ qs h1;simp;omega
   .cases h
def aGy(h:th r=aa k)(eG:∀a∈r.aA++r.aC,a.ts.length<=8):k.ps.length<=8:=by
 unfold th at h;split at h
 .rename_i a b hh;split at h
  .cases h
  .unfold qj at h;split at h
   .obtain⟨ps,h1,rfl⟩:=Lq.1 h;have h2:=SK _ _ _ _ h1;have h3:=eG a (by rw[hh];simp);simp only;omega
   .cases h
 .cases h
structure KsP(ks:aj Ac)(n:Nat):Prop where
 l:ks.length<=n
 p:∀k∈ks,k.ps.length<=8
theorem KsP.add{l:aj Ac}{n:Nat}(h:KsP l n){k:aF Ac}(hk:∀x,k=aa x->x.ps.length<=8):KsP (oW l k) (n+1):=by
 cases k with
 |none=>exact⟨by have:=h.l;simp[oW];omega,h.p⟩
 |some k=>
  show KsP (EL l k) (n+1);unfold EL;by_cases hm:k∈l
  .rw[aW hm];exact⟨by have:=h.l;omega,h.p⟩
  .rw[aY hm];refine⟨by have:=h.l;simp;omega,λx hx=>?_⟩;rcases ZV.1 hx with hx|hx
   .exact h.p x hx
   .obtain rfl:=Z3.1 hx;exact hk _ rfl
def JF{l:aj Rl}(h:i<l.length):mQ (l.take (i+1))=oW (mQ (l.take i)) (th l[i]):=by
 unfold mQ;rw[ZN h,List.foldl_append];rfl
def EM(l:aj Rl)(h:∀r∈l,iF r):∀i≤l.length,KsP (mQ (l.take i)) i
 |0,_=>⟨by simp[mQ],by simp[mQ]⟩
 |i+1,hi=>by
  have aq:i<l.length:=ak;rw[JF aq];exact(EM l h i ak).add λx hx=>aGy hx (h _ (Z4 aq)).hs
theorem jv.has{B:Type}[DecidableEq B]{e:B->IV}{cs:aj (B×IV)}{F:B->aF IV}(h:jv cs F)(hk:zu t e)(k:B):EI Z2 t (iV e cs) (e k)=aa (iB (F k).isSome):=by
 obtain⟨b,hb,he⟩:=hk.has cs k
 have:b=(F k).isSome:=by
  rw[Ts,hb,Option.isSome_iff_exists];exact exists_congr λy=>h.m k y
 rw[he,this]
def HK(ts:aj Tm)(n:Int):aF IV:=(LQ ts n).map λj:Nat=>iI j
def ab2(h:i<ts.length)(hn:rG (ts.take i) ts[i].n=af):(λq=>if q=ts[i].n then aa (iI i)else HK (ts.take i) q)=HK (ts.take (i+1)):=by
 funext q;unfold HK LQ;rw[ZN h,List.findIdx?_append];have hl:(ts.take i).length=i:=eE;by_cases e:q=ts[i].n
 .have h0:List.findIdx? (λt=>t.n==q) (ts.take i)=ah:=by
   rw[aJz];intro t ht;have:=λhe=>X1.1 hn (qD.2 ⟨t,ht,he⟩);simpa[e]using this
  rw[aW e,h0];simp[aJ_,e,hl]
 .rw[aY e];have:(ts[i].n==q)=af:=by simpa using λh=>e h.symm
  simp[aJ_,this]
def aps:(HK ts n).isSome=rG ts n:=by
 rw[Ts,qD];unfold HK;rw[Option.isSome_map];unfold LQ;rw[List.findIdx?_isSome];simp
def EN(ts:aj Tm)(i:Nat):Prop:=(∀t∈ts.take i,t.k=1)/\((ts.take i).map Tm.n).Nodup
def HL(h:EN ts i)(hi:ts.length<=i):l_ ts=ab:=by
 unfold EN at h;rw[Wg hi]at h;exact(BJ ts).2 h
def EO(h:EN ts i)(hi:i<ts.length)(h1:ts[i].k=1)(h2:rG (ts.take i) ts[i].n=af):EN ts (i+1):=by
 unfold EN;rw[ZN hi];refine⟨λt ht=>?_,?_⟩
 .rcases ZV.1 ht with ht|ht
  .exact h.1 t ht
  .obtain rfl:=Z3.1 ht;exact h1
 .rw[Nj,List.nodup_append];refine⟨h.2,az,λx hx y hy he=>?_⟩;simp at hy;obtain⟨t,ht,rfl⟩:=Z6.1 hx;exact X1.1 h2 (qD.2 ⟨t,ht,he.trans hy⟩)
def HM(hi:i<ts.length)(h1:ts[i].k≠1):l_ ts=af:=by
 rw[X1];exactλh=>h1 (((BJ ts).1 h).1 _ (Z4 hi))
def HN(hi:i<ts.length)(h2:rG (ts.take i) ts[i].n=ab):l_ ts=af:=by
 rw[X1];intro h;obtain⟨t,ht,he⟩:=qD.1 h2;obtain⟨j,hj,rfl⟩:=List.mem_take_iff_getElem.1 ht;have:=Zj.1 ((BJ ts).1 h).2 j i eE (by simpa using hi) ak;simp at this;exact this he
end Go.Proofs.YtabefplkfkfdfaaGreat

