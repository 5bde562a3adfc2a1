/- A part of the proof, no condition: the checks of the program come to an end: terms; maps keyed by declarations; rows put behind each other. -/
import Derived.Test.YtggffkaadeagbaaGreatEvJ
import Derived.Test.YtggffkaadeagbaaGreatRuA
import Derived.Test.YtggffkaadeagbaaGreatRgA
import Derived.Test.YtggffkaadeagbaaGreatRgR
import Derived.Test.YtggffkaadeagbaaGreatEvR
import Derived.Test.YtggffkaadeagbaaGreatRgI
open Go.Proofs.Tryz renaming prog->ar3,underlying86->awA
open List renaming getElem_mem->asb,mem_singleton->atM,map_map->avL,flatten_append->atu,length_append->asu,mem_map->asO,length_flatten->atv,take_length->avO,getElem?_cons_zero->atF,replicate->asn
open Go.IntKind renaming i64->aso
open Classical renaming em->axL
open Go.Op renaming equalIn->atw,equal->avf
open Option renaming bind_some->asc
open Bool renaming false_eq_true->asD
open Go.Instr renaming findAsking->as0,findKey->atB,sameBits->auL
open Go renaming undef->asQ
set_option linter.all false
namespace Go.Proofs.YtggffkaadeagbaaGreat
open Go Go.Ev
def IU:List Nat:=[123,127,126,186,189,44,79,30,102,9,10,23,31,15,257,149,89,148,198,147,199,50,191,71,214,93,163,49,152,64,164,158,95,108,206,250,213,130,131,107,129,155,34,90,51,202,153,201,200,151,203,150,204,154,91,41,67,101,99,109,157,210,12,26,28,25,14,19,100,40,39,70,69,35,53,52,68,42,58,75,24,27,22,29,61,190,66,133,128,249,121,78,183,83,211]
def IW:List Nat:=[48,118,216]
def IX:List Nat:=[185,188,254]
def IY:List Nat:=[155,159,103]
def Zf:af:=
 (jJ 4 1 bU (oz (uA 0) .lss (uA 0) pS (kK .lss bU (.i 1) pS (kJ .eql 1 0 (jq .geq 1 1 (-2147483648) (jq .leq 1 1 2147483648 (tq 9 1 2 (cB eE (BG eE) (UQ (.rw (BG eE)) 0)) pS) pS) pS) (pW 1 0 1 (kJ .geq 1 1 (jq .leq 1 1 1048576 (tq 9 1 2 (cB eE (BG eE) (UQ (.rw (BG eE)) 0)) pS) pS) pS) (pW 1 0 2 (kJ .neq 1 1 pS (mE eE .gtr eE 6 pS (iC 83 wK (kW 3 3 (iC 211 wK (.nt dO (nf 3 (sW (ES .eql eE 2) (ES .eql eE 2) pS (.aG (uX bU) (wR 815 (uA 0) 1 3 (uX bU) (.aG (wQ 5) (Mz (.rw (wQ 5)) (N5 5 1 0))))))) pS)) (.aG (uX bU) (wR 815 (uA 0) 1 3 (uX bU) (.aG (wQ 4) (Mz (.rw (wQ 4)) (N5 4 1 0))))))))) pS))))))
def ahI:aL:=⟨IU,IW,IX,[],IY⟩
theorem amk:xn ar3 ahI 400 [1] 159=Zf:=by kernel_rfl
def Qb:af:=
 (qw (qX 0) 3 eg 4 bK 3 (lD 5 (ow 871 (nj (oH (ou 4)) (fy 5 5 5 5) bU) (sW (wQ 6) (wQ 6) (Mz UN (N5 6 1 0)) (nw 0 3 (N5 6 1 0))))) (vS (.rw kX) (ou 4)))
def Zg:af:=
 (cB bK bU (.aG eg Qb))
def ahJ:aL:=⟨IU,IW,IX,[⟨1,103,2,[(1,(10,0))],[(0,0)],[],[]⟩],IY⟩
theorem aml:xn ar3 ahJ 400 [1] 103=Zg:=by kernel_rfl
def acU:af:=
 (ve 0 83 jL (vc bK (rm dS .leq dS 6 (wR 815 BN 0 1 tl (BC 2)))))
def amm:aL:=⟨IU,IW,IX,[],IY⟩
theorem aqe:aA ar3 amm 400 false 45=acU:=by kernel_rfl
def Zh:af:=
 (ig (kV 3 0) jL (iC 83 me (vc bK (rm jM .leq jM 6 (wR 815 BN 0 2 tl (BC 2))))) (pW 0 0 1 (kJ .gtr 0 0 (jq .leq 0 0 12 (tq 9 0 1 (ig jM jM (wR 815 BN 0 2 tl (BC 1)) aQ) aQ) aQ) aQ) (pW 0 0 2 (kJ .gtr 0 0 (jq .leq 0 0 12 (tq 9 0 1 (ig jM jM (wR 815 BN 0 2 tl (BC 1)) aQ) aQ) aQ) aQ) (pW 0 0 11 (kJ .gtr 0 0 (jq .leq 0 0 12 (tq 9 0 1 (rm jM .eql jM 1 (wR 815 BN 0 2 tl (BC 1))) aQ) aQ) aQ) (pW 0 0 12 (kJ .gtr 0 0 (jq .leq 0 0 12 (tq 9 0 1 (rm jM .eql jM 1 (wR 815 BN 0 2 tl (BC 1))) aQ) aQ) aQ) (kJ .gtr 0 0 (jq .leq 0 0 12 (tq 9 0 1 (rm jM .eql jM 2 (wR 815 BN 0 2 tl (BC 1))) aQ) aQ) aQ))))))
def ahK:aL:=⟨IU,IW,IX,[],IY⟩
theorem amn:aA ar3 ahK 400 false 138=Zh:=by kernel_rfl
end Go.Proofs.YtggffkaadeagbaaGreat
namespace Go.Proofs.YtggffkaadeagbaaGreat
open Go Go.Ev
structure Names:Prop where
 right:∀s:List UInt8,Sm s→∃b,CC 83 false [iS s] (iB b)
 oper:∀s:List UInt8,Sm s→∃b,CC 211 false [iS s] (iB b)
theorem dJ:ar3.funcs.size=356:=by kernel_rfl
theorem n159:(ar3.funcs[159]?).map (·.params.size)=some 3:=by kernel_rfl
theorem n103:(ar3.funcs[103]?).map (·.params.size)=some 3:=by kernel_rfl
theorem n45:(ar3.funcs[45]?).map (·.params.size)=some 1:=by kernel_rfl
theorem t45(z:IV):aD ar3 45 z=true:=by kernel_rfl
theorem n138:(ar3.funcs[138]?).map (·.params.size)=some 1:=by kernel_rfl
theorem t138(z:IV):aD ar3 138 z=true:=by kernel_rfl
end Go.Proofs.YtggffkaadeagbaaGreat
namespace Go.Proofs.YtggffkaadeagbaaGreat
open Go Go.Ev
def acV(p:Bool→Prop)(z:IV):Prop:=∃(b:Bool) (n:Int),z=.av [iB b,.agg [iI n]]∧p b
@[simp] theorem aq4(p:Bool→Prop)(b:Bool)(n:Int):acV p (.av [iB b,.agg [iI n]])↔p b:=
  ⟨fun⟨b',n',h1,h2⟩=>by cases h1;exact h2,fun h=>⟨b,n,rfl,h⟩⟩
theorem CC.Tb{n:Nat}{f:Nat}{cR:af}{m:Int}{xs:List IV}{cfg:aL}(p:Bool→Prop)(he:xn ar3 cfg n [1] f=cR)(hl:(ar3.funcs[f]?).map (·.params.size)=some (1+xs.length))(hn:noTwo cR=true)
 (hs:cR.sat ar3 CC (acV p) [] (iI m::xs)):∃(b:Bool) (n:Int),p b∧CC (712+f) true (.agg [.agg [iI m]]::xs) (.av [iB b,.agg [iI n]]):=by
 obtain⟨z,⟨b,k,rfl,hb⟩,h2⟩:=yk hn hs;refine⟨b,k,hb,?_⟩;have h:=CC.akn (new:=true) (ins:=[[iI m]]) (outs:=[[iI k]]) (xs:=xs) (z:=iB b) (cfg:=cfg) (n:=n) (f:=f) he hl rfl (by simp[ab]) h2;rw[dJ]at h;exact h
theorem acW(l:List Tm)(hl:Sm l)(d:Int)(ih:∀u∈l,∀n d:Int,∃(b:Bool) (k:Int),(b=true→bx u)∧CC 871 true [.agg [.agg [iI n]],bV u,iI d] (.av [iB b,.agg [iI k]]))(n:Int):
 ∃(b:Bool) (k:Int),(b=true→∀u∈l,bx u)∧CC 815 true [.agg [.agg [iI n]],iT l,iI d] (.av [iB b,.agg [iI k]]):=by
 refine CC.Tb (fun b=>b=true→∀u∈l,bx u) (f:=103) (xs:=[iT l,iI d]) aml n103 (by rfl) ?_;simp[Zg,SE.den,ab];unfold Qb;refine ao l.length (fun i (a:Int)=>[iI i,iI a]) (fun i _=>∀u∈l.take i,bx u) n ?_ (by simp) fun i a hi hI=>?_
 ·simp[SE.den]
 by_cases aa:i<l.length
 ·have hw:=aw aa hl;obtain⟨b,k,hp,hb⟩:=ih l[i] (asb aa) a d;rw[bo]at hb;simp[SE.den,aa,hw,rI aa,bo,ab];refine⟨_,hb,?_⟩;cases b<;>simp[au,ab];exact .mk k rfl (by omega) (eR aa hI (hp rfl))
 ·simp[SE.den,aa,au];exact gV aa hI
theorem amo(H:Names)(t:Tm)(hs:Sm t.s)(hl:Sm t.ts)(ih:∀u∈t.ts,∀n d:Int,∃(b:Bool) (k:Int),(b=true→bx u)∧CC 871 true [.agg [.agg [iI n]],bV u,iI d] (.av [iB b,.agg [iI k]]))(n d:Int):
 ∃(b:Bool) (k:Int),(b=true→bx t)∧CC 871 true [.agg [.agg [iI n]],bV t,iI d] (.av [iB b,.agg [iI k]]):=by
 refine CC.Tb (fun b=>b=true→bx t) (f:=159) (xs:=[bV t,iI d]) amk n159 (by rfl) ?_;have z0:t.k=0→bx t:=fun h=>(jX t).2 ⟨fun h'=>by omega,fun h'=>by omega⟩;have z1:t.k=1→0≤t.n→t.n≤1048576→bx t:=fun h h1 h2=>(jX t).2 ⟨fun _=>⟨h1,h2⟩,fun h'=>by omega⟩;have z2:t.k=2→(∀u∈t.ts,bx u)→bx t:=fun h h1=>(jX t).2 ⟨fun h'=>by omega,fun _=>h1⟩;rw[bo];obtain⟨b1,h1⟩:=H.right t.s hs;obtain⟨b2,h2⟩:=H.oper t.s hs;obtain⟨b3,k3,hp3,h3⟩:=acW t.ts hl (aso.wrap (d- 1)) ih (aso.wrap (n- 1));simp[Zf,SE.den,ab,au];by_cases y0:aso.wrap (n- 1)<0
 ·left;exact y0
 right;refine⟨by omega,?_⟩;by_cases y1:d<1
 ·left;exact y1
 right;refine⟨by omega,?_⟩;have em:=axL (t.s=[]);by_cases k0:t.k=0
 ·left;refine⟨k0,?_⟩;have:=z0 k0;grind
 right;refine⟨k0,?_⟩;by_cases k1:t.k=1
 ·left;refine⟨k1,?_⟩;have:=z1 k1;grind
 right;refine⟨k1,?_⟩;by_cases k2:t.k=2
 rotate_left
 ·right;exact k2
 left;refine⟨k2,?_⟩;by_cases n0:t.n=0
 rotate_left
 ·left;exact n0
 right;refine⟨n0,?_⟩;by_cases z6:(6:Int)<t.ts.length
 ·left;omega
 right;refine⟨by omega,_,h1,?_⟩;cases b1 with
 |true=>
  simp;exact⟨_,h3,by simp[ab,au];exact fun h=>z2 k2 (hp3 h)⟩
 |false=>
  simp;refine⟨_,h2,?_⟩;cases b2 with
  |false=>simp
  |true=>
   simp;by_cases z2':(t.ts.length:Int)=2
   ·right;exact⟨by omega,_,h3,by simp[ab,au];exact fun h=>z2 k2 (hp3 h)⟩
   ·left;omega
theorem acX(H:Names):∀t:Tm,nU t→∀n d:Int,∃(b:Bool) (k:Int),(b=true→bx t)∧CC 871 true [.agg [.agg [iI n]],bV t,iI d] (.av [iB b,.agg [iI k]])
 |.mk k n s ts,h=>amo H _ ((oi _).1 h).1 ((oi _).1 h).2.1 fun u hu=>acX H u (((oi _).1 h).2.2 u hu)
 decreasing_by simp[Tm.ts]at hu;have:=List.sizeOf_lt_of_mem hu;simp;omega
theorem acY(H:Names)(l:List Tm)(hl:Sm l)(h:∀t∈l,nU t)(n d:Int):∃(b:Bool) (k:Int),(b=true→∀u∈l,bx u)∧CC 815 true [.agg [.agg [iI n]],iT l,iI d] (.av [iB b,.agg [iI k]]):=
 acW l hl d (fun u hu=>acX H u (h u hu)) n
theorem VV(H:Names)(a:At)(h:pC a):∃b,(b=true→∀t∈a.ts,bx t)∧CC 45 false [.agg [iS a.s,iT a.ts]] (iB b):=by
 refine CC.lH _ aqe n45 t45 (by intro x hx;obtain rfl:=atM.1 hx;exact r9 a) (by rfl) ?_;obtain⟨b1,h1⟩:=H.right a.s h.1;obtain⟨b2,k2,hp,h2⟩:=acY H a.ts h.2.1 h.2.2 200 20;simp[acU,SE.den,ab];refine⟨_,h1,?_⟩;cases b1<;>simp;by_cases hs:(a.ts.length:Int)≤6
 ·left;exact⟨by omega,_,h2,by simp[ab];exact hp⟩
 ·right;omega
theorem acZ(H:Names)(g:Gl)(h:tG g):∃b,(b=true→(g.op=4→g.ts.length=2)∧∀t∈g.ts,bx t)∧CC 138 false [.agg [iI g.op,iS g.s,iT g.ts]] (iB b):=by
 refine CC.lH _ amn n138 t138 (by intro x hx;obtain rfl:=atM.1 hx;exact Ee g) (by rfl) ?_;obtain⟨b1,h1⟩:=H.right g.s h.1;obtain⟨b2,k2,hp,h2⟩:=acY H g.ts h.2.1 h.2.2 200 20;simp[Zh,SE.den,ab];by_cases k0:g.op=0
 ·left;refine⟨k0,_,h1,?_⟩;cases b1<;>simp;by_cases h6:(g.ts.length:Int)≤6
  ·left;exact⟨h6,_,h2,by simp[ab];exact fun h=>⟨by omega,hp h⟩⟩
  ·right;omega
 right;refine⟨k0,?_⟩;by_cases k1:g.op=1
 ·left;refine⟨k1,?_⟩;left;refine⟨by omega,?_⟩;left;refine⟨by omega,?_⟩;by_cases ks:g.s=[]
  ·left;refine⟨ks,?_⟩;by_cases kt:g.ts=[]
   ·left;exact⟨kt,_,h2,by simp[ab];exact fun h=>⟨by omega,hp h⟩⟩
   ·right;exact kt
  ·right;exact ks
 right;refine⟨k1,?_⟩;by_cases k2:g.op=2
 ·left;refine⟨k2,?_⟩;left;refine⟨by omega,?_⟩;left;refine⟨by omega,?_⟩;by_cases ks:g.s=[]
  ·left;refine⟨ks,?_⟩;by_cases kt:g.ts=[]
   ·left;exact⟨kt,_,h2,by simp[ab];exact fun h=>⟨by omega,hp h⟩⟩
   ·right;exact kt
  ·right;exact ks
 right;refine⟨k2,?_⟩;by_cases k11:g.op=11
 ·left;refine⟨k11,?_⟩;left;refine⟨by omega,?_⟩;left;refine⟨by omega,?_⟩;by_cases ks:g.s=[]
  ·left;refine⟨ks,?_⟩;by_cases kt:(g.ts.length:Int)=1
   ·left;exact⟨kt,_,h2,by simp[ab];exact fun h=>⟨by omega,hp h⟩⟩
   ·right;exact kt
  ·right;exact ks
 right;refine⟨k11,?_⟩;by_cases k12:g.op=12
 ·left;refine⟨k12,?_⟩;left;refine⟨by omega,?_⟩;left;refine⟨by omega,?_⟩;by_cases ks:g.s=[]
  ·left;refine⟨ks,?_⟩;by_cases kt:(g.ts.length:Int)=1
   ·left;exact⟨kt,_,h2,by simp[ab];exact fun h=>⟨by omega,hp h⟩⟩
   ·right;exact kt
  ·right;exact ks
 right;refine⟨k12,?_⟩;by_cases p0:0<g.op
 rotate_left
 ·right;omega
 left;refine⟨p0,?_⟩;by_cases p12:g.op≤12
 rotate_left
 ·right;omega
 left;refine⟨p12,?_⟩;by_cases ks:g.s=[]
 ·left;refine⟨ks,?_⟩;by_cases kt:(g.ts.length:Int)=2
  ·left;exact⟨kt,_,h2,by simp[ab];exact fun h=>⟨by omega,hp h⟩⟩
  ·right;exact kt
 ·right;exact ks
end Go.Proofs.YtggffkaadeagbaaGreat
namespace Go.Proofs.YtggffkaadeagbaaGreat
open Go Go.Ev
theorem amp:ar3.underlying 9=some .string:=by kernel_rfl
theorem eq9(d:Nat)(a b:ByteArray):aJ ar3 (atw (d+1) 9 (.string a) (.string b))=some (a==b):=by
 rw[atw,bj,Go.Ev.run_underlying amp,asc];rfl
theorem eq3(d:Nat)(a b:Int):aJ ar3 (atw (d+1) 3 (.int .i64 a) (.int .i64 b))=some (a==b):=by
 rw[atw,bj,Go.Ev.run_underlying abd,asc];rfl
theorem ahL(d:Nat)(x y x' y':Value)(b1 b2:Bool)(h1:aJ ar3 (atw (d+1) 9 x x')=some b1)(h2:aJ ar3 (atw (d+1) 3 y y')=some b2):
 aJ ar3 (atw (d+2) 86 (.agg #[x,y]) (.agg #[x',y']))=some (b1&&b2):=by
 rw[atw,bj,Go.Ev.run_underlying awA,asc];have dK:ar3.stoodInHeld 86=false:=by kernel_rfl
 have p9:∀(a b:Value),aJ ar3 (part 9 #[a,b] 0)=some a:=fun a b=>by kernel_rfl
 have p3:∀(a b:Value),aJ ar3 (part 3 #[a,b] 1)=some b:=fun a b=>by kernel_rfl
 have hp:aJ ar3 program=some ar3:=rfl;rw[bj,hp,asc,dK];simp only[asD,if_false,←Array.forIn_toList,List.forIn_cons,List.forIn_nil,bj,ne_eq,String.reduceEq,not_false_eq_true,if_true,p9,p3,asc,h1,h2];have q:∀{α:Type} (a:α),aJ ar3 (pure a)=some a:=fun _=>rfl;cases b1
 ·rfl
 ·simp only[Bool.not_true,asD,if_false,q,asc,bj,p3,h2];cases b2<;>rfl
theorem bq(a b:List UInt8):((⟨a.toArray⟩:ByteArray)==⟨b.toArray⟩)=(a==b):=by
 show(a.toArray==b.toArray)=_;simp
theorem ahM(P:Program)(t:TypeId)(a b c d:Value)(r:Bool)(hg:aJ P (eqGuard .eql t (.func 0) (.func 0) (.agg #[a,b]) (.agg #[c,d]))=some ())(h:aJ P (avf t (.agg #[a,b]) (.agg #[c,d]))=some r):
 da P .eql t (.agg [.raw a,.raw b]) (.agg [.raw c,.raw d])=some (iB r):=by
 show(aJ P (do eqGuard .eql t (.func 0) (.func 0) (.agg #[a,b]) (.agg #[c,d]);Go.binOp .eql t (.agg #[a,b]) (.agg #[c,d]))).map lift=_;rw[bj,hg];show(aJ P (do pure (.bool (←avf t (.agg #[a,b]) (.agg #[c,d]))))).map lift=_;rw[bj,h];rfl
deriving instance DecidableEq for De
theorem ahN(s s':List UInt8)(n n':Int):da ar3 .eql 86 (.agg [iS s,iI n]) (.agg [iS s',iI n'])=some (iB (s==s'&&n==n')):=by
 refine ahM _ _ _ _ _ _ _ (by kernel_rfl) ?_;rw[←bq];exact ahL 9998 _ _ _ _ _ _ (eq9 _ _ _) (eq3 _ _ _)
def fM(d:De):Value:=.agg #[.string ⟨d.s.toArray⟩,.int .i64 d.n]
theorem eqK(k e:De):aJ ar3 (avf 86 (fM k) (fM e))=some (decide (k=e)):=by
 have h:aJ ar3 (avf 86 (fM k) (fM e))=some (k.s==e.s&&k.n==e.n):=by
  rw[←bq];exact ahL 9998 _ _ _ _ _ _ (eq9 _ _ _) (eq3 _ _ _)
 rw[h];obtain⟨a,b⟩:=k;obtain⟨c,d⟩:=e;simp;rw[Bool.eq_iff_iff];simp
theorem Ei{α:Type}(P:Program)(a:α):aJ P (pure a)=some a:=rfl
theorem ac0(k:De):∀(ks:List De) (i:Nat),(k∈ks→∃j,aJ ar3 (as0 86 (fM k) (ks.map fun e=>⟨fM e,asQ,0⟩) i)=some (some (i+j,asQ))∧ks[j]?=some k)∧
 (k∉ks→aJ ar3 (as0 86 (fM k) (ks.map fun e=>⟨fM e,asQ,0⟩) i)=some none)
 |[],i=>by simp[as0,Ei]
 |e::ks,i=>by
  obtain⟨h1,h2⟩:=ac0 k ks (i+1)
  have hu:aJ ar3 (as0 86 (fM k) ((e::ks).map fun e=>⟨fM e,asQ,0⟩) i)=aJ ar3 (if decide (k=e)=true then pure (some (i,asQ))else as0 86 (fM k) (ks.map fun e=>⟨fM e,asQ,0⟩) (i+1)):=by
   rw[List.map_cons,as0,bj,eqK,asc]
  rw[hu];by_cases h:k=e
  ·subst h;exact⟨fun _=>⟨0,by rw[if_pos (by simp)];simp[Ei],rfl⟩,fun hn=>absurd (by simp) hn⟩
  ·rw[if_neg (by simpa using h)];refine⟨fun hm=>?_,fun hn=>h2 fun hm=>hn (by simp[hm])⟩;obtain⟨j,g1,g2⟩:=h1 (by simpa[h]using hm);exact⟨j+1,by rw[g1,show i+1+j=i+(j+1) by omega],by simpa using g2⟩
theorem Fo(b:Bool)(k:De):aJ ar3 (Instr.checkKey b 10000 86 (fM k))=some ():=by
 obtain⟨s,n⟩:=k;cases b<;>kernel_rfl
theorem Zi(k:De)(ks:List De):aJ ar3 (atB 86 (fM k) (ks.map fun e=>⟨fM e,asQ,0⟩))=aJ ar3 (as0 86 (fM k) (ks.map fun e=>⟨fM e,asQ,0⟩) 0):=by
 unfold atB;rw[bj,Go.Ev.run_underlying awA,asc];cases ks with
 |nil=>rfl
 |cons e ks=>rfl
theorem aen(b:Bool)(k:De)(ks:List De):(k∈ks→∃j,gG ar3 b 86 (fM k) ((ks.map fM).map fun e=>(e,.undef,0))=some (some j)∧ks[j]?=some k)∧(k∉ks→gG ar3 b 86 (fM k) ((ks.map fM).map fun e=>(e,.undef,0))=some none):=by
 have hm:(((ks.map fM).map fun e=>(e,(.undef:IV),0)).map fun e=>({key:=e.1,val:=asQ,born:=e.2.2}:MapEntry))=ks.map fun e=>⟨fM e,asQ,0⟩:=by
  rw[avL,avL];rfl
 obtain⟨h1,h2⟩:=ac0 k ks 0;refine⟨fun h=>?_,fun h=>?_⟩
 ·obtain⟨j,g1,g2⟩:=h1 h;refine⟨j,?_,g2⟩;unfold gG;rw[bj,Fo,asc,hm,Zi,g1];simp
 ·unfold gG;rw[bj,Fo,asc,hm,Zi,h2 h]
theorem ahO(k:De):auL 10000 (fM k) (fM k)=true:=by
 show((#[_,_]:Array Value).size==2&&_)=true;simp[auL,bq]
def zD(d:De):IV:=.av [.agg [iS d.s,iI d.n],iB true]
theorem Zj:∀ds:List De,nM (ds.map zD)=some (ds.map fM)
 |[]=>rfl
 |k::ks=>by simp[nM,zD,Ev.keyOf,Zj ks,fM];rfl
theorem Tc(ds:List De)(k:De):(k∈ds→∃j,fc ar3 86 (ds.map zD) (.agg [iS k.s,iI k.n])=some (some j)∧ds[j]?=some k)∧(k∉ds→fc ar3 86 (ds.map zD) (.agg [iS k.s,iI k.n])=some none):=by
 have h:fc ar3 86 (ds.map zD) (.agg [iS k.s,iI k.n])=HW ar3 86 (ds.map fM) (fM k):=by
  unfold fc;rw[Zj];have:ER ar3 86=none:=by kernel_rfl
  rw[this];rfl
 rw[h];obtain⟨a1,a2⟩:=aen true k ds
 have hb:gG ar3 false 86 (fM k) ((ds.map fM).map fun e=>(e,.undef,0))=gG ar3 true 86 (fM k) ((ds.map fM).map fun e=>(e,.undef,0)):=by
  unfold gG;rw[bj,bj,Fo,Fo]
 unfold HW;rw[hb];refine⟨fun hm=>?_,fun hm=>?_⟩
 ·obtain⟨j,g1,g2⟩:=a1 hm;refine⟨j,?_,g2⟩;rw[g1];simp only[if_true];rw[List.getElem?_map,g2];simp only[Option.map_some,ahO,if_true]
 ·rw[a2 hm];simp
end Go.Proofs.YtggffkaadeagbaaGreat
namespace Go.Proofs.YtggffkaadeagbaaGreat
open Go Go.Ev
def Zk:List Nat:=[123,127,126,186,189,44,79,30,102,9,10,23,31,15,257,149,89,148,198,147,199,50,191,71,214,93,163,49,152,64,164,158,95,108,206,250,213,130,131,107,129,155,34,90,51,202,153,201,200,151,203,150,204,154,91,41,67,101,99,109,157,210,12,26,28,25,14,19,100,40,39,70,69,35,53,52,68,42,58,98,96,75,211,136,83,192,85,11,24,27,22,13,29,61,36,33,32,84,47,143,46,190,66,87,45,138,133,88,128,249,121,78,183,256,156]
def Zl:List Nat:=[48,118,216]
def Zm:List Nat:=[185,188,254]
def Zn:List Nat:=[155,159,103,173000080,500139,500140,500097,600086]
def Ej:af:=
 (kF gx 4 bI 1 aY 4 (cB eh (.rws eh) (jo 1 8 5 eh 1 4 7)) (za q8))
def Zo:af:=
 (kF gx 3 bI 1 aY 3 (cB dy (.rws dy) (jo 1 8 4 dy 1 3 6)) (za q9))
def LK:af:=
 (kF bz 1 bI 1 aY 1 (cB dz s8 (oz E3 .lss E3 H6 (nw 0 1 E3))) (.nt (ni .lss 2 0) H6 (oz (GH 2 0) .gtr (GH 2 0) (.bind (.dec 8 (GH 2 0) (.k .i64 0)) (cB (rF 1 3 bz) bI Ej)) (y9 Zo))))
def J7:af:=
 (uW LK)
def aeo:aL:=⟨Zk,Zl,Zm,[⟨0,207,11,[(0,(6,0)),(0,(27,0))],[(0,0)],[(0,24)],[]⟩,⟨0,207,3,[(0,(3,0)),(0,(11,0))],[],[],[]⟩,⟨999999,0,0,[],[],[],[]⟩],Zn⟩
theorem ahP:wY ar3 aeo 400 false 207=J7:=by kernel_rfl
def Zp:af:=
 (kF gx 4 bI 1 aY 4 (cB eh (.rws eh) (jo 1 8 5 eh 1 4 7)) H6)
def LL:af:=
 (lC 3 1 3 (cB dO (.sub 1 dO BM bz) (gb 1 3)) (.ret gx))
def LM:af:=
 (kF bz 1 bI 1 aY 1 (cB dz s8 (oz E3 .lss E3 H6 (nw 0 1 E3))) (.nt (ni .lss 2 0) H6 (oz (GH 2 0) .gtr (GH 2 0) (.bind (.dec 8 (GH 2 0) (.k .i64 0)) (cB (rF 1 3 bz) bI Zp)) (y9 LL))))
def J8:af:=
 (uW LM)
def aep:aL:=⟨Zk,Zl,Zm,[⟨0,207,11,[(0,(27,0))],[(0,0)],[(0,24)],[]⟩,⟨0,207,3,[(0,(3,0)),(0,(11,0))],[],[],[]⟩,⟨999999,0,0,[],[],[],[]⟩,⟨999998,0,0,[],[],[],[]⟩],Zn⟩
theorem ahQ:wY ar3 aep 400 true 207=J8:=by kernel_rfl
end Go.Proofs.YtggffkaadeagbaaGreat
namespace Go.Proofs.YtggffkaadeagbaaGreat
open Go Go.Ev
abbrev CU(ls:List (List Int)):IV:=.tree 1 (ls.map iL)
theorem IZ{ls:List (List Int)}{i:Nat}(h:i<ls.length):cq 1 (CU ls) (iI (i:Nat))=some (iL ls[i]):=dv (by simp[h]) rfl
theorem LN{ls:List (List Int)}{i:Nat}(h:i<ls.length):(ls.take (i+1)).flatten=(ls.take i).flatten++ls[i]:=by
 rw[List.take_succ_eq_append_getElem h,atu];simp only[List.flatten_cons,List.flatten_nil,List.append_nil]
theorem J9(ls:List (List Int))(i:Nat):(ls.take i).flatten.length≤ls.flatten.length:=by
 conv=>rhs;rw[←List.take_append_drop i ls,atu,asu]
 omega
theorem Qc(ls:List (List Int)):Pure (CU ls):=by
 refine .tree 1 _ fun e he c hc=>?_;obtain⟨x,_,rfl⟩:=asO.1 he;simp[cellsOf]at hc;subst hc;exact AT x
section cat
theorem ahR{k0:List IV→Prop}(ls:List (List Int))(hl:ls.length≤1000)(hf:ls.flatten.length≤100000){x1 x2 x3:IV}:
 Ej.sat ar3 CC (·=iL ls.flatten) [k0] [CU ls,x1,x2,x3]:=by
 unfold Ej;refine ao ls.length (fun i (a:List Int)=>[iI i,iL a]) (fun i a=>a=(ls.take i).flatten) [] ?_ (by simp) fun i a hi hI=>?_
 ·simp[SE.den]
 by_cases aa:i<ls.length
 ·have hw:=aw aa (by omega);have NJ:=J9 ls (i+1);have ht:=LN aa;rw[ht,←hI,asu]at NJ;rw[←hI]at ht;have hc:=nV (a:=a) (b:=ls[i]) (by omega);have hr:=Y4 ls[i];simp[SE.den,aa,hw,IZ aa,hc, -atv];exact⟨fun _ _ x hx=>by simp[cellsOf]at hx;subst hx;rfl,.mk _ rfl (by omega) ht.symm⟩
 ·have he:i=ls.length:=by omega
  subst he;rw[avO]at hI;subst hI;generalize ls.flatten=q at*
  simp[SE.den];exact fun _ _ x hx=>by simp[cellsOf]at hx;subst hx;rfl
end cat
theorem abq(ls:List (List Int))(hl:ls.length≤1000)(hf:ls.flatten.length≤100000)(hp:ls.flatten≠[]):J7.sat ar3 CC (·=iL ls.flatten) [] [CU ls]:=by
 simp only[J7,nB,SE.den,atF,asc,rH];refine⟨⟨_,rfl⟩,⟨_,rfl⟩,?_⟩;unfold LK;refine ao ls.length (fun i (a:Int)=>[iI i,iI a]) (fun i a=>a=((ls.take i).flatten.length:Int)) 0 ?_ (by simp) fun i a hi hI=>?_
 ·simp[SE.den]
 have hle:=J9 ls i;by_cases aa:i<ls.length
 ·have hw:=aw aa (by omega);have NJ:=J9 ls (i+1)
  have ht:((ls.take (i+1)).flatten.length:Int)=a+(ls[i].length:Int):=by
   rw[LN aa,asu,hI];omega
  have No:aso.wrap (a+(ls[i].length:Int))=a+(ls[i].length:Int):=eb (by omega) (by omega);have Ld:¬a+(ls[i].length:Int)<0:=by omega
  simp[SE.den,aa,hw,IZ aa,No,Ld, -atv];exact .mk _ rfl (by omega) ht.symm
 ·have he:i=ls.length:=by omega
  subst he;rw[avO]at hI;have om:0<ls.flatten.length:=List.length_pos_iff.2 hp;have Ld:¬a<0:=by omega
  have hw:aso.wrap a=a:=eb (by omega) (by omega);have M3:0<a:=by omega
  have aqf:(asn a.toNat (IV.raw (Value.int aso 0)))[0]?=some (iI 0):=by
   rw[List.getElem?_replicate,if_pos (by omega)]
  have sq:cq 1 (.tree 1 (asn a.toNat (iI 0))) (iI 0)=some (iI 0):=dv (i:=0) aqf rfl;simp[SE.den,aa,hw,Ld,M3,lO, -atv];exact⟨_,⟨⟨by omega,by omega,rfl⟩,rfl⟩,⟨_,sq⟩,ahR ls hl hf⟩
theorem abr(ls:List (List Int))(hl:ls.length≤1000)(hp:ls.flatten=[]):J8.sat ar3 CC (·=iL []) [] [CU ls]:=by
 have hz:∀i (h:i<ls.length),ls[i]=[]:=fun i h=>List.flatten_eq_nil_iff.1 hp _ (asb h);simp only[J8,nB,SE.den,atF,asc,rH];refine⟨⟨_,rfl⟩,⟨_,rfl⟩,?_⟩;unfold LM;refine ao ls.length (fun i (_:Unit)=>[iI i,iI 0]) (fun _ _=>True) () ?_ trivial fun i _ hi _=>?_
 ·simp[SE.den]
 by_cases aa:i<ls.length
 ·have hw:=aw aa (by omega);have tT:aso.wrap 0=0:=eb (by omega) (by omega);simp[SE.den,aa,hw,IZ aa,hz i aa,tT];exact .mk () rfl (by omega) trivial
 ·have tT:aso.wrap 0=0:=eb (by omega) (by omega);simp[SE.den,aa,tT];unfold LL;refine ao ls.length (fun i (_:Unit)=>[iI i]) (fun _ _=>True) () ?_ trivial fun i _ hi _=>?_
  ·simp[SE.den]
  by_cases aa:i<ls.length
  ·have hw:=aw aa (by omega);simp[SE.den,aa,hw,IZ aa,hz i aa];exact⟨⟨.tree 1 [],by simp[jF,fa]⟩,.mk () rfl (by omega) trivial⟩
  ·simp[SE.den,aa]
theorem n207:(ar3.funcs[207]?).map (·.params.size)=some 1:=by kernel_rfl
theorem aqg:cA ar3 207=1:=by kernel_rfl
theorem f207(ls:List (List Int))(hl:ls.length≤1000)(hf:ls.flatten.length≤100000):jt ar3 1 207 [CU ls] (ls.flatten.map iI):=by
 have bD:∀e∈ls.flatten.map iI,(cellsOf e).length=1:=fun e he=>by obtain⟨x,_,rfl⟩:=asO.1 he;rfl
 have bf:∀c∈flat (ls.flatten.map iI),(∃v,c=.raw v)∧ab c=true:=fun c hc=>by
  unfold flat at hc;obtain⟨e,he,hc⟩:=List.mem_flatMap.1 hc;obtain⟨x,_,rfl⟩:=asO.1 he;simp[cellsOf]at hc;subst hc;exact⟨⟨_,rfl⟩,rfl⟩
 have h1:=aqg;by_cases hp:ls.flatten=[]
 ·rw[←h1];exact .X1 (nm:=true) mixed vV ahQ n207 (by simpa using Qc ls) (by rw[h1];exact bD) bf (by simp) (by rw[h1,hp];exact abr ls hl hp)
 ·rw[←h1];exact .X1 (nm:=false) mixed vV ahP n207 (by simpa using Qc ls) (by rw[h1];exact bD) bf (fun _=>by simpa using hp) (by rw[h1];exact abq ls hl hf hp)
end Go.Proofs.YtggffkaadeagbaaGreat
