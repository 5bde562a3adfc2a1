/- A part of the proof, no condition: comparisons are orders; memories behind Retract. -/
import Derived.Test.YtggffkaadeagbaaGreatEvJ
import Derived.Test.YtggffkaadeagbaaGreatRuH
import Derived.Test.YtggffkaadeagbaaGreatRuN
import Derived.Test.YtggffkaadeagbaaGreatRuQ
open Go.Proofs.Tryz renaming prog->ar3
open Go.IntKind renaming i64->aso
open List renaming take_succ_eq_append_getElem->asm,getElem?_append_right->asw,drop_eq_getElem_cons->asq,take_of_length_le->asV,mem_map->asO,sizeOf_lt_of_mem->atD,mem_filter->asK,length_filter_le->aty
open List.Pairwise renaming nil->avX
open UInt8 renaming lt_iff_toNat_lt->av7
open Int renaming le_refl->axK
set_option linter.all false
namespace Go.Proofs.YtggffkaadeagbaaGreat
open Go Go.Ev
theorem n24:(ar3.funcs[24]?).map (·.params.size)=some 1:=by kernel_rfl
theorem t24(z:IV):aD ar3 24 z=true:=by kernel_rfl
def ad3:af:=
 (GG (wB 6 7) (HX .gtr 3 8 q9) (cB (nc 2 9 8) nq (uU (rF 2 9 nq) 66 (ko (s5 2 9 8) (JD 2 9 8 1)) (ko (zn 2 9 0) (zn 2 9 1)) (oz q_ .lss q_ (cB nq nq (cB (rF 2 9 nq) (nc 2 9 8) (u5 (nc 2 9 8) 2 jK (.var 8) (ko (zn 2 9 0) (zn 2 9 1)) (u5 (rF 2 11 nq) 2 s9 nq (ko (s5 2 9 8) (JD 2 9 8 1)) (N4 4 .sub 3 8 1 (ou 12)))))) (er 3 6 9)))) (er 3 6 9))
def ad4:af:=
 (sX (BB 4 5) 3 6 tf ad3 (aah 2 3 20 (wB 3 7)))
def Sx:af:=
 (GG (wB 6 7) (HX .gtr 3 8 q9) (cB (nc 2 9 8) nq (uU (rF 2 9 nq) 66 (ko (s5 2 9 8) (JD 2 9 8 1)) (ko (zn 2 9 0) (zn 2 9 1)) (oz q_ .lss q_ (cB nq nq (cB (rF 2 9 nq) (nc 2 9 8) (u5 (nc 2 9 8) 2 jK (.var 8) (ko (zn 2 9 0) (zn 2 9 1)) (u5 (rF 2 11 nq) 2 s9 nq (ko (s5 2 9 8) (JD 2 9 8 1)) (N4 4 .sub 3 8 1 (ou 12)))))) (er 3 6 9)))) (er 3 6 9))
def ad5:af:=
 (.loop .an (kK .leq (rh .mul 2 eX) zj (.aG (kC bz eX) (.fail 119)) (fx (kC bz eX) .lss (kC bz eX) zj (.fail 119) (.aG (ni .mul 10 2) (.next 4 (MA (rh .mul 2 eX) (ni .mul 10 2)))))))
def Sy:af:=
 (sX (nj tf q9 tl) 3 10 zj (.aG (rh .mul 2 eX) ad5) (uS 1 7))
def Sz:af:=
 (sX (BB 4 5) 3 6 zj Sx Sy)
def SA:af:=
 (GG (MB tl (ou 2)) (HX .leq 3 3 zj) (oJ 4 ad4) (oJ 4 Sz))
def SB:af:=
 (tj (.aG zj SA) (.ret tf))
def ad6:af:=
 (kF (DN 2) 1 pU 4 jL 1 (lD 3 (jo 2 40 2 (sZ 2 (ov 3 1 3 2)) 0 1 4)) SB)
def Yt:af:=
 (jJ 5 0 pU ad6)
def agF:aL:=⟨dX,dM,stops,[⟨0,24,1000020,[],[(1,0)],[],[]⟩,⟨2,24021009,2,[(2,(7,0)),(2,(8,0))],[(1,0)],[],[]⟩,⟨3,24021009028,1,[(3,(8,0))],[(1,0)],[],[]⟩,⟨3,24021009019,1,[(3,(8,0))],[(1,0)],[],[]⟩,⟨2,24021009,7,[(2,(7,0)),(2,(6,0)),(2,(8,0))],[],[],[]⟩,⟨3,24021009028,4,[(3,(9,0))],[(1,0)],[],[]⟩,⟨3,24021009019,4,[(3,(9,0))],[(1,0)],[],[]⟩,⟨0,24,3,[(0,(3,0)),(0,(9,0))],[(1,3),(1,0)],[],[]⟩],[]⟩
theorem akB:aA ar3 agF 400 false 24=Yt:=by kernel_rfl
variable{Q:IV→Prop}{k0 k1 k2 k3 k4 k5:List IV→Prop}
theorem abg{l:List At}{i:Nat}{f:At}(h:l[i]?=some f):cq 2 (cS l) (iI (i:Nat))=some (.agg [iS f.s,iT f.ts]):=dv (by simp[h,ku]) rfl
theorem acn{l:List At}{i:Nat}(f:At)(h:i<l.length):vw 2 (cS l) (iI (i:Nat)) (.agg [iS f.s,iT f.ts])=some (cS (l.set i f)):=by
 simp[vw,fa,h,cellsOf,List.map_set,ku]
theorem Yu{α:Type}{A B:List α}{x y:α}{j:Nat}(h:A.length=j):((A++y::x::B).set (j+1) y).set j x=A++x::y::B:=by
 subst h;simp[List.set_append]
theorem akC{v0 v1 v2 v3 v5:IV}{p rest:List At}{x:At}(hO:Ord mJ)(hs:F0 mJ p)(hlen:p.length+rest.length≤100)(hxw:CQ x)(hk:k3 [iI (p.length+1:Nat),cS (ia mJ x p++rest)]):
 Sx.sat ar3 CC Q [k0,k1,k2,k3] [v0,v1,v2,v3,iI 0,v5,iI p.length,cS (p++x::rest)]:=by
 have Yr:aso.wrap ((p.length:Int)+1)=((p.length+1:Nat):Int):=aw (n:=p.length+1) (by omega) (by omega);refine eY (fun j:Nat=>[iI j,cS (p.take j++x::(p.drop j++rest))]) (fun j=>j≤p.length∧∀b∈p.drop j,mJ x b=true) (fun j=>j) p.length ?_ ?_ fun j ⟨hj,hB⟩=>?_
 ·simp[SE.den]
 ·simp
 have w6:(∀i,j=i+1→∀a,p[i]?=some a→mJ x a=false)→k3 [iI (p.length+1:Nat),cS (p.take j++x::(p.drop j++rest))]:=fun hA=>by
  have:=Pa hO hs hj hB hA;rw[show p.take j++x::(p.drop j++rest)=(p.take j++x::p.drop j)++rest by simp,this];exact hk
 cases j with
 |zero=>
  have h0:=w6 (fun i hi=>by omega);simp only[List.take_zero,List.drop_zero,List.nil_append]at h0;simp[SE.den,Yr]
  first|exact h0|simpa using h0
 |succ j=>
  have qa:j<p.length:=by omega
  have gX:p.take (j+1)++x::(p.drop (j+1)++rest)=p.take j++p[j]::x::(p.drop (j+1)++rest):=by
   rw[asm qa,List.append_assoc];rfl
  have Kn:(p.take j).length=j:=by simp;omega
  have IK:=Yu (A:=p.take j) (B:=p.drop (j+1)++rest) (x:=x) (y:=p[j]) Kn
  have D3:(p.take j++p[j]::x::(p.drop (j+1)++rest))[j+1]?=some x:=by
   rw[asw (by omega),Kn];simp
  have D4:(p.take j++p[j]::x::(p.drop (j+1)++rest))[j]?=some p[j]:=by
   rw[asw (by omega),Kn];simp
  have dG:p.take j++x::p[j]::(p.drop (j+1)++rest)=p.take j++x::(p.drop j++rest):=by
   rw[asq qa];rfl
  rw[gX]at w6⊢;generalize p.take j++p[j]::x::(p.drop (j+1)++rest)=R at w6 D3 D4 IK⊢;have hRl:j+1<R.length:=(List.getElem?_eq_some_iff.1 D3).1;have AQ:aso.wrap (j:Int)=j:=eb (by omega) (by omega);have IL:vw 2 (cS R) (iI ((j:Int)+1)) (.agg [iS p[j].s,iT p[j].ts])=some (cS (R.set (j+1) p[j])):=acn (l:=R) (i:=j+1) p[j] hRl;have Pn:(R.set (j+1) p[j])[j]?=some p[j]:=by rw[List.getElem?_set_ne (by omega)];exact D4
  have w7:=acn (l:=R.set (j+1) p[j]) (i:=j) x (by simp;omega);rw[IK,dG]at w7;generalize R.set (j+1) p[j]=R1 at IL Pn w7;generalize hR2:p.take j++x::(p.drop j++rest)=R2 at w7;have agG:=apg x p[j] hxw;simp only[ku]at agG;have bw:cq 2 (cS R) (iI ((j:Int)+1))=_:=abg D3;have gi:=abg D4;have Ng:=abg Pn;have om:(0:Int)<(j:Int)+1:=by omega
  simp[SE.den,AQ,bw,gi,ab,cellsOf,om];refine⟨_,agG,?_⟩;simp[SE.den,AQ,bw,gi,Ng,ab,cellsOf,IL,w7,Yr];by_cases aa:lU x p[j]<0
  ·left;refine⟨aa,.mk j ?_ ⟨by omega,fun b hb=>?_⟩ (Nat.lt_succ_self _)⟩
   ·rw[hR2]
   ·rw[asq qa]at hb;rcases List.mem_cons.1 hb with rfl|hb
    ·simpa[mJ]using aa
    ·exact hB b hb
  ·right;refine⟨by omega,?_⟩
   have h0:=w6 (fun i hi a ha=>by
    have:i=j:=by omega
    subst this;rw[List.getElem?_eq_getElem qa]at ha;cases ha;simpa[mJ]using aa)
   first|exact h0|simpa using h0
theorem akD{v0 v1 v5 v6:IV}{l cur:List At}(hl:l.length≤18)(hk:k1 [cS cur]):
 Sy.sat ar3 CC Q [k0,k1,k2,k3] [v0,v1,cS l,iI 20,iI 0,v5,v6,cS cur]:=by
 refine eY (fun _:Unit=>[iI 20,iI 0,iI 20]) (fun _=>True) (fun _=>0) () ?_ trivial fun _ _=>?_
 ·simp[SE.den]
 have:¬((20:Int)<l.length):=by omega
 simp[SE.den,this];exact hk
theorem akE{v0 v1:IV}{l:List At}(hO:Ord mJ)(hl:l.length≤18)(IM:∀a∈l,CQ a)(hk:k1 [cS (ee mJ [] l)]):
 Sz.sat ar3 CC Q [k0,k1,k2] [v0,v1,cS l,iI 20,iI 0,cS l]:=by
 have tT:aso.wrap 1=1:=rfl;refine eY (fun p:Nat×List At=>[iI p.1,cS p.2]) (fun p=>1≤p.1∧p.2=ee mJ [] (l.take p.1)++l.drop p.1) (fun p=>l.length+1- p.1) (1,l) ?_ ?_ fun⟨i,cur⟩ ⟨hi,hc⟩=>?_
 ·simp[SE.den,tT]
 ·refine⟨Nat.le_refl _,?_⟩;cases l with
  |nil=>rfl
  |cons a l=>simp[ee,ia]
 simp only at hi hc;by_cases aa:i<l.length
 ·rw[asq aa]at hc;simp[SE.den,aa];subst hc;have iW:(ee mJ [] (l.take i)).length=i:=by rw[xo];simp;omega
  have h:=akC (Q:=Q) (k0:=k0) (k1:=k1) (k2:=k2) (k3:=O0 (fun p:Nat×List At=>[iI p.1,cS p.2]) (fun p=>1≤p.1∧p.2=ee mJ [] (l.take p.1)++l.drop p.1) (fun p=>l.length+1- p.1) (i,ee mJ [] (l.take i)++l[i]::l.drop (i+1)))
   (v0:=v0) (v1:=v1) (v2:=cS l) (v3:=iI 20) (v5:=cS l) (p:=ee mJ [] (l.take i)) (rest:=l.drop (i+1)) (x:=l[i]) hO (J2 hO _ avX) (by simp;omega) (IM _ (List.getElem_mem aa)) ?_
  ·rw[iW]at h;simpa using h
  ·rw[iW];refine .mk (i+1,ia mJ l[i] (ee mJ [] (l.take i))++l.drop (i+1)) rfl ⟨by omega,?_⟩ (by simp;omega);rw[asm aa,O_]
 ·simp[SE.den,aa];rw[asV (by omega),List.drop_of_length_le (by omega),List.append_nil]at hc;rw[hc];exact akD hl hk
theorem akF{v0 v1:IV}{l:List At}(hO:Ord mJ)(hl:l.length≤18)(IM:∀a∈l,CQ a)(hk:k1 [cS (ee mJ [] l)]):
 SA.sat ar3 CC Q [k0,k1] [v0,v1,cS l]:=by
 refine eY (fun _:Unit=>[iI 20,iI 0,cS l]) (fun _=>True) (fun _=>0) () ?_ trivial fun _ _=>?_
 ·simp[SE.den]
 have:¬((20:Int)≤l.length):=by omega
 simp[SE.den,this];exact akE hO hl IM hk
theorem akG{v0 v1:IV}{l:List At}(hO:Ord mJ)(hl:l.length≤18)(IM:∀a∈l,CQ a)(hQ:Q (cS (ee mJ [] l))):
 SB.sat ar3 CC Q [k0] [v0,v1,cS l]:=by
 refine fJ (fun vs=>vs=[cS (ee mJ [] l)]) ?_ ?_
 ·simp[SE.den];exact akF hO hl IM rfl
 ·rintro vs rfl;refine⟨rfl,?_⟩;simp[SE.den]
  first|exact hQ|simpa using hQ
theorem c24(m:Me)(hO:Ord mJ)(hl:m.facts.length≤9)(hw:∀f∈m.facts,oP f):CC 24 false [cV m] (cS (yl m)):=by
 refine CC.of akB n24 (t24 _) (by simp[gq]) (by simp) ?_;simp[Yt,SE.den,cV,ab];refine ao m.facts.length (fun i (o:List At)=>[iI i,cS o]) (fun i o=>o=(m.facts.take i).map (·.a)) [] ?_ ?_ fun j o hj ho=>?_
 ·simp[SE.den]
 ·simp
 by_cases aa:j<m.facts.length
 ·have jv:=aw aa (by omega);have lM:=agv (a:=o) m.facts[j].a (by rw[ho];simp;omega);simp[SE.den,aa,vW aa,ab,cellsOf,lM,jv];refine .mk (o++[m.facts[j].a]) (by simp) (by omega) ?_;have Ov:j<(m.facts.map (·.a)).length:=by simpa using aa
  have h2:=asm Ov;rw[List.getElem_map]at h2;rw[ho];simp only[List.map_take];exact h2.symm
 ·rw[asV (by omega)]at ho;simp[SE.den,aa];refine akG hO (by rw[ho];simp;omega) (fun a ha=>?_) ?_
  ·rw[ho]at ha;obtain⟨f,hf,rfl⟩:=asO.1 ha;exact(hw f hf).1
  ·rw[ho,yl,Eb]
end Go.Proofs.YtggffkaadeagbaaGreat
namespace Go.Proofs.YtggffkaadeagbaaGreat
open Go Go.Ev
def T3(x y z:Int):Prop:=x≤0→y≤0→z≤0∧(z=0→x=0∧y=0)
theorem T3.dq{x y z x' y' z':Int}(h:T3 x y z)(k:x=0→y=0→z=0→T3 x' y' z'):T3 (dq x x') (dq y y') (dq z z'):=by
 intro h1 h2
 have hx:x≤0:=by
  by_cases h0:x=0
  ·omega
  ·rw[qP h0]at h1;exact h1
 have hy:y≤0:=by
  by_cases h0:y=0
  ·omega
  ·rw[qP h0]at h2;exact h2
 obtain⟨hz,lZ⟩:=h hx hy;by_cases h0:z=0
 ·obtain⟨gm,Sg⟩:=lZ h0;have:=k gm Sg h0;subst gm Sg h0;simp only[Proofs.YtggffkaadeagbaaGreat.dq,if_true]at h1 h2⊢;exact this h1 h2
 ·rw[qP h0];exact⟨hz,fun h=>absurd h h0⟩
theorem r_(x y:Int):dq (-x) (-y)= - dq x y:=by unfold dq;split<;>split<;>omega
theorem rK(a b:Int):di b a= - di a b:=by unfold di;split<;>split<;>(try split)<;>omega
theorem uH(a b c:Int):T3 (di a b) (di b c) (di a c):=by unfold T3 di;grind
theorem Yv{a b:Int}(h:di a b=0):a=b:=by
 unfold di at h;split at h
 ·omega
 ·split at h<;>omega
theorem vG(a b:UInt8)(l m:List UInt8):iF (a::l) (b::m)=if a.toNat<b.toNat then-1 else if b.toNat<a.toNat then 1 else iF l m:=by
 unfold iF;rw[Op.bytesLess];by_cases h1:a.toNat<b.toNat
 ·have:a<b:=av7.2 h1;simp[h1,this]
 ·have cH:¬a<b:=fun h=>h1 (av7.1 h);by_cases h2:b.toNat<a.toNat
  ·have bc:¬a=b:=fun h=>by subst h;omega
   have hb:(a==b)=false:=by simpa using bc
   simp[cH,hb,bc,h1,h2]
  ·have he:a=b:=UInt8.toNat_inj.1 (by omega);subst he;simp
theorem Ck:∀a b:List UInt8,iF b a= - iF a b
 |[],[]=>rfl
 |[],_::_=>rfl
 |_::_,[]=>rfl
 |a::l,b::m=>by
  have ih:=Ck l m;rw[vG,vG,ih];split<;>split<;>(try split)<;>omega
theorem AV:∀(b:UInt8) (m:List UInt8),iF [] (b::m)= -1∧iF (b::m) []=1:=fun _ _=>⟨rfl,rfl⟩
theorem Fk:∀a b c:List UInt8,T3 (iF a b) (iF b c) (iF a c)
 |[],[],[]=>by intro _ _;exact⟨axK _,fun _=>⟨rfl,rfl⟩⟩
 |[],[],c::o=>by intro _ _;rw[(AV c o).1];exact⟨by omega,fun h=>by omega⟩
 |[],b::m,[]=>by intro _ h;rw[(AV b m).2]at h;omega
 |[],b::m,c::o=>by intro _ _;rw[(AV c o).1];exact⟨by omega,fun h=>by omega⟩
 |a::l,[],_=>by intro h;rw[(AV a l).2]at h;omega
 |a::l,b::m,[]=>by intro _ h;rw[(AV b m).2]at h;omega
 |a::l,b::m,c::o=>by
  have ih:=Fk l m o;unfold T3 at ih⊢;rw[vG,vG,vG];intro h1 h2;split at h1
  ·split at h2
   ·rw[if_pos (by omega)];exact⟨by omega,fun h=>by omega⟩
   ·split at h2
    ·omega
    ·rw[if_pos (by omega)];exact⟨by omega,fun h=>by omega⟩
  ·split at h1
   ·omega
   ·split at h2
    ·rw[if_pos (by omega)];exact⟨by omega,fun h=>by omega⟩
    ·split at h2
     ·omega
     ·have g1:¬a.toNat<c.toNat:=by omega
      have g2:¬c.toNat<a.toNat:=by omega
      obtain⟨k1,k2⟩:=ih h1 h2;rw[if_neg g1,if_neg g2];refine⟨k1,fun h=>?_⟩;have:=k2 h;rw[if_neg (by assumption),if_neg (by assumption),if_neg (by assumption),if_neg (by assumption)];exact this
theorem VA:∀(l m:List Tm),l.length=m.length→(∀t∈l,∀u,fL u t= - fL t u)→cmpL m l= - cmpL l m
 |[],[],_,_=>rfl
 |t::l,u::m,h,k=>by
  have ih:=VA l m (by simpa using h) fun t ht u=>k t (by simp[ht]) u;rw[cmpL,cmpL,ih,k t (by simp) u,r_]
 |[],_::_,h,_=>by simp at h
 |_::_,[],h,_=>by simp at h
theorem aco{a b:Int}(h:di (rk a) (rk b)=0):rk b=rk a:=(Yv h).symm
theorem akH(a b:Tm)(k:∀t∈a.ts,∀u,fL u t= - fL t u):fL b a= - fL a b:=by
 rw[uG,uG a b,rK (rk a.k) (rk b.k)];by_cases h0:di (rk a.k) (rk b.k)=0
 ·have hr:=aco h0;rw[hr]at h0⊢;rw[h0];have e1:∀x:Int,dq (-0) x=x:=fun x=>by simp[dq]
  have e2:∀x:Int,dq 0 x=x:=fun x=>by simp[dq]
  rw[e1,e2];split
  ·exact rK _ _
  ·split
   ·exact rK _ _
   ·split
    ·rw[rK (a.ts.length:Int) b.ts.length,Ck a.s b.s];by_cases hl:di (a.ts.length:Int) b.ts.length=0
     ·rw[VA a.ts b.ts (lT hl) k,r_,r_]
     ·rw[qP (by omega),qP hl]
    ·rw[rK a.k b.k,rK a.n b.n,Ck a.s b.s,r_,r_]
 ·rw[qP (by omega),qP h0]
theorem acp:∀(a b:Tm),fL b a= - fL a b
 |.mk k n s ts,b=>akH _ b fun t ht u=>acp t u
 decreasing_by simp[Tm.ts]at ht;have:=atD ht;simp;omega
theorem Pt:∀(l m o:List Tm),l.length=m.length→m.length=o.length→(∀t∈l,∀u v,T3 (fL t u) (fL u v) (fL t v))→T3 (cmpL l m) (cmpL m o) (cmpL l o)
 |[],[],[],_,_,_=>by intro _ _;exact⟨axK _,fun _=>⟨rfl,rfl⟩⟩
 |t::l,u::m,v::o,h1,h2,k=>by
  rw[cmpL,cmpL,cmpL];exact(k t (by simp) u v).dq fun _ _ _=>Pt l m o (by simpa using h1) (by simpa using h2) fun t ht u v=>k t (by simp[ht]) u v
 |[],_::_,_,h,_,_=>by simp at h
 |_::_,[],_,h,_,_=>by simp at h
 |_,[],_::_,_,h,_=>by simp at h
 |_,_::_,[],_,h,_=>by simp at h
theorem agH(a b c:Tm)(k:∀t∈a.ts,∀u v,T3 (fL t u) (fL u v) (fL t v)):T3 (fL a b) (fL b c) (fL a c):=by
 rw[uG a b,uG b c,uG a c];refine(uH (rk a.k) (rk b.k) (rk c.k)).dq fun h1 h2 h3=>?_;rw[aco h1];split
 ·exact uH _ _ _
 ·split
  ·exact uH _ _ _
  ·split
   ·exact(uH _ _ _).dq fun g1 g2 _=>(Fk _ _ _).dq fun _ _ _=>Pt _ _ _ (lT g1) (lT g2) k
   ·exact(uH _ _ _).dq fun _ _ _=>(uH _ _ _).dq fun _ _ _=>Fk _ _ _
theorem Yw:∀(a b c:Tm),T3 (fL a b) (fL b c) (fL a c)
 |.mk k n s ts,b,c=>agH _ b c fun t ht u v=>Yw t u v
 decreasing_by simp[Tm.ts]at ht;have:=atD ht;simp;omega
theorem VB(a b:At):lU b a= - lU a b:=by
 unfold lU;rw[Ck a.s b.s,rK (a.ts.length:Int) b.ts.length];by_cases hl:di (a.ts.length:Int) b.ts.length=0
 ·rw[VA a.ts b.ts (lT hl) fun t _ u=>acp t u,r_,r_]
 ·rw[qP (x:= -di (a.ts.length:Int) b.ts.length) (by omega),qP hl,r_]
theorem agI(a b c:At):T3 (lU a b) (lU b c) (lU a c):=by
 unfold lU;exact(Fk _ _ _).dq fun _ _ _=>(uH _ _ _).dq fun g1 g2 _=>Pt _ _ _ (lT g1) (lT g2) fun t _ u v=>Yw t u v
theorem vO:Ord mJ:=by
 refine⟨fun x y z h1 h2=>?_,fun x y h=>?_⟩
 ·simp[mJ]at h1 h2⊢;have:=VB z y;obtain⟨g1,g2⟩:=agI x y z (by omega) (by omega);by_cases h0:lU x z=0
  ·have:=(g2 h0).1;omega
  ·omega
 ·simp[mJ]at h⊢;have:=VB x y;omega
theorem Yx(a:At):lU a a=0:=by have:=VB a a;omega
theorem F2:∀l:List At,sameAs l l=true
 |[]=>rfl
 |a::l=>by simp[sameAs,Yx,F2 l]
end Go.Proofs.YtggffkaadeagbaaGreat
namespace Go.Proofs.YtggffkaadeagbaaGreat
open Go Go.Ev
theorem t9(z:IV):aD ar3 9 z=true:=by kernel_rfl
theorem J6{α:Type}{lt:α→α→Bool}{f:α}:∀(A:List α) {o:List α},f∈ee lt o A→f∈o∨f∈A
 |[],_,h=>.inl h
 |x::A,o,h=>by
  rcases J6 A h with h|h
  ·rcases rJ.1 h with rfl|h
   ·exact .inr (by simp)
   ·exact .inl h
  ·exact .inr (by simp[h])
theorem SC{m:Me}{n:Int}(hm:Ps m):CS (lV m n).1:=by
 unfold lV;split
 ·exact⟨by simp,by simp,by simp,by simp,by simp,by simp⟩
 ·have hf:∀f∈m.facts++m.past.filter (fun f=>decide (f.id∈gU m n)),oP f:=fun f hf=>by
   rcases List.mem_append.1 hf with hf|hf
   ·exact hm.w.f f hf
   ·exact hm.w.p f (asK.1 hf).1
  have h1:=hm.fp;have h3:=hm.l;have tW:=aty (fun f:Fa=>decide (f.id∈gU m n)) m.past;have iW:=aty (fun f:Fa=> !decide (f.id∈gU m n)) m.past;refine⟨?_,?_,?_,fun f C_=>?_,fun f C_=>?_,fun x hx=>hm.w.l x (asK.1 hx).1⟩
  ·have:=aty (fun f:Fa=> !decide (n∈f.j)) (ee jd [] (m.facts++m.past.filter fun f=>decide (f.id∈gU m n)));rw[xo,List.length_append]at this;show(ct _ _).length≤_;unfold ct;simp at this;omega
  ·have:=aty (fun f:Fa=> !decide (n∈f.j)) (m.past.filter fun f=> !decide (f.id∈gU m n));show(ct _ _).length≤_;unfold ct;omega
  ·have:=aty (fun x:Ap=> !decide (n∈x.fK)) m.log;show(List.filter _ _).length≤_;omega
  ·have:=(asK.1 C_).1;rcases J6 _ this with h|h
   ·simp at h
   ·exact hf f h
  ·exact hm.w.p f (asK.1 (asK.1 C_).1).1
theorem xI{m:Me}{n:Int}(hm:SmM m):CS (lV m n).1:=SC hm.two
theorem Yy{m:Me}(hm:SmM m):Sm (yl m)∧∀a∈yl m,CQ a:=by
 have h1:=hm.f;rw[yl,Eb];refine⟨by show(ee _ _ _).length≤_;rw[xo];simp;omega,fun a ha=>?_⟩;rcases J6 _ ha with h|h
 ·simp at h
 ·obtain⟨f,hf,rfl⟩:=asO.1 h;exact(hm.w.f f hf).1
end Go.Proofs.YtggffkaadeagbaaGreat
