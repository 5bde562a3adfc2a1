/- A part of the proof, no condition: the audit of a memory, of the program and of the reference, at plain values. -/
import Derived.Test.YtpfogalbnijcoaaGreatEvJ
import Derived.Test.YtpfogalbnijcoaaGreatRgI
import Derived.Test.YtpfogalbnijcoaaGreatRuC
import Derived.Test.YtpfogalbnijcoaaGreatRuH
import Derived.Test.YtpfogalbnijcoaaGreatRkS
import Derived.Test.YtpfogalbnijcoaaGreatRkN
import Derived.Test.YtpfogalbnijcoaaGreatEvH
import Derived.Test.YtpfogalbnijcoaaGreatRgR
open Go.Proofs.Tryz renaming prog->ar1
open List renaming drop_eq_getElem_cons->asH,drop_of_length_le->asJ,take_of_length_le->asf,getElem_mem->ar5,mem_take_iff_getElem->avV
open List.cons renaming injEq->as4
open Bool renaming eq_iff_iff->awX
open Go.IntKind renaming i64->asC
open Option renaming some->aa
open Bool renaming true->ab,false->af
set_option linter.all false
namespace Go.Proofs.YtpfogalbnijcoaaGreat
open Go Go.Ev
def ud:List Nat:=[209,280,208,250,295,5,16,13,22,23,8,49,4,9,7,272,199,118,198,240,197,241,62,249,122,206,61,202,101,123,125,177,248,124,205,59,119,63,244,203,243,242,201,245,200,246,204,120,18,36,68,64,126,207,33,17,66,35,34,60,65,37,6,20,19,58,55,117,235,180,105,230,107,30,24,10,25,51,50,106,54,186,53,256,257,108,52,134,227,110,281,279,187,29,234,260]
def ue:List Nat:=[11,14,31,32,40,45,82,85,89,93,97,115,131,138,142,146,161,162,167,171,172,193,212,214,216,222,225,226,228,254,258,277,311,318]
def uf:List Nat:=[238]
def ug:List Nat:=[205,189,111,500182,500183,500056,600057,500117,500058]
def Sa:ak:=
 (jM cb 2 cb 1 bC 2 (jU 3 (gn 1 dh 2 (vu 4 .neq jN iN aU 0 3 2 1))) iF)
def aal:ak:=
 (IL (lM fj .neq cb fj aU Sa))
def aiU:bg:=⟨ud,ue,uf,[⟨0,19,4,[(0,(5,0))],[],[],[]⟩],ug⟩
theorem am2:aK ar1 aiU 400 af 19=aal:=by kernel_rfl
def Sb:ak:=
 (jJ dg Cf 1 Cf (gn 3 (rM 0) 1 (pB (jt 3 3) (vo 3 0 0) (u_ 2 (wY 0 1 (rz 2))) 0 3 1 1 (mN 2))) vb)
def aam:ak:=
 (jP 6 Sb)
def aiV:bg:=⟨ud,ue,uf,[⟨0,20,3,[(0,(3,0)),(0,(4,0))],[],[],[]⟩],ug⟩
theorem am3:aK ar1 aiV 400 af 20=aam:=by kernel_rfl
def UW:ak:=
 (vn 5 oP 6 2 4 6 6 (gn 6 wW 5 (qd 6 7 3 6 (fe 7) (lh 6 2 4 6 8 (vV 6 my (fe 8) (wk 6 9 (oR 18 (oS 9 9 9 9 9 9) zN (lh 6 2 4 6 11 (lh 6 2 5 6 12 (ly 19 (Wd 11 1 12) (.nt (gC 13) (jV 3) (kg 2 5))))) (kg 2 5))))) 2 3 5 1)) (kg 1 4))
def UX:ak:=
 (jM gq 5 gq 6 wW 5 (u5 6 6 (nE (rM 6)) (gn 6 wW 5 (jW 6 7 (zB 7) (lh 6 2 5 6 8 (vV 6 my (fe 8) (wk 6 9 (ja 20 (oS 9 9 9 9 9 9) (vu 10 .neq (zB 7) zN (jV 4) 2 3 5 1))))))) 2 3 5 1) ru)
def UY:ak:=
 (ga gq 4 gq UW UX)
def Ll:ak:=
 (Pa (u_ 3 (lM gq .lss (rz 3) gq (lh 6 2 3 6 4 (FP 4 w9 (vt 3))) UY)))
def adX:ak:=
 (xh 2 0 5 1 (qP 17 rL (rF 1 1 1 1 1 4) (Ht dq 2 (jV 1) Ll)))
def am4:bg:=⟨ud,ue,uf,[⟨0,6,17,[(0,(8,0))],[],[],[]⟩,⟨0,6,9,[(0,(6,0))],[],[],[]⟩,⟨0,6,12,[(0,(7,0))],[],[],[]⟩,⟨0,6,4,[(0,(5,0))],[],[],[]⟩],ug⟩
theorem aqp:aK ar1 am4 400 af 6=adX:=by kernel_rfl
def Sc:ak:=
 (lN dg 1 Cf 3 (rM 0) 1 (pB (jt 3 3) (vo 3 0 0) (u_ 2 (wY 0 1 (rz 2))) 0 3 1 1 (mN 2)) vb)
def aan:ak:=
 (jW 6 0 Cf Sc)
def aiW:bg:=⟨ud,ue,uf,[⟨0,16,3,[(0,(3,0)),(0,(9,0))],[],[],[]⟩],ug⟩
theorem am5:aK ar1 aiW 400 af 16=aan:=by kernel_rfl
def Sd:ak:=
 (yv 7 (.len jk) 6 jk 7 (qd 6 8 3 3 (fe 8) (qL 29 (Wd 3 1 8) (.nt jm (zE 2 7) (kg 3 7))) 3 3 7 1) (uM 2 FJ))
def Se:ak:=
 (qe (.bj (.len jk) Sd) (V5 1 .geq 3 7 0 .an))
def Sf:ak:=
 (qe Se (.test mB iF (vt 2)))
def acy:ak:=
 (FI 2 fj (nG 6 dh 2 6 3 (vV 6 my (fe 3) (wk 6 4 (oR 30 (oS 4 4 4 4 4 4) ie (rI 6 dh l6 Sf) (vt 2))))) aU)
def aao:ak:=
 (jW 2 0 dh (.bj fj acy))
def aiX:bg:=⟨ud,ue,uf,[⟨0,13,1000028,[(0,(28,0))],[],[],[]⟩,⟨0,13,2,[(0,(10,0))],[],[],[]⟩,⟨1,13029,1000007,[(1,(7,0))],[],[],[]⟩,⟨2,13029008,2,[(2,(8,0))],[],[],[]⟩],ug⟩
theorem am6:aK ar1 aiX 400 af 13=aao:=by kernel_rfl
def UZ:ak:=
 (vn 3 gq 6 2 3 6 4 (FP 4 (zE 0 3) (kg 1 3)) (uM 0 FJ))
def U0:ak:=
 (qe (FP 6 jL (lZ 6 3 (vV 6 my vj (wk 6 7 (zP 16 (oS 7 7 7 7 7 7) 8 (lO zJ oT) (.nx 4 (nE (lO zJ oT)) .an)))))) (.test mB (zE 2 5) (kg 3 5)))
def U1:ak:=
 (vn 5 gq 6 2 5 6 6 U0 (uM 2 FJ))
def U2:ak:=
 (qe (fE 2 U1) (V5 1 .geq 3 5 0 .an))
def afn:ak:=
 (qe U2 (.nx 0 (nE ej) .an))
def Gg:ak:=
 (vc afn ej (jV 4) ru)
def afo:ak:=
 (qe (FP 6 jL (lZ 6 3 (vV 6 my vj (wk 6 7 (zP 16 (oS 7 7 7 7 7 7) 8 (lO zJ oT) (.nx 4 (nE (lO zJ oT)) .an)))))) (.test mB (zE 2 5) (kg 3 5)))
def afp:ak:=
 (vn 5 gq 6 2 5 6 6 afo (uM 2 FJ))
def afq:ak:=
 (qe (fE 2 afp) (V5 1 .geq 3 5 0 .an))
def afr:ak:=
 (qe afq (.nx 0 (nE ej) .an))
def Sg:ak:=
 (vc afr ej (jV 4) ru)
def Sh:ak:=
 (qe (fE 2 UZ) (.nt (BU 3) (fE 2 (Hs (rJ gq) 3 (rJ gq) w9 (ly 13 (Ek rL 1 2 .an) (.nt iN (jV 3) Gg)))) (ly 13 (Ek rL 1 2 .an) (.nt iN (jV 3) Sg))))
def adY:ak:=
 (xh 2 0 5 1 (qP 10 rL (rF 1 1 1 1 1 4) (Ht dq 2 (jV 1) Sh)))
def am7:bg:=⟨ud,ue,uf,[⟨0,5,1000030,[(0,(30,0))],[],[],[]⟩,⟨1,5031,1000007,[(1,(7,0))],[],[],[]⟩,⟨2,5031008,1000007,[(2,(7,0))],[],[],[]⟩,⟨3,5031008008,2,[(3,(8,0))],[],[],[]⟩,⟨3,5031008008,1000016,[(3,(16,0))],[],[],[]⟩,⟨0,5,1000012,[(0,(12,0))],[],[],[]⟩,⟨1,5013,2,[(1,(8,0))],[],[],[]⟩],ug⟩
theorem aqq:aK ar1 am7 400 af 5=adY:=by kernel_rfl
def Xk:ak:=
 (xh 2 0 5 1 (qP 4 rL (rF 1 1 1 1 1 4) (Ht dq 2 iF (qP 5 rL (rF 1 1 1 1 1 4) (vl 3 6 rL (rF 1 1 1 1 1 4) (mq iN (lO jN iN) (ly 7 .an (.nr ie)) aU))))))
def am8:bg:=⟨ud,ue,uf,[],ug⟩
theorem aqr:aK ar1 am8 400 af 3=Xk:=by kernel_rfl
def aap:ak:=
 (jW 6 0 jl (.nr (va jl 0)))
def aiY:bg:=⟨ud,ue,uf,[],ug⟩
theorem am9:aK ar1 aiY 400 af 18=aap:=by kernel_rfl
def aaq:ak:=
 (jW 6 0 jl (.nr (va jl 0)))
def aiZ:bg:=⟨ud,ue,uf,[],ug⟩
theorem am_:aK ar1 aiZ 400 af 30=aaq:=by kernel_rfl
end Go.Proofs.YtpfogalbnijcoaaGreat
namespace Go.Proofs.YtpfogalbnijcoaaGreat
open Go Go.Ev
theorem aqs:(ar1.funcs[19]?).map (·.params.size)=aa 2:=by kernel_rfl
theorem aqt(z:IV):aQ ar1 19 z=ab:=by kernel_rfl
theorem aqu(a b:List Int)(hl:Sm a):CC 19 af [iL a,iL b] (iB (a==b)):=by
 refine CC.of am2 aqs (aqt _) (by simp) (by simp) ?_;simp[aal,Sa,SE.den];by_cases bR:a.length=b.length
 ·right;simp[bR];refine dE a.length (λi (_:Unit)=>[iI i]) (λi _=>(a=b↔a.drop i=b.drop i)) () ?_ ?_ λi _ hi hI=>?_
  ·simp[SE.den]
  ·simp
  by_cases ai:i<a.length
  ·have wz:i<b.length:=by omega
   have iw:a=b↔a[i]=b[i]/\a.drop (i+1)=b.drop (i+1):=by
    rw[hI,asH ai,asH wz,as4]
   have hw:=aD ai hl;simp[SE.den,ai,wz,hw];by_cases h:a[i]=b[i]
   ·right;exact⟨h,by omega,by rw[iw];simp[h]⟩
   ·left;exact⟨h,λhh=>h (iw.1 hh).1⟩
  ·simp[SE.den,ai];rw[asJ (by omega),asJ (by omega)]at hI;exact hI.2 rfl
 ·left;exact⟨by omega,λh=>bR (by rw[h])⟩
def yX(g:Gl):Bool:=g.op==0
def uh(r:Rl):Nat:=r.body.countP yX
theorem GY{l:List Gl}{i:Nat}(h:i<l.length):(l.take (i+1)).countP yX=(l.take i).countP yX+if l[i].op=0 then 1 else 0:=by
 rw[List.take_succ_eq_append_getElem h,List.countP_append];simp[yX,List.countP_cons]
theorem Nh(l:List Gl)(i:Nat):(l.take i).countP yX<=i:=Nat.le_trans List.countP_le_length (by simp;omega)
theorem aqv:(ar1.funcs[20]?).map (·.params.size)=aa 1:=by kernel_rfl
theorem aqw(z:IV):aQ ar1 20 z=ab:=by kernel_rfl
theorem aqx:(ar1.funcs[16]?).map (·.params.size)=aa 1:=by kernel_rfl
theorem aqy(z:IV):aQ ar1 16 z=ab:=by kernel_rfl
theorem aqz(r:Rl)(hl:Sm r.body):CC 20 af [gO r] (iI (uh r)):=by
 refine CC.of am3 aqv (aqw _) (by simpa using fx r) (by simp) ?_;simp[aam,Sb,SE.den,gO,aj];refine dE r.body.length (λi (c:Nat)=>[iI i,iI c]) (λi c=>c=(r.body.take i).countP yX) 0 ?_ ?_ λi c hi hI=>?_
 ·simp[SE.den]
 ·simp
 by_cases ai:i<r.body.length
 ·have hw:=aD ai hl;have DM:=aD (i:=c) (n:=r.body.length) (by have:=Nh r.body i;omega) hl;have ht:=GY ai;simp[SE.den,ai,hw,kU];by_cases h:r.body[i].op=0
  ·rw[if_pos h]at ht;exact⟨by simp[aj],.inl ⟨h,by rw[DM,ht,<-hI],by omega⟩⟩
  ·rw[if_neg h]at ht;exact⟨by simp[aj],.inr ⟨h,by rw[ht,<-hI];simp,by omega⟩⟩
 ·simp[SE.den,ai];rw[hI,asf (by omega)];rfl
theorem aqA(r:Rl)(hl:Sm r.body):CC 16 af [gO r] (iI (uh r)):=by
 refine CC.of am5 aqx (aqy _) (by simpa using fx r) (by simp) ?_;simp[aan,Sc,SE.den,gO,aj];refine dE r.body.length (λi (c:Nat)=>[iI i,iI c]) (λi c=>c=(r.body.take i).countP yX) 0 ?_ ?_ λi c hi hI=>?_
 ·simp[SE.den]
 ·simp
 by_cases ai:i<r.body.length
 ·have hw:=aD ai hl;have DM:=aD (i:=c) (n:=r.body.length) (by have:=Nh r.body i;omega) hl;have ht:=GY ai;simp[SE.den,ai,hw,kU];by_cases h:r.body[i].op=0
  ·rw[if_pos h]at ht;exact⟨by simp[aj],.inl ⟨h,by rw[DM,ht,<-hI],by omega⟩⟩
  ·rw[if_neg h]at ht;exact⟨by simp[aj],.inr ⟨h,by rw[ht,<-hI];simp,by omega⟩⟩
 ·simp[SE.den,ai];rw[hI,asf (by omega)];rfl
theorem aqB:(ar1.funcs[18]?).map (·.params.size)=aa 1:=by kernel_rfl
theorem aqC(z:IV):aQ ar1 18 z=ab:=by kernel_rfl
theorem aqD:(ar1.funcs[30]?).map (·.params.size)=aa 1:=by kernel_rfl
theorem aqE(z:IV):aQ ar1 30 z=ab:=by kernel_rfl
theorem aqF(r:Rl):CC 18 af [gO r] (iB (decide (r.remove=[]))):=by
 refine CC.of am9 aqB (aqC _) (by simpa using fx r) (by simp) ?_;simp[aap,SE.den,gO,aj];rw[awX];simp
theorem aqG(r:Rl):CC 30 af [gO r] (iB (decide (r.remove=[]))):=by
 refine CC.of am_ aqD (aqE _) (by simpa using fx r) (by simp) ?_;simp[aaq,SE.den,gO,aj];rw[awX];simp
end Go.Proofs.YtpfogalbnijcoaaGreat
namespace Go.Proofs.YtpfogalbnijcoaaGreat
open Go Go.Ev
def Xl(rs:List Rl)(x:Ap):Bool:=match rs[x.rule.toNat]? with|some r=>decide (r.remove=[])|none=>af
def acz(rs:List Rl)(x:Ap):Nat:=match rs[x.rule.toNat]? with|some r=>uh r|none=>0
def kX(rs:List Rl)(x:Ap):Prop:=x.failed=ab\/x.made.length=acz rs x
def xr(rs:List Rl)(x y:Ap):Prop:=x.rule=y.rule/\Xl rs x=ab/\x.aW=y.aW
structure vG(rs:List Rl)(l:List Ap):Prop where
 s0:l.length<=1000
 sh:∀x∈l,Sm x.aW
 sm:∀x∈l,Sm x.made
 sr:∀x∈l,∃(k:Nat) (_:k<rs.length),x.rule=(k:Int)
 sb:∀r∈rs,Sm r.body
theorem vG.sl{rs:List Rl}{l:List Ap}(h:vG rs l):Sm l:=by have:=h.s0;unfold Sm;omega
theorem U3{rs:List Rl}{x:Ap}{k:Nat}(h:k<rs.length)(hx:x.rule=(k:Int)):Xl rs x=decide (rs[k].remove=[]):=by
 unfold Xl;rw[hx];simp[h]
theorem U4{rs:List Rl}{x:Ap}{k:Nat}(h:k<rs.length)(hx:x.rule=(k:Int)):acz rs x=uh rs[k]:=by
 unfold acz;rw[hx];simp[h]
section
variable{Q:IV->Prop}{k0 k1 k2:List IV->Prop}
theorem aqH{ds x y z w x2 x3 x4:IV}{rs:List Rl}{l:List Ap}(hA:vG rs l)(h4:(∃x∈l,¬kX rs x)->Q (iI 4))(h0:(∀x∈l,kX rs x)->Q (iI 0)):
 UX.sat ar1 CC Q [k0,k1] [.agg [ds,nj rs],.agg [x,y,mu l,z,w],x2,x3,x4]:=by
 refine aw l.length (λi (_:Unit)=>[iI i]) (λi _=>∀x∈l.take i,kX rs x) () ?_ ?_ λi _ hi hI=>?_
 ·simp[SE.den]
 ·simp
 by_cases ai:i<l.length
 ·have hw:=aD ai hA.sl;have eg:=ar5 ai;obtain⟨k,hk,hr⟩:=hA.sr _ eg;have h20:=aqz rs[k] (hA.sb _ (ar5 hk));simp only[gO]at h20;have hc:=U4 hk hr;have bp:=aB (p:=λx=>kX rs x) ai hI;simp[SE.den,ai,yK ai,aj];cases hf:l[i].failed with
  |true=>
   simp[hw];exact .mk () rfl (by omega) (bp (.inl hf))
  |false=>
   simp[hr,yM hk];refine⟨_,h20,?_⟩;simp[hw];by_cases hm:l[i].made.length=uh rs[k]
   ·right;exact⟨by omega,.mk () rfl (by omega) (bp (.inr (by rw[hc];exact hm)))⟩
   ·left;exact⟨by omega,h4 ⟨_,eg,λh=>h.elim (λh=>by rw[hf]at h;cases h) (λh=>hm (by rw[<-hc];exact h))⟩⟩
 ·simp[SE.den,ai];exact h0 (aI ai hI)
theorem aqI{ds x y z w x2 x3:IV}{rs:List Rl}{l:List Ap}(hA:vG rs l){i:Nat}(ai:i<l.length)(h3:(∃y∈l.take i,xr rs l[i] y)->Q (iI 3))(h0:(¬∃y∈l.take i,xr rs l[i] y)->k1 [iI (i+1:Nat)]):
 UW.sat ar1 CC Q [k0,k1] [.agg [ds,nj rs],.agg [x,y,mu l,z,w],x2,x3,iI i]:=by
 have eg:=ar5 ai;obtain⟨k,hk,hr⟩:=hA.sr _ eg;have h18:=aqF rs[k];simp only[gO]at h18;have hp:=U3 hk hr;have fS:=aD ai hA.sl;refine aw i (λj (_:Unit)=>[iI j]) (λj _=>∀y∈l.take j,¬xr rs l[i] y) () ?_ ?_ λj _ hj hI=>?_
 ·simp[SE.den]
 ·simp
 by_cases hjt:j<i
 ·have vP:j<l.length:=by omega
  have hw:=aD vP hA.sl;have bw:=aB (p:=λy=>¬xr rs l[i] y) vP hI;have vL:l[j]∈l.take i:=avV.2 ⟨j,by omega,rfl⟩;simp[SE.den,hjt,vP,ai,yK ai,yK vP,aj];by_cases he:l[i].rule=l[j].rule
  ·left;refine⟨he,?_⟩;rw[hr];simp[yM hk];refine⟨_,h18,?_⟩;by_cases hd:rs[k].remove=[]
   ·simp[hd];have h19:=aqu l[i].aW l[j].aW (hA.sh _ eg);refine⟨_,h19,?_⟩;by_cases hh:l[i].aW=l[j].aW
    ·simp[hh];exact h3 ⟨_,vL,he,by rw[hp];simpa using hd,hh⟩
    ·simp[hh,hw];exact .mk () rfl (by omega) (bw λhx=>hh hx.2.2)
   ·simp[hd,hw];exact .mk () rfl (by omega) (bw λhx=>hd (by have:=hx.2.1;rw[hp]at this;simpa using this))
  ·right;refine⟨he,?_⟩;simp[hw];exact .mk () rfl (by omega) (bw λhx=>he hx.1)
 ·have:j=i:=by omega
  subst this;simp[SE.den,fS];exact h0 λ⟨y,hy,hp⟩=>hI y hy hp
def pX(rs:List Rl)(l:List Ap):Prop:=∃(i:Nat) (h:i<l.length),∃y∈l.take i,xr rs l[i] y
def ui(l:List Ap):Prop:=∃(i:Nat) (h:i+1<l.length),l[i].failed=ab
theorem aqJ{ds x y z w x2 x3:IV}{rs:List Rl}{l:List Ap}(hA:vG rs l)(h3:pX rs l->Q (iI 3))(h4:¬pX rs l->(∃x∈l,¬kX rs x)->Q (iI 4))(h0:¬pX rs l->(∀x∈l,kX rs x)->Q (iI 0)):
 UY.sat ar1 CC Q [k0] [.agg [ds,nj rs],.agg [x,y,mu l,z,w],x2,x3]:=by
 refine aw l.length (λi (_:Unit)=>[iI i]) (λi _=>∀(j:Nat) (h:j<l.length),j<i->¬∃y∈l.take j,xr rs l[j] y) () ?_ ?_ λi _ hi hI=>?_
 ·simp[SE.den]
 ·intro j _ h;omega
 by_cases ai:i<l.length
 ·simp[SE.den,ai,aj];refine aqI hA ai (λh=>h3 ⟨i,ai,h⟩) λh=>.mk () rfl (by omega) λj hj GV=>?_;by_cases he:j=i
  ·subst he;simpa using h
  ·simpa using hI j hj (by omega)
 ·simp[SE.den,ai,aj];have bw:¬pX rs l:=λ⟨j,hj,h⟩=>hI j hj (by omega) h;exact aqH hA (h4 bw) (h0 bw)
theorem aqK{ds x y z w x2:IV}{rs:List Rl}{l:List Ap}(hA:vG rs l)(h2:ui l->Q (iI 2))(h3:¬ui l->pX rs l->Q (iI 3))(h4:¬ui l->¬pX rs l->(∃x∈l,¬kX rs x)->Q (iI 4))(h0:¬ui l->¬pX rs l->(∀x∈l,kX rs x)->Q (iI 0)):
 Ll.sat ar1 CC Q [] [.agg [ds,nj rs],.agg [x,y,mu l,z,w],x2]:=by
 refine aw l.length (λi (_:Unit)=>[iI i]) (λi _=>∀(j:Nat) (h:j+1<l.length),j<i->¬l[j].failed=ab) () ?_ ?_ λi _ hi hI=>?_
 ·simp[SE.den]
 ·intro j _ h;omega
 have hs:=hA.s0;have hw:=aD (i:=i) (n:=2000) (by omega) (by omega);by_cases ai:i+1<l.length
 ·have yb:i<l.length:=by omega
  have hc:((i:Int)+1<(l.length:Int)):=by omega
  simp[SE.den,hw,hc,yb,yK yb,aj];cases hf:l[i].failed with
  |true=>simp;exact h2 ⟨i,ai,hf⟩
  |false=>
   simp;refine .mk () rfl (by omega) λj hj GV=>?_;by_cases he:j=i
   ·subst he;exact hf
   ·simpa using hI j hj (by omega)
 ·have hc:¬((i:Int)+1<(l.length:Int)):=by omega
  have bw:¬ui l:=λ⟨j,hj,h⟩=>hI j hj (by omega) h;simp[SE.den,hw,hc,aj];exact aqJ hA (h3 bw) (h4 bw) (h0 bw)
end
open Classical in
noncomputable def H0(p:Pg)(m:Me):Int:=
 if¬gH p m then 1 else if ui m.log then 2 else if pX p.rules m.log then 3 else if∃x∈m.log,¬kX p.rules x then 4 else 0
theorem adZ{p:Pg}{m:Me}(hp:wI p)(hm:yP m)(h:gH p m):vG p.rules m.log where
 s0:=by have:=hm.l;omega
 sh x hx:=by have:=(hm.x x hx).h;unfold Sm;omega
 sm x hx:=by have:=(hm.x x hx).m;unfold Sm;omega
 sr x hx:=by obtain⟨k,h,h1,_⟩:=h.l x hx;exact⟨k,h,h1⟩
 sb r hr:=by have:=(hp.rs r hr).b;unfold Sm;omega
theorem nM6:(ar1.funcs[6]?).map (·.params.size)=aa 2:=by kernel_rfl
theorem tM6(z:IV):aQ ar1 6 z=ab:=by kernel_rfl
theorem vM6(p:Pg)(hp:wI p)(hz:SzP p)(m:Me)(hm:yP m)(hn:∀f∈m.facts++m.past,yO f)(UT:SzM m):CC 6 af [eI p,fF m] (iI (H0 p m)):=by
 obtain⟨b,hb,h14⟩:=v14 p hp hz m hm hn UT;refine CC.of aqp nM6 (tM6 _) (by intro z hz;simp at hz;rcases hz with rfl|rfl;exact eJ p;exact lS m) (by simp) ?_;have hA:=λh=>adZ (p:=p) hp hm h;generalize hN:H0 p m=N;unfold H0 at hN;generalize gH p m=R at*
 obtain⟨ds,rs⟩:=p;obtain⟨mf,mp,ml,mn,mg⟩:=m;simp only[eI,fF]at*
 have h3:R->∀x2:IV,Ll.sat ar1 CC (λx=>x=iI N) [] [.agg [eo ds,nj rs],.agg [iv mf,iv mp,mu ml,iI mn,iI mg],x2]:=λhR x2=>
  aqK (hA hR) (λh=>by rw[<-hN];simp[hR,h]) (λh1 h2=>by rw[<-hN];simp[hR,h1,h2]) (λh1 h2 h3=>by rw[<-hN];simp only[hR,h1,h2,not_true_eq_false,if_false,if_pos h3]) (λh1 h2 h3=>by rw[<-hN,if_neg (λh=>h hR),if_neg h1,if_neg h2,if_neg (λ⟨x,hx,hq⟩=>hq (h3 x hx))])
 simp[adX,SE.den,aj];refine⟨_,h14,?_⟩;cases b with
 |true=>simp;exact h3 (hb.1 rfl) _
 |false=>
  have:¬R:=λh=>by have:=hb.2 h;cases this
  simp[<-hN,this]
end Go.Proofs.YtpfogalbnijcoaaGreat
namespace Go.Proofs.YtpfogalbnijcoaaGreat
open Go Go.Ev
section
variable{Q:IV->Prop}{k0 k1 k2 k3:List IV->Prop}
def Dp(x y:Ap):Prop:=x.rule=y.rule/\x.aW=y.aW
theorem ai0{x0 x1 x2 x4 x5:IV}{x:Ap}{t:List Ap}(ht:Sm t)(hx:Sm x.aW)(h1:(∃y∈t,Dp x y)->∀j:Nat,k2 [iI j])(h2:(¬∃y∈t,Dp x y)->k2 [iI (-1)]):
 Sd.sat ar1 CC Q [k0,k1,k2] [x0,x1,x2,.agg [iI x.rule,iL x.aW,iL x.gone,iL x.made,iB x.failed,iL x.ff],x4,x5,mu t]:=by
 refine aw t.length (λj (_:Unit)=>[iI j]) (λj _=>∀y∈t.take j,¬Dp x y) () ?_ ?_ λj _ hj hI=>?_
 ·simp[SE.den]
 ·simp
 by_cases ai:j<t.length
 ·have hw:=aD ai ht;have bw:=aB (p:=λy=>¬Dp x y) ai hI;have eg:=ar5 ai;simp[SE.den,ai,yK ai,aj];by_cases he:x.rule=t[j].rule
  ·left;refine⟨he,?_⟩;refine⟨_,RY x.aW t[j].aW hx,?_⟩;by_cases hh:x.aW=t[j].aW
   ·simp[hh];exact h1 ⟨_,eg,he,hh⟩ j
   ·simp[hh,hw];exact .mk () rfl (by omega) (bw λh=>hh h.2)
  ·right;refine⟨he,?_⟩;simp[hw];exact .mk () rfl (by omega) (bw λh=>he h.1)
 ·simp[SE.den,ai];have:=aI ai hI;exact h2 λ⟨y,hy,hp⟩=>this y hy hp
theorem ai1{x0 x1 x2 x4 x5:IV}{x:Ap}{t:List Ap}(ht:Sm t)(hx:Sm x.aW)(h1:(∃y∈t,Dp x y)->k1 [iB ab])(h2:(¬∃y∈t,Dp x y)->k1 [iB af]):
 Se.sat ar1 CC Q [k0,k1] [x0,x1,x2,.agg [iI x.rule,iL x.aW,iL x.gone,iL x.made,iB x.failed,iL x.ff],x4,x5,mu t]:=by
 refine gr (λvs=>(∃y∈t,Dp x y)/\(∃j:Nat,vs=[iI j])\/(¬∃y∈t,Dp x y)/\vs=[iI (-1)]) ?_ ?_
 ·simp[SE.den];exact ai0 ht hx (λh j=>.inl ⟨h,j,rfl⟩) (λh=>.inr ⟨by simpa using h,rfl⟩)
 ·rintro vs (⟨h,j,rfl⟩|⟨h,rfl⟩)
  ·refine⟨rfl,?_⟩;have hj:(0:Int)<=(j:Int):=by omega
   simp[SE.den];exact h1 h
  ·refine⟨rfl,?_⟩;simp[SE.den];exact h2 h
theorem ai2{x0 x1 x4 x5:IV}{x:Ap}{t:List Ap}{i:Nat}(hw:asC.wrap ((i:Int)+1)=((i+1:Nat):Int))(ht:Sm t)(hx:Sm x.aW)(h1:(∃y∈t,Dp x y)->Q (iB ab))(h2:(¬∃y∈t,Dp x y)->k0 [iI (i+1:Nat)]):
 Sf.sat ar1 CC Q [k0] [x0,x1,iI i,.agg [iI x.rule,iL x.aW,iL x.gone,iL x.made,iB x.failed,iL x.ff],x4,x5,mu t]:=by
 refine gr (λvs=>(∃y∈t,Dp x y)/\vs=[iB ab]\/(¬∃y∈t,Dp x y)/\vs=[iB af]) ?_ ?_
 ·exact ai1 ht hx (λh=>.inl ⟨h,rfl⟩) (λh=>.inr ⟨h,rfl⟩)
 ·rintro vs (⟨h,rfl⟩|⟨h,rfl⟩)
  ·exact⟨rfl,by simp[SE.den];exact h1 h⟩
  ·exact⟨rfl,by simp[SE.den,hw];exact h2 h⟩
end
theorem aqL:(ar1.funcs[13]?).map (·.params.size)=aa 2:=by kernel_rfl
theorem aqM(z:IV):aQ ar1 13 z=ab:=by kernel_rfl
theorem ana{l:List Ap}{i:Nat}(h:i<=l.length):kP 6 (mu l) (iI 0) (iI (i:Nat))=aa (mu (l.take i)):=by
 simp[kP,gh,h,List.map_take]
theorem aqN(p:Pg)(l:List Ap)(hA:vG p.rules l):∃b,(b=ab↔pX p.rules l)/\CC 13 af [eI p,mu l] (iB b):=by
 refine CC.qq _ am6 aqL aqM (by intro z hz;simp at hz;rcases hz with rfl|rfl;exact eJ p;exact abU l) (by rfl) ?_;obtain⟨ds,rs⟩:=p;simp only[eI]at*
 simp[aao,SE.den,aj];refine aw l.length (λi (_:Unit)=>[iI i]) (λi _=>∀(j:Nat) (h:j<l.length),j<i->¬∃y∈l.take j,xr rs l[j] y) () ?_ ?_ λi _ hi hI=>?_
 ·simp[SE.den]
 ·intro j _ h;omega
 by_cases ai:i<l.length
 ·have eg:=ar5 ai;obtain⟨k,hk,hr⟩:=hA.sr _ eg;have h30:=aqG rs[k];simp only[gO]at h30;have hp:=U3 hk hr;have hw:=aD ai hA.sl
  have ad0:(¬∃y∈l.take i,xr rs l[i] y)->∀(j:Nat) (h:j<l.length),j<i+1->¬∃y∈l.take j,xr rs l[j] y:=λhn j hj GV=>by
   by_cases he:j=i
   ·subst he;exact hn
   ·exact hI j hj (by omega)
  simp[SE.den,ai,yK ai,aj];rw[hr];simp[yM hk];refine⟨_,h30,?_⟩;by_cases hd:rs[k].remove=[]
  ·have hpt:Xl rs l[i]=ab:=by rw[hp];simpa using hd
   simp[hd,ana (Nat.le_of_lt ai)];rw[<-hr];refine ai2 hw (by have:=hA.s0;unfold Sm;simp;omega) (hA.sh _ eg) (λ⟨y,hy,he⟩=>?_) λhn=>.mk () rfl (by omega) (by simpa using ad0 λ⟨y,hy,hq⟩=>hn ⟨y,hy,hq.1,hq.2.2⟩);exact⟨ab,rfl,by simp;exact⟨i,ai,y,hy,he.1,hpt,he.2⟩⟩
  ·simp[hd,hw];exact .mk () rfl (by omega) (by simpa using ad0 λ⟨y,hy,hq⟩=>hd (by have:=hq.2.1;rw[hp]at this;simpa using this))
 ·simp[SE.den,ai];exactλ⟨j,hj,h⟩=>hI j hj (by omega) h
end Go.Proofs.YtpfogalbnijcoaaGreat
namespace Go.Proofs.YtpfogalbnijcoaaGreat
open Go Go.Ev
section
variable{Q:IV->Prop}{k0 k1 k2 k3:List IV->Prop}
theorem anb{x0 x y z w x2:IV}{l:List Ap}(hl:Sm l)(h1:∀(i:Nat) (h:i<l.length),l[i].failed=ab->(∀u∈l.take i,u.failed=af)->k0 [iI i])(h2:(∀u∈l,u.failed=af)->k0 [iI (-1)]):
 UZ.sat ar1 CC Q [k0] [x0,.agg [x,y,mu l,z,w],x2]:=by
 refine aw l.length (λi (_:Unit)=>[iI i]) (λi _=>∀u∈l.take i,u.failed=af) () ?_ ?_ λi _ hi hI=>?_
 ·simp[SE.den]
 ·simp
 by_cases ai:i<l.length
 ·have hw:=aD ai hl;have bp:=aB (p:=λu:Ap=>u.failed=af) ai hI;simp[SE.den,ai,yK ai,aj];cases hf:l[i].failed with
  |true=>simp;exact h1 i ai hf hI
  |false=>simp[hw];exact .mk () rfl (by omega) (bp hf)
 ·simp[SE.den,ai];exact h2 (aI ai hI)
theorem anc{ds x1 x2 x3 x4:IV}{rs:List Rl}{x:Ap}{i:Nat}(hw:asC.wrap ((i:Int)+1)=((i+1:Nat):Int)){k:Nat}(hk:k<rs.length)(hr:x.rule=(k:Int))(hb:Sm rs[k].body)(h1:¬kX rs x->k2 [iI i])(h2:kX rs x->k3 [iI (i+1:Nat)]):
 U0.sat ar1 CC Q [k0,k1,k2,k3] [.agg [ds,nj rs],x1,x2,x3,x4,iI i,.agg [iI x.rule,iL x.aW,iL x.gone,iL x.made,iB x.failed,iL x.ff]]:=by
 have hc:=U4 hk hr;refine gr (λvs=>¬kX rs x/\vs=[iB ab]\/kX rs x/\vs=[iB af]) ?_ ?_
 ·cases hf:x.failed with
  |true=>simp[SE.den];exact .inr ⟨.inl hf,rfl⟩
  |false=>
   have h16:=aqA rs[k] hb;simp only[gO]at h16;simp[SE.den,aj,hr,yM hk];refine⟨_,h16,?_⟩;simp;by_cases hm:x.made.length=uh rs[k]
   ·have hM:kX rs x:=.inr (by rw[hc];exact hm);have:(x.made.length:Int)=(uh rs[k]:Int):=by omega
    simp[this];exact .inr ⟨hM,rfl⟩
   ·have hM:¬kX rs x:=λh=>h.elim (λh=>by rw[hf]at h;cases h) λh=>hm (by rw[<-hc];exact h);have:¬(x.made.length:Int)=(uh rs[k]:Int):=by omega
    have e:((x.made.length:Int)==(uh rs[k]:Int))=af:=by simpa using this
    exact .inl ⟨hM,by simp[e]⟩
 ·rintro vs (⟨h,rfl⟩|⟨h,rfl⟩)
  ·exact⟨rfl,by simp[SE.den];exact h1 h⟩
  ·exact⟨rfl,by simp[SE.den,hw];exact h2 h⟩
theorem ane{ds x y z w x2 x3 x4:IV}{rs:List Rl}{l:List Ap}(hA:vG rs l)(h1:(∃x∈l,¬kX rs x)->∀j:Nat,k2 [iI j])(h2:(∀x∈l,kX rs x)->k2 [iI (-1)]):
 U1.sat ar1 CC Q [k0,k1,k2] [.agg [ds,nj rs],.agg [x,y,mu l,z,w],x2,x3,x4]:=by
 refine aw l.length (λi (_:Unit)=>[iI i]) (λi _=>∀x∈l.take i,kX rs x) () ?_ ?_ λi _ hi hI=>?_
 ·simp[SE.den]
 ·simp
 by_cases ai:i<l.length
 ·have hw:=aD ai hA.sl;have eg:=ar5 ai;obtain⟨k,hk,hr⟩:=hA.sr _ eg;have bp:=aB (p:=λx=>kX rs x) ai hI;simp[SE.den,ai,yK ai,aj];exact anc hw hk hr (hA.sb _ (ar5 hk)) (λh=>h1 ⟨_,eg,h⟩ i) λh=>.mk () rfl (by omega) (bp h)
 ·simp[SE.den,ai];exact h2 (aI ai hI)
theorem anf{ds x y z w x2 x3 x4:IV}{rs:List Rl}{l:List Ap}(hA:vG rs l)(h4:(∃x∈l,¬kX rs x)->Q (iI 4))(h0:(∀x∈l,kX rs x)->Q (iI 0)):
 Gg.sat ar1 CC Q [] [.agg [ds,nj rs],.agg [x,y,mu l,z,w],x2,x3,x4]:=by
 generalize hB:(∃x∈l,¬kX rs x)=B at h4;generalize hG:(∀x∈l,kX rs x)=G at h0
 have e5:∀k0 k1:List IV->Prop,(B->k1 [iB ab])->(G->k1 [iB af])->U2.sat ar1 CC Q [k0,k1] [.agg [ds,nj rs],.agg [x,y,mu l,z,w],x2,x3,x4]:=λk0 k1 q1 q2=>by
  refine gr (λvs=>B/\(∃j:Nat,vs=[iI j])\/G/\vs=[iI (-1)]) ?_ ?_
  ·simp[SE.den,aj];exact ane hA (λh j=>.inl ⟨by rw[<-hB];exact h,j,rfl⟩) (λh=>.inr ⟨by rw[<-hG];exact h,rfl⟩)
  ·rintro vs (⟨h,j,rfl⟩|⟨h,rfl⟩)
   ·exact⟨rfl,by simp[SE.den];exact q1 h⟩
   ·exact⟨rfl,by simp[SE.den];exact q2 h⟩
 refine gr (λvs=>B/\vs=[iB af]\/G/\vs=[iB ab]) ?_ ?_
 ·refine gr (λvs=>B/\vs=[iB ab]\/G/\vs=[iB af]) ?_ ?_
  ·exact e5 _ _ (λh=>.inl ⟨h,rfl⟩) (λh=>.inr ⟨h,rfl⟩)
  ·rintro vs (⟨h,rfl⟩|⟨h,rfl⟩)
   ·exact⟨rfl,by simp[SE.den];exact .inl ⟨h,rfl⟩⟩
   ·exact⟨rfl,by simp[SE.den];exact .inr ⟨h,rfl⟩⟩
 ·rintro vs (⟨h,rfl⟩|⟨h,rfl⟩)
  ·exact⟨rfl,by simp[SE.den];exact h4 h⟩
  ·exact⟨rfl,by simp[SE.den];exact h0 h⟩
end
end Go.Proofs.YtpfogalbnijcoaaGreat
namespace Go.Proofs.YtpfogalbnijcoaaGreat
open Go Go.Ev
theorem nM5:(ar1.funcs[5]?).map (·.params.size)=aa 2:=by kernel_rfl
theorem tM5(z:IV):aQ ar1 5 z=ab:=by kernel_rfl
theorem vM5(p:Pg)(hp:wI p)(m:Me)(hm:yP m)(hn:∀f∈m.facts++m.past,yO f):CC 5 af [eI p,fF m] (iI (H0 p m)):=by
 obtain⟨b,hb,h13⟩:=v13 p hp m hm hn;refine CC.of aqq nM5 (tM5 _) (by intro z hz;simp at hz;rcases hz with rfl|rfl;exact eJ p;exact lS m) (by simp) ?_;have hA:=λh=>adZ (p:=p) hp hm h;generalize hN:H0 p m=N;unfold H0 at hN;have ab7:gH p m->_:=λh=>aqN p m.log (hA h);generalize gH p m=R at*
 obtain⟨ds,rs⟩:=p;obtain⟨mf,mp,l,mn,mg⟩:=m;simp only[eI,fF]at*
 have aqO:Sg=Gg:=rfl
 have Iu:R->∀x2:IV,Sh.sat ar1 CC (λx=>x=iI N) [] [.agg [eo ds,nj rs],.agg [iv mf,iv mp,mu l,iI mn,iI mg],x2]:=λhR x2=>by
  obtain⟨c,hc,kK⟩:=ab7 hR;have hA:=hA hR
  have h5:¬ui l->¬pX rs l->∀x3 x4:IV,Gg.sat ar1 CC (λx=>x=iI N) [] [.agg [eo ds,nj rs],.agg [iv mf,iv mp,mu l,iI mn,iI mg],x2,x3,x4]:=λh1 h2 x3 x4=>
   anf hA (λh3=>by rw[<-hN];simp only[hR,h1,h2,not_true_eq_false,if_false,if_pos h3]) (λh3=>by rw[<-hN,if_neg (λh=>h hR),if_neg h1,if_neg h2,if_neg (λ⟨x,hx,hq⟩=>hq (h3 x hx))])
  have aar:¬ui l->pX rs l->N=3:=λh1 h2=>by rw[<-hN];simp[hR,h1,h2]
  refine gr (λvs=>(∃(i:Nat) (h:i<l.length),l[i].failed=ab/\(∀u∈l.take i,u.failed=af)/\vs=[iI i])\/(∀u∈l,u.failed=af)/\vs=[iI (-1)]) ?_ ?_
  ·simp[SE.den,aj];exact anb hA.sl (λi h h1 h2=>.inl ⟨i,⟨h,h1⟩,h2,rfl⟩) (λh=>.inr ⟨h,rfl⟩)
  ·rintro vs (⟨i,hi,hf,hb,rfl⟩|⟨h,rfl⟩)
   ·refine⟨rfl,?_⟩;have hs:=hA.s0;have hw:=CO (i:=l.length) (n:=l.length) (by omega) (by omega) (by omega);simp[SE.den,aj,hw];by_cases ai:i+1<l.length
    ·have:(i:Int)<((l.length- 1:Nat):Int):=by omega
     have hF:ui l:=⟨i,ai,hf⟩;left;exact⟨by omega,by rw[<-hN];simp[hR,hF]⟩
    ·have hF:¬ui l:=λ⟨j,hj,hjf⟩=>by
      have:=hb l[j] (avV.2 ⟨j,by omega,rfl⟩);rw[hjf]at this;cases this
     right;refine⟨by omega,_,kK,?_⟩;cases c with
     |true=>simp;exact(aar hF (hc.1 rfl)).symm
     |false=>simp;exact h5 hF (λh=>by have:=hc.2 h;cases this) _ _
   ·refine⟨rfl,?_⟩
    have hF:¬ui l:=λ⟨j,hj,hjf⟩=>by
     have:=h l[j] (ar5 _);rw[hjf]at this;cases this
    simp[SE.den,aj];refine⟨_,kK,?_⟩;cases c with
    |true=>simp;exact(aar hF (hc.1 rfl)).symm
    |false=>simp;rw[aqO];exact h5 hF (λh=>by have:=hc.2 h;cases this) _ _
 simp[adY,SE.den,aj];refine⟨_,h13,?_⟩;cases b with
 |true=>simp;exact Iu (hb.1 rfl) _
 |false=>
  have:¬R:=λh=>by have:=hb.2 h;cases this
  simp[<-hN,this]
end Go.Proofs.YtpfogalbnijcoaaGreat
namespace Go.Proofs.YtpfogalbnijcoaaGreat
open Go Go.Ev
set_option maxRecDepth 100000 in
theorem ai3:comes ((Td ar1 (λ_=>[]) 3000).call 0 7 [] ⟨0,.lf⟩) (iB ab)=ab:=by as_aux_lemma=>kernel_rfl
theorem tM7(z:IV):aQ ar1 7 z=ab:=by kernel_rfl
theorem afs:7<ar1.funcs.size:=by
 have h:Nat.blt 7 ar1.funcs.size=ab:=by kernel_rfl
 simpa using h
theorem cM7:CC 7 af [] (iB ab):=CC.plain afs (eZ.run mixed (λ_ _ _ h=>by cases h) ai3) (by simp) (tM7 _)
theorem nM3:(ar1.funcs[3]?).map (·.params.size)=aa 2:=by kernel_rfl
theorem tM3(z:IV):aQ ar1 3 z=ab:=by kernel_rfl
theorem cM3(p:Pg)(m:Me)(hp:NmP p)(hm:Jq m)(hn:∀f∈m.facts++m.past,yO f)(hz:SzP p)(UT:SzM m):CC 3 af [eI p,fF m] (iB ab):=by
 refine CC.of aqr nM3 (tM3 _) (by intro z hz;simp at hz;rcases hz with rfl|rfl;exact eJ p;exact lS m) (by simp) ?_;obtain⟨b10,f10,Gy⟩:=e10 p hp m hm;cases b10 with
 |false=>
  simp only[eI,fF]at*
  simp[Xk,SE.den,aj];refine⟨_,Gy,?_⟩;simp
 |true=>
 obtain⟨hP,hL⟩:=f10 rfl;have h5:=vM5 p hP m hL hn;have h6:=vM6 p hP hz m hL hn UT;generalize H0 p m=N at*
 simp only[eI,fF]at*
 simp[Xk,SE.den,aj];refine⟨_,Gy,?_⟩;simp;refine⟨_,h5,?_⟩;simp;refine⟨_,h6,?_⟩;simp;exact⟨_,cM7,by simp⟩
end Go.Proofs.YtpfogalbnijcoaaGreat
