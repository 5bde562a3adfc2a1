/- A part of the proof, no condition: what the code of Retract and of the bounds computes; contracts. -/
import Derived.Test.YtggffkaadeagbaaGreatEvJ
import Derived.Test.YtggffkaadeagbaaGreatEvP
import Derived.Test.YtggffkaadeagbaaGreatProg
import Derived.KernelRfl
open Go.Proofs.Tryz renaming prog->ar3
open List renaming mem_map->asO,length->asJ
set_option linter.all false
namespace Go.Proofs.YtggffkaadeagbaaGreat
open Go Go.Ev
def dX:List Nat:=[58,75,67,109,94,53,52,68,69,70,26,28,25,19,121,78,183,123,127,126,186,189,190,128,249,66,133,191,71,64,164,250,130,129,131,158,206,102,44,79,30,31,10,23,61,22,24,27,29,15,9]
def dM:List Nat:=[48,60,63,65,118,124,132,174,197,216,252,263,334]
def stops:List Nat:=[185,188,254]
def X2:af:=
 (EY (lC 2 1 2 (rl dz bK dz y_ 0 2) wH))
def afT:aL:=⟨dX,dM,stops,[⟨0,183,2,[(0,(8,0))],[],[],[]⟩],[]⟩
theorem ajP:aA ar3 afT 400 false 183=X2:=by kernel_rfl
def X3:af:=
 (kB (fV 183 aY bK (eI 2 (.nr (MC .geq bU)))))
def afU:aL:=⟨dX,dM,stops,[],[]⟩
theorem ajQ:aA ar3 afU 400 false 121=X3:=by kernel_rfl
def acd:af:=
 (kB (fV 121 aY bK (.nr bU)))
def ajR:aL:=⟨dX,dM,stops,[],[]⟩
theorem aor:aA ar3 ajR 400 false 58=acd:=by kernel_rfl
def ace:af:=
 (EY (fx eg .neq bI eg aQ (ny bI 2 bI 1 aY 2 (eI 3 (pd 1 bK 2 (wD dO .neq dz dO aQ 0 2))))))
def ajS:aL:=⟨dX,dM,stops,[⟨0,53,4,[(0,(5,0))],[],[],[]⟩],[]⟩
theorem aos:aA ar3 ajS 400 false 53=ace:=by kernel_rfl
def X4:af:=
 (mc (.nr (zU .neq aY aY)))
def afV:aL:=⟨dX,dM,stops,[],[]⟩
theorem ajT:aA ar3 afV 400 false 186=X4:=by kernel_rfl
def X5:af:=
 (mc (.nr (KQ .neq 9 aY aY)))
def afW:aL:=⟨dX,dM,stops,[],[]⟩
theorem ajU:aA ar3 afW 400 false 189=X5:=by kernel_rfl
def X6:af:=
 (kB (fH 186 aY 2 (fH 186 bK 3 (.test bU (.test dz kD wH) (.test dz u9 (uP .lss 3 bK wH (uP .gtr 3 bK u9 kD)))))))
def afX:aL:=⟨dX,dM,stops,[],[]⟩
theorem ajV:aA ar3 afX 400 false 123=X6:=by kernel_rfl
def X7:af:=
 (kB (fH 189 aY 2 (fH 189 bK 3 (.test bU (.test dz kD wH) (.test dz u9 (uP .lss 9 bK wH (uP .gtr 9 bK u9 kD)))))))
def afY:aL:=⟨dX,dM,stops,[],[]⟩
theorem ajW:aA ar3 afY 400 false 127=X7:=by kernel_rfl
def Sn:af:=
 (uW (lC 1 1 1 (rj bU bU (wG bU) E_) (wG bz)))
def adW:aL:=⟨dX,dM,stops,[⟨0,126,3,[(0,(8,0))],[],[],[]⟩],[]⟩
theorem afZ:aA ar3 adW 400 true 126=Sn:=by kernel_rfl
def X8:af:=
 (mE aY .eql aY 1 kD (Bw 3 bz u9 3 (.i 2) wP (qu 3)))
def af0:aL:=⟨dX,dM,stops,[],[]⟩
theorem ajX:aA ar3 af0 400 false 249=X8:=by kernel_rfl
def X9:af:=
 (MD 4 4 (fH 249 jL 2 (fH 249 th 3 (fV 123 bU dz (rj dO dO (.ret dO) (iC 249 jL (ig dy dy (tb 123 1 1 eh) (kK .eql dy (.i 1) (tb 123 1 1 eh) (kK .eql dy (.i 2) (cB iR eE (fV 123 iR eE (rj eh eh H5 (q7 127 2 2 (rj gy gy (.ret gy) (tb 128 3 3 kI)))))) (q7 123 0 0 (eI 6 (q7 123 1 1 (eI 7 (q7 127 2 2 (cB kI (.rw eh) (cB (.rw gy) (.rw kI) (te 126 (.tr 1 (nj eh gy kI)) (.nr gR))))))))))))))))))
def af1:aL:=⟨dX,dM,stops,[],[]⟩
theorem ajY:aA ar3 af1 400 false 190=X9:=by kernel_rfl
def X_:af:=
 (EY (lC 2 4 2 (lD 3 (pd 4 bK 2 (lD 4 (fV 190 (fy 3 3 3 3) (fy 4 4 4 4) (rj dy dy (.ret dy) (BL 2)))))) kD))
def af2:aL:=⟨dX,dM,stops,[⟨0,128,2,[(0,(9,0))],[],[],[]⟩],[]⟩
theorem ajZ:aA ar3 af2 400 false 128=X_:=by kernel_rfl
def Ya:af:=
 (tx 2 (q7 127 0 0 (cB bU dS (nf 1 (fV 123 dS kE (cB dz (.rw bU) (uz dz (te 126 (.tr 1 (ko bU dz)) (rj dO dO (wG dO) (q7 128 1 1 (eI 5 (wG dy))))))))))))
def af3:aL:=⟨dX,dM,stops,[],[]⟩
theorem aj0:aA ar3 af3 400 true 66=Ya:=by kernel_rfl
def Yb:af:=
 (mE (rp 0) .eql jL 1 kD (kJ .eql 0 0 u9 (pW 0 0 2 wP (qu 3))))
def af4:aL:=⟨dX,dM,stops,[],[]⟩
theorem aj1:aA ar3 af4 400 false 250=Yb:=by kernel_rfl
def Yc:af:=
 (mc (fx bK .lss aY bK wH (uP .gtr 3 bK u9 kD)))
def af5:aL:=⟨dX,dM,stops,[],[]⟩
theorem aj2:aA ar3 af5 400 false 130=Yc:=by kernel_rfl
def Yd:af:=
 (mc (nb bK .lss 9 aY bK wH (uP .gtr 9 bK u9 kD)))
def af6:aL:=⟨dX,dM,stops,[],[]⟩
theorem aj3:aA ar3 af6 400 false 129=Yd:=by kernel_rfl
def Ye:af:=
 (kB (sY pe bI 3 2 bI (FN eg (GF 3 2 eg) (wS 4 2 (lD 3 (pd 4 bK 2 (lD 4 (fV 191 (fy 3 3 3 3) (fy 4 4 4 4) (rj dy dy (.ret dy) (BL 2))))))) (cB bI eg (fV 130 bI eg (.nr dz)))) (cB bI eg (fV 130 bI eg (.nr dz)))))
def af7:aL:=⟨dX,dM,stops,[⟨0,131,2,[(0,(5,0))],[],[],[]⟩],[]⟩
theorem aj4:aA ar3 af7 400 false 131=Ye:=by kernel_rfl
def Yf:af:=
 (MD 4 4 (fH 250 (fy 0 0 0 0) 2 (fH 250 (fy 1 1 1 1) 3 (fV 130 bU dz (rj dO dO (.ret dO) (iC 250 (fy 0 0 0 0) (ig dy dy (tb 130 1 1 eh) (kK .eql dy (.i 1) (tb 130 1 1 eh) (kK .eql dy (.i 2) (cB iR eE (fV 130 iR eE (ig eh eh (q7 129 2 2 (ig gy gy (tb 131 3 3 kI) (.ret gy))) (kK .eql eh bz (tb 131 3 3 gy) H5)))) (q7 130 0 0 (ig eh eh (q7 130 1 1 (ig gy gy (tb 129 2 2 kI) (.ret gy))) (kK .eql eh bz (tb 129 2 2 gy) H5))))))))))))
def af8:aL:=⟨dX,dM,stops,[],[]⟩
theorem aj5:aA ar3 af8 400 false 191=Yf:=by kernel_rfl
def acf:af:=
 (tx 2 (q7 129 0 0 (ig bU bU (cB dS kE (fV 130 dS kE (ig dz dz (tb 131 1 1 dO) (.ret dz)))) (kK .eql bU bz (tb 131 1 1 dz) (.ret bU)))))
def aj6:aL:=⟨dX,dM,stops,[],[]⟩
theorem aot:aA ar3 aj6 400 false 71=acf:=by kernel_rfl
def acg:af:=
 (tx 2 (fV 71 mh (wF 1 1) (eI 2 (.nr (BG bU)))))
def aj7:aL:=⟨dX,dM,stops,[],[]⟩
theorem aou:aA ar3 aj7 400 false 64=acg:=by kernel_rfl
def Yg:af:=
 (MD 4 4 (q7 123 0 0 (eI 2 (wG bU))))
def af9:aL:=⟨dX,dM,stops,[],[]⟩
theorem aj8:aA ar3 af9 400 true 61=Yg:=by kernel_rfl
def Yh:af:=
 (kB (fV 121 aY bK (eI 2 (wG bU))))
def af_:aL:=⟨dX,dM,stops,[],[]⟩
theorem aj9:aA ar3 af_ 400 true 58=Yh:=by kernel_rfl
def ach:af:=
 (EY (fx eg .neq bI eg aQ (ny bI 2 bI 2 aY 2 (jy 2 3 (pd 2 bK 2 (jy 2 4 (fV 64 (wF 3 3) (wF 4 4) (tv 5 5 0 2))))))))
def aj_:aL:=⟨dX,dM,stops,[⟨0,23,4,[(0,(5,0))],[],[],[]⟩],[]⟩
theorem aov:aA ar3 aj_ 400 false 23=ach:=by kernel_rfl
def Yi:af:=
 (mE (rp 0) .eql jL 2 (.ret (oN 0)) (.ret oA))
def aga:aL:=⟨dX,dM,stops,[],[]⟩
theorem aka:aA ar3 aga 400 false 206=Yi:=by kernel_rfl
def Yj:af:=
 (oM 4 0 206 0 0 0 0 (eI 1 (pX (.i 1) eg 3 2 eg 4 bK 2 (oM 4 4 158 4 4 4 4 (cB dy (UU 3 dy) (nw 0 2 (UU 3 dy)))) (.ret tf))))
def agb:aL:=⟨dX,dM,stops,[⟨0,158,4,[(0,(3,0)),(0,(5,0))],[],[],[]⟩],[]⟩
theorem akb:aA ar3 agb 400 false 158=Yj:=by kernel_rfl
def Yk:af:=
 (mc (fe bI bI 8 (pX bz bI 3 1 bI 4 aY 1 (oM 4 3 158 3 3 3 3 (eI 4 (fe (EZ dO) (EZ dO) 60 (nw 0 1 (EZ dO))))) ja)))
def agc:aL:=⟨dX,dM,stops,[⟨0,102,5,[(0,(3,0)),(0,(4,0))],[],[],[]⟩],[]⟩
theorem akc:aA ar3 agc 400 false 102=Yk:=by kernel_rfl
def aci:af:=
 (mc (ny bI 1 bI 2 aY 1 (ve 2 102 uZ (tv 3 3 0 1))))
def akd:aL:=⟨dX,dM,stops,[⟨0,44,2,[(0,(3,0))],[],[],[]⟩],[]⟩
theorem aow:aA ar3 akd 400 false 44=aci:=by kernel_rfl
def Yl:af:=
 (mc (fz bI 1 bI 2 aY 1 (ve 2 102 uZ (lP 3 3 Bz 0 1)) EX))
def agd:aL:=⟨dX,dM,stops,[⟨0,44,2,[(0,(3,0))],[],[],[]⟩],[]⟩
theorem ake:aA ar3 agd 400 true 44=Yl:=by kernel_rfl
def acj:af:=
 (mc (fe bI bI 9 (ny bI 1 bI 4 aY 1 (lD 2 (fe oL oL 20 (wS 4 1 (lD 3 (te 44 (sZ 2 (ov 3 1 3 2)) (tv 4 4 0 1)))))))))
def akf:aL:=⟨dX,dM,stops,[⟨0,31,4,[(0,(3,0))],[],[],[]⟩],[]⟩
theorem aox:aA ar3 akf 400 false 31=acj:=by kernel_rfl
def ack:af:=
 (tx 5 (ta 30 mh 2 2 (ta 31 th 3 3 (ta 31 qZ 4 4 (fe ie ie 12 (ny ie 5 ie 6 wK 5 (jy 6 6 (fe (kH 6) (kH 6) 8 (fe (gA 6) (gA 6) 8 (fe (wE 6) (wE 6) 20 (fe (HY 6 5) (HY 6 5) 20 (BL 5))))))))))))
def akg:aL:=⟨dX,dM,stops,[⟨0,10,4,[(0,(5,0))],[],[],[]⟩],[]⟩
theorem aoy:aA ar3 akg 400 false 10=ack:=by kernel_rfl
end Go.Proofs.YtggffkaadeagbaaGreat
namespace Go.Proofs.YtggffkaadeagbaaGreat
open Go Go.Ev
inductive Tm where
 |mk (k n:Int) (s:List UInt8) (ts:List Tm)
mutual
def bV:Tm→IV
 |.mk k n s ts=>.agg [iI k,iI n,iS s,.tree 4 (MI ts)]
def MI:List Tm→List IV
 |[]=>[]
 |t::ts=>bV t::MI ts
end
theorem Lw:∀l:List Tm,MI l=l.map bV
 |[]=>rfl
 |t::l=>by simp[MI,Lw l]
structure At where
 s:List UInt8
 ts:List Tm
structure Fa where
 id:Int
 a:At
 j:List Int
structure Ap where
 rule:Int
 dw:List Int
 gone:List Int
 made:List Int
 failed:Bool
 fK:List Int
structure Me where
 facts:List Fa
 past:List Fa
 log:List Ap
 next:Int
 given:Int
abbrev iT(l:List Tm):IV:=.tree 4 (l.map bV)
def ku(a:At):IV:=.agg [iS a.s,iT a.ts]
def dA(f:Fa):IV:=.agg [iI f.id,iS f.a.s,iT f.a.ts,iL f.j]
def jR(x:Ap):IV:=.agg [iI x.rule,iL x.dw,iL x.gone,iL x.made,iB x.failed,iL x.fK]
abbrev bF(l:List Fa):IV:=.tree 4 (l.map dA)
abbrev cS(l:List At):IV:=.tree 2 (l.map ku)
abbrev nR(l:List Ap):IV:=.tree 6 (l.map jR)
def cV(m:Me):IV:=.agg [bF m.facts,bF m.past,nR m.log,iI m.next,iI m.given]
theorem uF(k n:Int)(s:List UInt8)(ts:List Tm):bV (.mk k n s ts)=.agg [iI k,iI n,iS s,iT ts]:=by simp[bV,Lw]
@[simp] theorem aoz(v:Value):Pure (.raw v):=.raw v
@[simp] theorem AT(l:List Int):Pure (iL l):=by
  refine .tree 1 _ fun e he c hc=>?_;obtain⟨x,_,rfl⟩:=asO.1 he;simp[cellsOf]at hc;subst hc;exact .raw _
theorem jc:∀t:Tm,Pure (bV t)
 |.mk k n s ts=>by
  rw[uF];refine .agg _ fun c hc=>?_;simp at hc;rcases hc with rfl|rfl|rfl|rfl
  ·exact .raw _
  ·exact .raw _
  ·exact .raw _
  ·refine .tree 4 _ fun e he c hc=>?_;obtain⟨x,hx,rfl⟩:=asO.1 he;have:=jc x;obtain⟨k',n',s',ts'⟩:=x;rw[uF]at this hc;cases this with
   |agg _ h=>exact h c hc
 decreasing_by simp_wf;have:=List.sizeOf_lt_of_mem hx;omega
theorem px{α:Type}(s:Nat)(enc:α→IV)(h:∀a,∃cs,enc a=.agg cs∧∀c∈cs,Pure c)(l:List α):Pure (.tree s (l.map enc)):=by
 refine .tree s _ fun e he c hc=>?_;obtain⟨x,_,rfl⟩:=asO.1 he;obtain⟨cs,h1,h2⟩:=h x;rw[h1]at hc;exact h2 c hc
@[simp] theorem aqZ(l:List Tm):Pure (iT l):=px 4 bV (fun t=>by
  have:=jc t;obtain⟨k',n',s',ts'⟩:=t;rw[uF]at this⊢;cases this with
  |agg _ h=>exact⟨_,rfl,h⟩) l
theorem r9(a:At):Pure (ku a):=.agg _ (by simp)
theorem D8(a:Fa):Pure (dA a):=.agg _ (by simp)
theorem Ym(a:Ap):Pure (jR a):=.agg _ (by simp)
@[simp] theorem O4(l:List Fa):Pure (bF l):=px 4 dA (fun a=>⟨_,rfl,by simp⟩) l
@[simp] theorem GU(l:List At):Pure (cS l):=px 2 ku (fun a=>⟨_,rfl,by simp⟩) l
@[simp] theorem aoA(l:List Ap):Pure (nR l):=px 6 jR (fun a=>⟨_,rfl,by simp⟩) l
theorem gq(m:Me):Pure (cV m):=.agg _ (by simp)
def mT(n:Nat):Cr:=fun f new xs z=>(f<n→dC ar3 false new f xs z∧Pure z∧aD ar3 f z=true)∧
 (∀g,g<n→f=n+g→∃s es nI aB,xs=.tree s es::nI∧z=.tree s aB∧BX ar3 s g es nI aB)∧
 (∀g,g<n→f=2*n+g→∃ins nI outs z0,xs=.agg (ins.map IV.agg)::nI∧z=.av (z0::outs.map IV.agg)∧outs.map asJ=ins.map asJ∧(∀cs∈outs,∀u∈cs,ab u=true)∧BZ ar3 g ins nI outs z0)∧
 (∀g,g<n→f=3*n+g→∃t:Nat,xs=[.int t]∧Dz ar3 g t)∧
 (∀g,g<n→f=4*n+g→∃es,z=.tree (cA ar3 g) es∧jt ar3 (cA ar3 g) g xs es)∧
 (∀g,g<n→f=5*n+g→∃ds,z=.av ds∧lE ar3 g xs ds)∧
 ∀g,g<n→f=6*n+g→∃ds nI,xs=.av ds::nI∧rq ar3 g ds nI z
def CC:Cr:=mT ar3.funcs.size
theorem vV:iE ar3 CC:=fun _ _ _ _ h=>h
theorem mixed:ar3.follows .mixedOrders=true:=by kernel_rfl
theorem ky{f n:Nat}(hl:(ar3.funcs[f]?).map (·.params.size)=some n):f<ar3.funcs.size:=by
 cases h:ar3.funcs[f]? with
 |none=>rw[h]at hl;cases hl
 |some _=>exact(Array.getElem?_eq_some_iff.1 h).1
theorem aoB{n a g:Nat}(ha:a<n)(hg:g<n)(h:a=n+g):False:=by omega
theorem aoC{n a g:Nat}(ha:a<n)(hg:g<n)(h:a=2*n+g):False:=by omega
theorem aoD{n a g:Nat}(ha:a<n)(hg:g<n)(h:a=3*n+g):False:=by omega
theorem aoE{n a g:Nat}(ha:a<n)(hg:g<n)(h:a=4*n+g):False:=by omega
theorem aoF{n a g:Nat}(ha:a<n)(hg:g<n)(h:a=5*n+g):False:=by omega
theorem aoG{n a g:Nat}(ha:a<n)(hg:g<n)(h:a=6*n+g):False:=by omega
theorem aoH{n a:Nat}(ha:a<n)(h:n+a<n):False:=by omega
theorem aoI{n a g:Nat}(ha:a<n)(hg:g<n)(h:n+a=2*n+g):False:=by omega
theorem aoJ{n a g:Nat}(ha:a<n)(hg:g<n)(h:n+a=3*n+g):False:=by omega
theorem aoK{n a g:Nat}(ha:a<n)(hg:g<n)(h:n+a=4*n+g):False:=by omega
theorem aoL{n a g:Nat}(ha:a<n)(hg:g<n)(h:n+a=5*n+g):False:=by omega
theorem aoM{n a g:Nat}(ha:a<n)(hg:g<n)(h:n+a=6*n+g):False:=by omega
theorem akh{n a g:Nat}(h:n+a=n+g):g=a:=by omega
theorem aoN{n a:Nat}(ha:a<n)(h:2*n+a<n):False:=by omega
theorem aoO{n a g:Nat}(ha:a<n)(hg:g<n)(h:2*n+a=n+g):False:=by omega
theorem aoP{n a g:Nat}(ha:a<n)(hg:g<n)(h:2*n+a=3*n+g):False:=by omega
theorem aoQ{n a g:Nat}(ha:a<n)(hg:g<n)(h:2*n+a=4*n+g):False:=by omega
theorem aoR{n a g:Nat}(ha:a<n)(hg:g<n)(h:2*n+a=5*n+g):False:=by omega
theorem aoS{n a g:Nat}(ha:a<n)(hg:g<n)(h:2*n+a=6*n+g):False:=by omega
theorem aki{n a g:Nat}(h:2*n+a=2*n+g):g=a:=by omega
theorem aoT{n a:Nat}(ha:a<n)(h:3*n+a<n):False:=by omega
theorem aoU{n a g:Nat}(ha:a<n)(hg:g<n)(h:3*n+a=n+g):False:=by omega
theorem aoV{n a g:Nat}(ha:a<n)(hg:g<n)(h:3*n+a=2*n+g):False:=by omega
theorem aoW{n a g:Nat}(ha:a<n)(hg:g<n)(h:3*n+a=4*n+g):False:=by omega
theorem aoX{n a g:Nat}(ha:a<n)(hg:g<n)(h:3*n+a=5*n+g):False:=by omega
theorem aoY{n a g:Nat}(ha:a<n)(hg:g<n)(h:3*n+a=6*n+g):False:=by omega
theorem akj{n a g:Nat}(h:3*n+a=3*n+g):g=a:=by omega
theorem aoZ{n a:Nat}(ha:a<n)(h:4*n+a<n):False:=by omega
theorem ao0{n a g:Nat}(ha:a<n)(hg:g<n)(h:4*n+a=n+g):False:=by omega
theorem ao1{n a g:Nat}(ha:a<n)(hg:g<n)(h:4*n+a=2*n+g):False:=by omega
theorem ao2{n a g:Nat}(ha:a<n)(hg:g<n)(h:4*n+a=3*n+g):False:=by omega
theorem ao3{n a g:Nat}(ha:a<n)(hg:g<n)(h:4*n+a=5*n+g):False:=by omega
theorem ao4{n a g:Nat}(ha:a<n)(hg:g<n)(h:4*n+a=6*n+g):False:=by omega
theorem akk{n a g:Nat}(h:4*n+a=4*n+g):g=a:=by omega
theorem ao5{n a:Nat}(ha:a<n)(h:5*n+a<n):False:=by omega
theorem ao6{n a g:Nat}(ha:a<n)(hg:g<n)(h:5*n+a=n+g):False:=by omega
theorem ao7{n a g:Nat}(ha:a<n)(hg:g<n)(h:5*n+a=2*n+g):False:=by omega
theorem ao8{n a g:Nat}(ha:a<n)(hg:g<n)(h:5*n+a=3*n+g):False:=by omega
theorem ao9{n a g:Nat}(ha:a<n)(hg:g<n)(h:5*n+a=4*n+g):False:=by omega
theorem ao_{n a g:Nat}(ha:a<n)(hg:g<n)(h:5*n+a=6*n+g):False:=by omega
theorem akl{n a g:Nat}(h:5*n+a=5*n+g):g=a:=by omega
theorem apa{n a:Nat}(ha:a<n)(h:6*n+a<n):False:=by omega
theorem apb{n a g:Nat}(ha:a<n)(hg:g<n)(h:6*n+a=n+g):False:=by omega
theorem apc{n a g:Nat}(ha:a<n)(hg:g<n)(h:6*n+a=2*n+g):False:=by omega
theorem apd{n a g:Nat}(ha:a<n)(hg:g<n)(h:6*n+a=3*n+g):False:=by omega
theorem ape{n a g:Nat}(ha:a<n)(hg:g<n)(h:6*n+a=4*n+g):False:=by omega
theorem apf{n a g:Nat}(ha:a<n)(hg:g<n)(h:6*n+a=5*n+g):False:=by omega
theorem akm{n a g:Nat}(h:6*n+a=6*n+g):g=a:=by omega
theorem mT.plain{n:Nat}{new:Bool}{f:FuncId}{args:List IV}{z:IV}(aa:f<n)(h0:dC ar3 false new f args z)(hz:Pure z)(ht:aD ar3 f z=true):mT n f new args z:=
 ⟨fun _=>⟨h0,hz,ht⟩,fun g hg h=>(aoB aa hg h).elim,fun g hg h=>(aoC aa hg h).elim,fun g hg h=>(aoD aa hg h).elim,fun g hg h=>(aoE aa hg h).elim,fun g hg h=>(aoF aa hg h).elim,fun g hg h=>(aoG aa hg h).elim⟩
theorem CC.plain{new:Bool}{f:FuncId}{args:List IV}{z:IV}(aa:f<ar3.funcs.size)(h:dC ar3 false new f args z)(hz:Pure z)(ht:aD ar3 f z=true):CC f new args z:=mT.plain aa h hz ht
theorem CC.of{n:Nat}{new:Bool}{f:FuncId}{cR:af}{args:List IV}{z:IV}{cfg:aL}(he:aA ar3 cfg n new f=cR)(hl:(ar3.funcs[f]?).map (·.params.size)=some args.length)(ht:aD ar3 f z=true)(hp:∀x∈args,Pure x)(hz:Pure z)
 (hs:cR.sat ar3 CC (·=z) [] args):CC f new args z:=mT.plain (ky hl) (dC.nz mixed vV he hl hp hs) hz ht
theorem mT.row{n:Nat}{new:Bool}{f s:Nat}{es aB xs:List IV}(aa:f<n)(h0:BX ar3 s f es xs aB):mT n (n+f) new (.tree s es::xs) (.tree s aB):=
 ⟨fun h=>(aoH aa h).elim,fun g hg h=>by rw[akh h];exact⟨s,es,xs,aB,rfl,rfl,h0⟩,fun g hg h=>(aoI aa hg h).elim,fun g hg h=>(aoJ aa hg h).elim,fun g hg h=>(aoK aa hg h).elim,fun g hg h=>(aoL aa hg h).elim,fun g hg h=>(aoM aa hg h).elim⟩
theorem CC.ofRow{n s:Nat}{f:FuncId}{cR:af}{es aB xs:List IV}{cfg:aL}{new:Bool}(he:AR ar3 cfg n s f=cR)(hl:(ar3.funcs[f]?).map (·.params.size)=some (xs.length+1))
 (hs:cR.sat ar3 CC (·=.tree s aB) [] (.tree s es::xs)):CC (ar3.funcs.size+f) new (.tree s es::xs) (.tree s aB):=
 mT.row (ky hl) (BX.nz mixed vV he hl hs)
theorem mT.obj{n:Nat}{new:Bool}{f:Nat}{ins outs:List (List IV)}{xs:List IV}{z:IV}(aa:f<n)(ho:outs.map asJ=ins.map asJ)(hc:∀cs∈outs,∀u∈cs,ab u=true)(h0:BZ ar3 f ins xs outs z):mT n (2*n+f) new (.agg (ins.map IV.agg)::xs) (.av (z::outs.map IV.agg)):=
 ⟨fun h=>(aoN aa h).elim,fun g hg h=>(aoO aa hg h).elim,fun g hg h=>by rw[aki h];exact⟨ins,xs,outs,z,rfl,rfl,ho,hc,h0⟩,fun g hg h=>(aoP aa hg h).elim,fun g hg h=>(aoQ aa hg h).elim,fun g hg h=>(aoR aa hg h).elim,fun g hg h=>(aoS aa hg h).elim⟩
theorem CC.akn{n:Nat}{f:FuncId}{cR:af}{ins outs:List (List IV)}{xs:List IV}{z:IV}{cfg:aL}{new:Bool}(he:xn ar3 cfg n (ins.map asJ) f=cR)(hl:(ar3.funcs[f]?).map (·.params.size)=some (ins.length+xs.length))
 (ho:outs.map asJ=ins.map asJ)(hc:∀cs∈outs,∀u∈cs,ab u=true)(hs:cR.sat ar3 CC (·=.av (z::outs.map .agg)) [] (ins.flatten++xs)):CC (2*ar3.funcs.size+f) new (.agg (ins.map IV.agg)::xs) (.av (z::outs.map IV.agg)):=
 mT.obj (ky hl) ho hc (BZ.nz mixed vV he hl hs)
theorem mT.O3{n:Nat}{new:Bool}{f t:Nat}{z:IV}(aa:f<n)(h0:Dz ar3 f t):mT n (3*n+f) new [.int t] z:=
 ⟨fun h=>(aoT aa h).elim,fun g hg h=>(aoU aa hg h).elim,fun g hg h=>(aoV aa hg h).elim,fun g hg h=>by rw[akj h];exact⟨t,rfl,h0⟩,fun g hg h=>(aoW aa hg h).elim,fun g hg h=>(aoX aa hg h).elim,fun g hg h=>(aoY aa hg h).elim⟩
theorem mT.fresh{n:Nat}{new:Bool}{f:Nat}{xs es:List IV}(aa:f<n)(h0:jt ar3 (cA ar3 f) f xs es):mT n (4*n+f) new xs (.tree (cA ar3 f) es):=
 ⟨fun h=>(aoZ aa h).elim,fun g hg h=>(ao0 aa hg h).elim,fun g hg h=>(ao1 aa hg h).elim,fun g hg h=>(ao2 aa hg h).elim,fun g hg h=>by rw[akk h];exact⟨es,rfl,h0⟩,fun g hg h=>(ao3 aa hg h).elim,fun g hg h=>(ao4 aa hg h).elim⟩
theorem mT.age{n:Nat}{new:Bool}{f:Nat}{xs ds:List IV}(aa:f<n)(h0:lE ar3 f xs ds):mT n (5*n+f) new xs (.av ds):=
 ⟨fun h=>(ao5 aa h).elim,fun g hg h=>(ao6 aa hg h).elim,fun g hg h=>(ao7 aa hg h).elim,fun g hg h=>(ao8 aa hg h).elim,fun g hg h=>(ao9 aa hg h).elim,fun g hg h=>by rw[akl h];exact⟨ds,rfl,h0⟩,fun g hg h=>(ao_ aa hg h).elim⟩
theorem mT.look{n:Nat}{new:Bool}{f:Nat}{xs ds:List IV}{z:IV}(aa:f<n)(h0:rq ar3 f ds xs z):mT n (6*n+f) new (.av ds::xs) z:=
 ⟨fun h=>(apa aa h).elim,fun g hg h=>(apb aa hg h).elim,fun g hg h=>(apc aa hg h).elim,fun g hg h=>(apd aa hg h).elim,fun g hg h=>(ape aa hg h).elim,fun g hg h=>(apf aa hg h).elim,fun g hg h=>by rw[akm h];exact⟨ds,xs,rfl,h0⟩⟩
theorem Vs:ar3.underlying 4=some .bool:=by kernel_rfl
@[simp] theorem aq6(a b:Bool):da ar3 .eql 4 (iB a) (iB b)=some (iB (a==b)):=aca _ _ Vs a b
@[simp] theorem aq7(a b:Bool):da ar3 .neq 4 (iB a) (iB b)=some (iB (!(a==b))):=ajM _ _ Vs a b
abbrev Sm{α:Type}(l:List α):Prop:=l.length≤9223372036854775807
theorem aw{i:Nat}{n:Nat}(h:i<n)(hn:n≤9223372036854775807):IntKind.i64.wrap ((i:Int)+1)=((i+1:Nat):Int):=by
 rw[eb (by omega) (by omega)];rfl
@[simp] theorem Yn{l:List Int}{i:Nat}{x:Int}(h:l[i]?=some x):cq 1 (iL l) (iI (i:Nat))=some (iI x):=dv (by simp[h]) rfl
end Go.Proofs.YtggffkaadeagbaaGreat
