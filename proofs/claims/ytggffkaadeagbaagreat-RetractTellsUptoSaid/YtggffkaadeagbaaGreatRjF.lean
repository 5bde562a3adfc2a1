/- A part of the proof, no condition: what the code of the law and of the checks of the program computes. -/
import Derived.Test.YtggffkaadeagbaaGreatEvJ
import Derived.Test.YtggffkaadeagbaaGreatRuA
import Derived.Test.YtggffkaadeagbaaGreatEvP
open Go.Proofs.Tryz renaming prog->asK
open Bool renaming true->ab,false->af
set_option linter.all false
namespace Go.Proofs.YtggffkaadeagbaaGreat
open Go Go.Ev
def Bw:List Nat:=[123,127,126,186,189,44,79,30,102,9,10,23,31,15,257,149,89,148,198,147,199,50,191,71,214,93,163,49,152,64,164,158,95,108,206,250,213,130,131,107,129,155,34,90,51,202,153,201,200,151,203,150,204,154,91,41,67,101,99,109,157,210,12,26,28,25,14,19,100,40,39,70,69,35,53,52,68,42,58,98,96,75,211,136,83,192,85,11,24,27,22,13,29,61,36,33,32,84,47,143,46,190,66,87,45,138,133,88,128,249,121,78,183,256,156,16,17]
def Bx:List Nat:=[48,118,216]
def By:List Nat:=[185,188,254]
def Bz:List Nat:=[155,159,103,173000080,500139,500140,500097,600086]
def aen:ak:=
 (pA (sb bK .leq bK 5 (jo 44 bw (.nr cZ))))
def am2:a_:=⟨Bw,Bx,By,[⟨999999,0,0,[],[],[],[]⟩],Bz⟩
theorem aqW:aH asK am2 400 af 16=aen:=by kernel_rfl
def aeo:ak:=
 (kC 6 0 eY (cY jA (mU eY jA) (.aS (.dec 7 (mU eY jA) lT) (mC 2 40 (HV 2) og (mE 2 40 1 xr zL)))))
def am3:a_:=⟨Bw,Bx,By,[⟨999999,0,0,[],[],[],[]⟩],Bz⟩
theorem aqX:aH asK am3 400 af 85=aeo:=by kernel_rfl
def UD:ak:=
 (oi 1 1 1 (od cB .lss cB 1 bf (kg .gtr 3 cB (.i 64) bf (.nt (ud .gtr 3 1) (.aS (xi 1) (EK 1 bw (xi 1) (pz ej .geq ej cB vH))) vH))) rm)
def aep:ak:=
 (xo UD)
def am4:a_:=⟨Bw,Bx,By,[⟨0,96,2,[(0,(7,0))],[],[],[]⟩,⟨999999,0,0,[],[],[],[]⟩],Bz⟩
theorem aqY:aH asK am4 400 af 96=aep:=by kernel_rfl
def aaP:ak:=
 (sb bw .geq bw 5 (.nr (r9 bw 12)))
def aiA:a_:=⟨Bw,Bx,By,[⟨999999,0,0,[],[],[],[]⟩],Bz⟩
theorem am5:aH asK aiA 400 af 143=aaP:=by kernel_rfl
def UE:ak:=
 (qz (kD 183 bw cZ (cY cB (ub .geq cB cx) (WJ (ub .geq cB cx)))))
def afP:a_:=⟨Bw,Bx,By,[⟨999999,0,0,[],[],[],[]⟩],Bz⟩
theorem aiB:aH asK afP 400 ab 121=UE:=by kernel_rfl
def Rw:ak:=
 (oi 2 1 2 (eC 3 (jn 1 cZ 2 (oa eS .neq ej eS Ch qD))) Gc)
def aaQ:ak:=
 (Ge (oa dR .neq bK dR Ch (zK Rw)))
def aiC:a_:=⟨Bw,Bx,By,[⟨0,78,4,[(0,(13,0))],[],[],[]⟩,⟨999999,0,0,[],[],[],[]⟩],Bz⟩
theorem am6:aH asK aiC 400 ab 78=aaQ:=by kernel_rfl
end Go.Proofs.YtggffkaadeagbaaGreat
namespace Go.Proofs.YtggffkaadeagbaaGreat
open Go Go.Ev
def oO:List Nat:=[123,127,126,186,189,44,79,30,102,9,10,23,31,15,257,149,89,148,198,147,199,50,191,71,214,93,163,49,152,64,164,158,95,108,206,250,213,130,131,107,129,155,34,90,51,202,153,201,200,151,203,150,204,154,91,41,67,101,99,109,157,210,12,26,28,25,14,19,100,40,39,70,69,35,53,52,68,42,58,98,96,75,211,136,83,192,85,11,24,27,22,13,29,61,36,33,32,84,47,143,46,190,66,87,45,138,133,88,128,249,121,78,183,256,156]
def oP:List Nat:=[38,48,80,118,134,216]
def oQ:List Nat:=[185,188,254]
def oR:List Nat:=[155,159,103,173000080,500139,500140,500097,600086]
def Nv:ak:=
 (gU oe 4 ui 2 ej 4 (vM 2 6 46 6 6 (cY kF (.rws kF) (mC 1 8 eb kF (rZ 8)))) (lJ 1 5))
def Nw:ak:=
 (gU fq 1 bK 1 bw 1 (cY ej ui Nv) (zM oe))
def LI:ak:=
 (xo Nw)
def afQ:a_:=⟨oO,oP,oQ,[⟨0,139,3,[(0,(3,0)),(0,(10,0))],[(0,0)],[],[]⟩,⟨0,139,6,[(0,(3,0)),(0,(16,0))],[(0,0)],[],[]⟩,⟨999999,0,0,[],[],[],[]⟩],oR⟩
theorem aiD:qb asK afQ 400 af 139=LI:=by kernel_rfl
def Nx:ak:=
 (qA 3 dz 2 cB 3 (vM 2 4 46 4 4 (zU (.sub 1 gC (jI 5) cx) (eh 1 3))) vH)
def Ny:ak:=
 (oi 1 1 1 (cY cB dz Nx) (.ret fq))
def LJ:ak:=
 (xo Ny)
def afR:a_:=⟨oO,oP,oQ,[⟨0,139,3,[(0,(10,0))],[],[],[]⟩,⟨0,139,6,[(0,(16,0))],[],[],[]⟩,⟨999999,0,0,[],[],[],[]⟩,⟨999998,0,0,[],[],[],[]⟩],oR⟩
theorem aiE:qb asK afR 400 ab 139=LJ:=by kernel_rfl
def Nz:ak:=
 (gU oe 4 ui 3 ej 4 (gB 3 6 87 (xh 6 0 6 1 6 2) (cY kF (.rws kF) (mC 1 8 eb kF (rZ 8)))) (lJ 1 5))
def NA:ak:=
 (gU fq 1 bK 1 bw 1 (cY ej ui Nz) (zM oe))
def LK:ak:=
 (xo NA)
def afS:a_:=⟨oO,oP,oQ,[⟨0,140,3,[(0,(3,0)),(0,(10,0))],[(0,0)],[],[]⟩,⟨0,140,6,[(0,(3,0)),(0,(16,0))],[(0,0)],[],[]⟩,⟨999999,0,0,[],[],[],[]⟩],oR⟩
theorem aiF:qb asK afS 400 af 140=LK:=by kernel_rfl
def NB:ak:=
 (qA 3 dz 3 cB 3 (gB 3 4 87 (xh 4 0 4 1 4 2) (zU (.sub 1 gC (jI 5) cx) (eh 1 3))) vH)
def NC:ak:=
 (oi 1 1 1 (cY cB dz NB) (.ret fq))
def LL:ak:=
 (xo NC)
def afT:a_:=⟨oO,oP,oQ,[⟨0,140,3,[(0,(10,0))],[],[],[]⟩,⟨0,140,6,[(0,(16,0))],[],[],[]⟩,⟨999999,0,0,[],[],[],[]⟩,⟨999998,0,0,[],[],[],[]⟩],oR⟩
theorem aiG:qb asK afT 400 ab 140=LL:=by kernel_rfl
def UF:ak:=
 (oi 3 2 3 (adA 2 4 86 (rl cZ cB) (Cd 4 4) (.nr (F9 3)) zO) bf)
def aeq:ak:=
 (qz (cY cB bK UF))
def am7:a_:=⟨oO,oP,oQ,[⟨2,47012008,2,[(2,(8,0))],[],[],[]⟩,⟨999999,0,0,[],[],[],[]⟩],oR⟩
theorem aqZ:aH asK am7 400 af 47=aeq:=by kernel_rfl
def UG:ak:=
 (gU Ck 2 uy 2 oh 2 (gB 2 4 83 (dU 4) (mB 5 5 (wI (.i 7) (Cb 0 (.i 7))) (lI .geq 4 1 (HT (r9 (iF 4) 6) (r9 (iF 4) 6) (wI (.i 9) (Cb 0 (.i 9))) (.bind (qF (.get 86 qG (Cd 4 4) EJ)) (HT (tZ mh) (tZ mh) (wI (.i 8) (Cb 0 (.i 8))) (xn 86 qG (Cd 4 4) lT (Cg 2 7))))) (wI (.i 9) (Cb 0 (.i 9)))))) (zT eY (r9 eY 40) (r9 eY 40) (wI (.i 6) (Cb 0 (.i 6))) (.next 0 HS)))
def UH:ak:=
 (qA 2 eY 6 og 2 (lq 6 3 (kD 84 oh (lG 3 3 3 2 3 3 3 4 3 5) (vV eS 31 eS (t_ oe eS) qD))) (t_ cx cx))
def UI:ak:=
 (.kP (iD 1148 (La 172) (zT uy (r9 uy 30) (r9 uy 30) (wI (.i 6) (Cb 0 (.i 6))) (.aS uy UG))) 1 (.nt (ud .neq 31 1) (Cs (.var 1)) (.aS eY UH)))
def XL:ak:=
 (lq 2 0 UI)
def am8:a_:=⟨oO,oP,oQ,[⟨0,32,5,[(0,(15,0))],[],[],[]⟩,⟨2,32010000,3,[(2,(13,0))],[(2,0)],[],[]⟩,⟨0,32,1000008,[(0,(8,0))],[],[],[]⟩,⟨999999,0,0,[],[],[],[]⟩],oR⟩
theorem aq0:aH asK am8 400 af 32=XL:=by kernel_rfl
def UJ:ak:=
 (qA 2 eY 6 og 2 (gB 6 3 33 (lG 3 3 3 2 3 3 3 4 3 5) (lU 4 4 (oc 19) 0 2)) rW)
def aer:ak:=
 (gB 2 0 32 lH (.aS (xq 1) (vV (gT 1) 31 (gT 1) zR (.aS eY UJ))))
def am9:a_:=⟨oO,oP,oQ,[⟨0,11,5,[(0,(17,0))],[],[],[]⟩,⟨999999,0,0,[],[],[],[]⟩],oR⟩
theorem aq1:aH asK am9 400 af 11=aer:=by kernel_rfl
def UK:ak:=
 (gU qG 6 (jI 5) 1 gC 6 (eC 8 (xn 3 Cw pF .an (Cg 6 9))) (lJ 2 7))
def UL:ak:=
 (K9 eb (EL 3 12 (.len (pG 7 1)) (Gh (pG 7 1) (.var 12) (xn 3 vG (uh (pG 7 1) 12) .an (Ca 2 12 14))) (rZ 13)))
def UM:ak:=
 (gU qG 4 (EO 4) 3 (jH 0 4) 4 (od (lS 3 6) .eql zQ 1 Cn (pE 6 0 2 Cn (lI .eql 6 0 (kh 87 (xh 6 0 6 1 6 2) 7 (vL 2222 eb kF (vA jX bf Cn))) (pE 6 0 4 (xw 4 6 2 (od (qJ 7) .neq (dU 7) 1 bf (.aS (.sQ 0 (.get 3 eb (iF 7) .an)) (Cv 3 eb (iF 7) (.test jX bf (Ga 4 6 2 (.i 1) (pD 4 9 88 9 9 9 9 (eC 10 (vL 2222 eb Cz (vA jY bf (cY (.rw (iF 7)) (.len (pG 7 1)) UL))))))))))) bf)))) rm)
def UN:ak:=
 (gU Ck 2 dR 2 cZ 2 (vM 2 4 46 4 4 (zU (jI 5) UK)) (.aS (EO 4) UM))
def aes:ak:=
 (gB 6 0 85 (lG 0 0 0 2 0 3 0 4 0 5) (cY cZ dR UN))
def am_:a_:=⟨oO,oP,oQ,[⟨0,33,8,[(0,(25,0))],[(1,0)],[],[]⟩,⟨0,33,3,[(0,(13,0))],[(1,0)],[],[]⟩,⟨1,33071,1,[(1,(8,0))],[(1,0)],[],[]⟩,⟨1,33021,1,[(1,(8,0))],[(1,0)],[],[]⟩,⟨999999,0,0,[],[],[],[]⟩],oR⟩
theorem aq2:aH asK am_ 400 af 33=aes:=by kernel_rfl
def aet:ak:=
 (uD 4 (cY cB ft (jo 45 (n_ 1 1 1 2) (uC ej (kh 46 (n_ 1 1 1 2) 4 (j2 (jI 4) (jI 4) (uc 2 (lp 47 (Jb 0 1 (iC jb)) (uC gC (kg .gtr 3 ft cx (jo 96 me (uC fD (.aS (vE ft) (EK 1 me (vE ft) (eC 7 (.nr (ub .leq kF cB))))))) bf)))) bf))))))
def ana:a_:=⟨oO,oP,oQ,[⟨999999,0,0,[],[],[],[]⟩],oR⟩
theorem aq3:aH asK ana 400 af 36=aet:=by kernel_rfl
def Rx:ak:=
 (gU Ck 1 bK 1 bw 1 (eC 3 (xn 3 oe ej .an (lJ 1 4))) zL)
def aaR:ak:=
 (xo Rx)
def aiH:a_:=⟨oO,oP,oQ,[⟨1,97008,1,[(1,(8,0))],[(0,0)],[(0,2)],[]⟩,⟨999999,0,0,[],[],[],[]⟩],oR⟩
theorem anb:CZ asK aiH 400 97=aaR:=by kernel_rfl
def Ry:ak:=
 (qA 2 dR 1 cZ 2 (cY ej (.sQ 0 (.get 3 xp ej .an)) (Cv 3 xp ej (vA r8 (cY (F9 2) (tZ (F9 2)) (WJ (tZ (F9 2)))) qD))) Gc)
def Rz:ak:=
 (cY cZ dR Ry)
def aiI:a_:=⟨oO,oP,oQ,[⟨3,86008008,2,[(3,(8,0))],[],[],[]⟩,⟨999999,0,0,[],[],[],[]⟩],oR⟩
theorem anc:H6 asK aiI 400 86=Rz:=by kernel_rfl
def UO:ak:=
 (.loop (n9 cx 1 3 (pf 7)) (K6 3 8 dz 2 cB 8 (kC 2 11 (.rw vD) (qB 4 72 10 4 (n9 mV 11 0 (rl (iF 11) (Ol 1 vD))) (xk 9 (B_ 2 8 (rl (ue 9) (.var 12)))))) (Wx (wY (n9 iE 1 1 (vR uj mV vD)) vD HS))))
def UP:ak:=
 (.kP (.two uw (Cb 2 mD) (mC 4 72 mD uw (.next 2 (pf 7)))) 1 (.aS dz UO))
def UQ:ak:=
 (qA 6 dz 2 cB 6 (kC 2 7 (jZ 7) (lp 47 (WG 0 7 0 (iC (jZ 7))) (lU 8 8 (Om 7) 1 6))) (.aS vD UP))
def LM:ak:=
 (qA 5 dz 2 cB 5 (vM 2 6 45 6 6 (mB 7 7 Gi (kh 46 (Cd 6 6) 8 (qI (jI 8) .gtr (jI 8) Gi (F8 5))))) (.aS dz UQ))
def GB:ak:=
 (uD 5 (eC 2 (jo 11 lH (vV ej 31 ej (WA (WB mD mD 6 HS) (iC ej)) (kD 13 lH (rV 1 1 1 2 1 3 1 4) (mB 4 4 Gi (jV .geq 1 4 64 vF (ua dz dz 40 vF (cY uf dz (oa (ub .sub (.i 500) dz) .gtr uf (ub .sub (.i 500) dz) vF (cY uf lE (cY vB dz (oa (ub .sub (.i 5000) dz) .gtr vB (ub .sub (.i 5000) dz) vF (.aS dz (oa (ub .sub (.i 2147483648) dz) .gtr me (ub .sub (.i 2147483648) dz) vF (.aS dz LM))))))))))))))))
def ane:a_:=⟨oO,oP,oQ,[⟨0,17,27,[(0,(104,0))],[(3,3),(3,0),(1,3),(1,0)],[(0,100)],[]⟩,⟨0,17,1000100,[(0,(100,0))],[(3,3),(3,0)],[],[]⟩,⟨0,17,19,[(0,(79,0))],[],[],[]⟩,⟨0,17,13,[(0,(62,0))],[],[],[]⟩,⟨999999,0,0,[],[],[],[]⟩],oR⟩
theorem aq4:aH asK ane 400 af 17=GB:=by kernel_rfl
end Go.Proofs.YtggffkaadeagbaaGreat
