/- A part of the proof, no condition: what the code of the checks of the reference computes. -/
import Derived.Test.YtggffkaadeagbaaGreatEvJ
import Derived.Test.YtggffkaadeagbaaGreatRuA
open Go.Proofs.Tryz renaming prog->asK
open Bool renaming true->ab,false->af
set_option linter.all false
namespace Go.Proofs.YtggffkaadeagbaaGreat
open Go Go.Ev
def cU:List Nat:=[123,127,126,186,189,44,79,30,102,9,10,23,31,15,257,149,89,148,198,147,199,50,191,71,214,93,163,49,152,64,164,158,95,108,206,250,213,205,130,131,107,129,155,34,90,51,202,153,201,200,151,203,150,204,154,91,41,67,101,99,109,157,210,12,26,28,25,14,19,92,100,40,39,70,94,69,35,53,52,68,42,58,75,24,27,22,29,61,190,66,133,128,249,121,78,183]
def cV:List Nat:=[48,63,118,124,132,174,184,187,197,216,252,263,270,334]
def cW:List Nat:=[185,188,254]
def cX:List Nat:=[155]
def Ua:ak:=
 (mW lE 7 lE 4 rY 7 (mj 8 (lp 42 (HR 1 2 8 0 (iC EJ)) (od j8 .neq j8 1 bf (jn 4 rY 7 (mj 10 (lp 42 (HR 1 2 10 0 (iC lT)) (fC vO vO 1 (eh 2 7)))))))))
def Ub:ak:=
 (fv uf 6 uf 4 uw 6 (mj 7 (qH 41 1 1 7 0 (YS (uE 4 8) (gT 8) bf (jn 4 uw 6 (mj 9 (lp 42 (HR 1 2 9 0 (iC lT)) (fC Cz Cz 1 (eh 1 6)))))))) Ua)
def Uc:ak:=
 (fv jb 5 jb 6 uj 5 (lq 6 6 (lp 40 (vR lH (rV 1 1 1 2 1 3 1 4) (lG 6 6 6 2 6 3 6 4 6 5)) (r_ 7 7 0 5))) Ub)
def Xt:ak:=
 (uD 5 (jo 12 lH (vV cB 31 cB bf (jV .lss 1 3 1 bf (jV .gtr 1 3 2147483648 bf (lI .lss 1 4 bf (jV .gtr 1 4 64 bf (fC jb jb 5000 (cY uf lE (fC vB vB 5000 (zS 39 (wY lH (rV 1 1 1 2 1 3 1 4) (EN 1 0)) 3 3 (zS 39 (wY lH (rV 1 1 1 2 1 3 1 4) (EN 1 1)) 4 4 Uc))))))))))))
def alR:a_:=⟨cU,cV,cW,[⟨0,14,17,[(0,(9,0))],[],[],[]⟩,⟨0,14,11,[(0,(6,0))],[],[],[]⟩,⟨0,14,6,[(0,(5,0))],[],[],[]⟩],cX⟩
theorem aqk:aH asK alR 400 af 14=Xt:=by kernel_rfl
def Ud:ak:=
 (fv eY 2 eY 6 og 2 (gB 6 3 35 (lG 3 3 3 2 3 3 3 4 3 5) (lU 4 4 (oc 19) 0 2)) rW)
def Xu:ak:=
 (gB 2 0 34 lH (.aS (xq 1) (qI (gT 1) .neq (gT 1) zR Ud)))
def alS:a_:=⟨cU,cV,cW,[⟨0,12,5,[(0,(5,0))],[],[],[]⟩],cX⟩
theorem aql:aH asK alS 400 af 12=Xu:=by kernel_rfl
def Ue:ak:=
 (fv eY 2 eY 6 og 2 (lq 6 3 (kD 90 oh (lG 3 3 3 2 3 3 3 4 3 5) (vV eS 31 eS (t_ oe eS) (eh 1 2)))) (t_ cx cx))
def Uf:ak:=
 (fv uy 1 uy 2 oh 1 (gB 2 2 89 (dU 2) (mB 3 3 (Cs (.i 7)) (lI .lss 2 1 (Cs (.i 9)) (jV .gtr 2 1 6 (Cs (.i 9)) (ady 2 oh cx (.var 1) (iD 51 (n9 r8 2 0 (EN 2 1)) (.nt gC (Cs (.i 8)) vH))))))) (ua eY eY 40 (Cs (.i 6)) Ue))
def Xv:ak:=
 (lq 2 0 (ua uy uy 30 (Cs (.i 6)) Uf))
def alT:a_:=⟨cU,cV,cW,[⟨0,34,16,[(0,(6,0))],[],[],[]⟩,⟨0,34,4,[(0,(4,0))],[],[],[]⟩],cX⟩
theorem aqm:aH asK alT 400 af 34=Xv:=by kernel_rfl
def ad1:ak:=
 (pA (jo 147 bw (uC cZ (.aS (Jc cx) (jo 148 (Jc cx) (uC cB (kh 149 bw 3 (.nr (tZ ej)))))))))
def alU:a_:=⟨cU,cV,cW,[],cX⟩
theorem aqn:aH asK alU 400 af 89=ad1:=by kernel_rfl
def QR:ak:=
 (uA ug 3 1 ug (.aS r7 (jo 148 r7 (lU 2 2 (.aS r7 (jo 198 r7 (lU 3 3 (B9 r7 .lss 5 r7 (lV 48) (WN r7 5 r7 Gk bf vH) (B9 r7 .gtr 5 r7 (lV 57) (WN r7 5 r7 Gk bf vH) vH)) 0 1))) 0 1))) (sb ug .geq ug 1 (.aS ug (.nr (r9 ug 40)))))
def ZZ:ak:=
 (pA QR)
def ahL:a_:=⟨cU,cV,cW,[⟨0,147,2,[(0,(3,0))],[],[],[]⟩],cX⟩
theorem alV:aH asK ahL 400 af 147=ZZ:=by kernel_rfl
def Z0:ak:=
 (B9 bw .geq 5 bw (lV 97) (.nr (xu .leq 5 bw 122)) bf)
def ahM:a_:=⟨cU,cV,cW,[],cX⟩
theorem alW:aH asK ahM 400 af 148=Z0:=by kernel_rfl
def Z1:ak:=
 (B9 bw .geq 5 bw (lV 65) (.nr (xu .leq 5 bw 90)) bf)
def ahN:a_:=⟨cU,cV,cW,[],cX⟩
theorem alX:aH asK ahN 400 af 198=Z1:=by kernel_rfl
def Z2:ak:=
 (Cf bw 9 bw (.s [99,111,110,115,116,114,97,105,110,116]) rm (Jd 9 [116,114,117,101] 9 [102,97,105,108] (Jd 9 [105,115] 9 [105,110,116] (.nr (PN .eql 9 bw (.s [103,114,111,117,110,100]))))))
def ahO:a_:=⟨cU,cV,cW,[],cX⟩
theorem alY:aH asK ahO 400 af 149=Z2:=by kernel_rfl
def Ug:ak:=
 (fv bK 3 bK 2 bw 3 (uz 2 4 9 4 cZ (jn 2 bw 3 (wJ (lS 2 5) (iF 5) cB rm zO)) zO) bf)
def ad2:ak:=
 (qz (eC 2 Ug))
def alZ:a_:=⟨cU,cV,cW,[⟨0,51,2,[(0,(7,0))],[],[],[]⟩],cX⟩
theorem aqo:aH asK alZ 400 af 51=ad2:=by kernel_rfl
def Uh:ak:=
 (fv (jI 6) 7 (jI 6) 1 fD 7 (oa pF .neq pF Cw zR (eh 2 7)) (oa (jI 6) .neq (Cc 5) (jI 6) zR (adB .neq 9 1 0 (jo 89 uw (mB 8 8 (oc 7) (kD 154 bw (lG 1 1 1 2 1 3 1 4 1 5) (.nr j8)))) (kD 154 bw (lG 1 1 1 2 1 3 1 4 1 5) (.nr pF)))))
def Ui:ak:=
 (fv ui 5 ui 3 ej 5 (gB 3 6 152 (xh 6 0 6 1 6 2) (lU 7 7 zR 1 5)) (kh 153 (lG 1 1 1 2 1 3 1 4 1 5) 6 Uh))
def Uj:ak:=
 (fv dz 4 dz 2 cB 4 (vM 2 5 49 5 5 (lU 6 6 zR 0 4)) Ui)
def ad3:ak:=
 (PQ (lS 6 1) (kh 150 (lG 1 1 1 2 1 3 1 4 1 5) 2 (kh 151 (lG 1 1 1 2 1 3 1 4 1 5) 3 (j2 dz dz (oc 6) (ua dz dz 4 (oc 6) (ua ft ft 12 (oc 6) (ua ux ux 12 (oc 6) Uj)))))))
def al0:a_:=⟨cU,cV,cW,[⟨0,90,17,[(0,(10,0))],[],[],[]⟩,⟨0,90,11,[(0,(8,0))],[],[],[]⟩,⟨0,90,6,[(0,(7,0))],[],[],[]⟩],cX⟩
theorem aqp:aH asK al0 400 af 90=ad3:=by kernel_rfl
def Z3:ak:=
 (lq 6 0 (mC 2 40 (HV 2) og (mE 2 40 1 xr zL)))
def ahP:a_:=⟨cU,cV,cW,[],cX⟩
theorem al1:aH asK ahP 400 af 150=Z3:=by kernel_rfl
def Z4:ak:=
 (lq 6 0 (mC 3 48 (HV 3) (jH 0 3) (mE 3 48 1 (jH 0 4) zL)))
def ahQ:a_:=⟨cU,cV,cW,[],cX⟩
theorem al2:aH asK ahQ 400 af 151=Z4:=by kernel_rfl
def ad4:ak:=
 (gB 2 0 89 oh (uC cZ (sb eY .leq eY 6 (jo 107 og (.nr cB)))))
def al3:a_:=⟨cU,cV,cW,[],cX⟩
theorem aqq:aH asK al3 400 af 49=ad4:=by kernel_rfl
def QS:ak:=
 (j9 cx bK 1 bK 4 bw 1 (pD 4 3 163 3 3 3 3 (vw 4 4 (jn 4 bw 1 (pD 4 5 158 5 5 5 5 (cY fD (Gf fD) (pC 0 1 (Gf fD))))))) (.nr (adz .leq 2 200)))
def Z5:ak:=
 (pA QS)
def ahR:a_:=⟨cU,cV,cW,[⟨0,107,3,[(0,(3,0)),(0,(4,0))],[],[],[]⟩],cX⟩
theorem al4:aH asK ahR 400 af 107=Z5:=by kernel_rfl
def Z6:ak:=
 (pD 4 0 213 0 0 0 0 (uC cZ (jo 158 (gu 0 0 0 0) (sb cB .leq cB 200 (kh 214 (gu 0 0 0 0) 3 (.nr (r9 ej 20)))))))
def ahS:a_:=⟨cU,cV,cW,[],cX⟩
theorem al5:aH asK ahS 400 af 163=Z6:=by kernel_rfl
def C8:ak:=
 (mW kE 3 kE 4 (jH 0 3) 3 (pD 4 4 213 4 4 4 4 (r_ 5 5 0 3)))
def H8:ak:=
 (mW kE 2 kE 4 (jH 0 3) 2 (pD 4 3 213 3 3 3 3 (r_ 4 4 0 2)))
def QT:ak:=
 (mW kE 3 kE 4 (jH 0 3) 3 (pD 4 4 213 4 4 4 4 (r_ 5 5 0 3)))
def Z7:ak:=
 (j2 (qJ 0) oh (jV .geq 0 1 (-2147483648) (jV .leq 0 1 2147483648 (uB 9 0 2 (.aS kE (.nr (Cu kE))) bf) bf) bf) (pE 0 0 1 (lI .geq 0 1 (jV .leq 0 1 1048576 (uB 9 0 2 (.aS kE (.nr (Cu kE))) bf) bf) bf) (pE 0 0 2 (jo 257 xr (.nt cZ (.aS kE (xx (K_ .eql kE 2) og cx (vA (K_ .eql kE 2) (uo 89 xr 2 2 (fC kE kE 6 C8)) H8))) (lI .neq 0 1 bf (uo 89 xr 2 2 (fC kE kE 6 QT))))) bf)))
def ahT:a_:=⟨cU,cV,cW,[⟨0,213,11,[(0,(4,0))],[],[],[]⟩],cX⟩
theorem al6:aH asK ahT 400 af 213=Z7:=by kernel_rfl
def Z8:ak:=
 (Cf bw 9 bw (.s [43]) rm (Jd 9 [45] 9 [42] (On 9 [47] (.nr (PN .eql 9 bw (.s [37]))))))
def ahU:a_:=⟨cU,cV,cW,[],cX⟩
theorem al7:aH asK ahU 400 af 257=Z8:=by kernel_rfl
def QU:ak:=
 (j9 cx dR 2 dR 4 cZ 2 (pD 4 4 214 4 4 4 4 (zU (qF (.mx ab qG gC)) (pC 0 2 (qF (.mx ab qG gC))))) (.nr (ue 3)))
def Z9:ak:=
 (pD 4 0 206 0 0 0 0 (eC 1 QU))
def ahV:a_:=⟨cU,cV,cW,[⟨0,214,4,[(0,(3,0)),(0,(5,0))],[],[],[]⟩],cX⟩
theorem al8:aH asK ahV 400 af 214=Z9:=by kernel_rfl
def Z_:ak:=
 (j2 (lS 3 0) oh (jo 49 (n_ 0 1 0 2) (.nr cZ)) (uB 9 0 1 (kh 199 oh 1 (wJ jA cZ jA (jo 107 xr (.nr cB)) bf)) bf))
def ahW:a_:=⟨cU,cV,cW,[],cX⟩
theorem al9:aH asK ahW 400 af 152=Z_:=by kernel_rfl
def aaa:ak:=
 (od bw .eql bw 1 rW (zG 3 (.i 2) rW (zG 3 (.i 11) (oc 1) (zG 3 (.i 12) (oc 1) (F6 .gtr 3 (.i 2) (F6 .lss 3 (.i 11) zR Jf) Jf)))))
def ahX:a_:=⟨cU,cV,cW,[],cX⟩
theorem al_:aH asK ahX 400 af 199=aaa:=by kernel_rfl
def QV:ak:=
 (j9 qG (jI 4) 5 (jI 4) 3 eS 5 (lq 3 7 (mE 4 56 6 (vS 7) (Cg 5 8))) (iD 108 (pf 6) (.nr kF)))
def QW:ak:=
 (j9 mD dR 2 dR 2 cZ 2 (lq 2 4 (mE 4 56 3 (iF 4) (lJ 2 5))) (kh 151 (lG 0 0 0 2 0 3 0 4 0 5) 4 QV))
def aab:ak:=
 (gB 6 0 150 (lG 0 0 0 2 0 3 0 4 0 5) (eC 1 QW))
def ahY:a_:=⟨cU,cV,cW,[⟨0,153,9,[(0,(3,0)),(0,(7,0))],[(1,3),(1,0)],[],[]⟩,⟨0,153,4,[(0,(3,0)),(0,(5,0))],[(1,3),(1,0)],[],[]⟩],cX⟩
theorem ama:aH asK ahY 400 af 153=aab:=by kernel_rfl
def QX:ak:=
 (j9 fq bK 1 bK 4 bw 1 (kC 4 3 (.rws oe) (vL 511 oe (gu 3 3 3 3) (lJ 1 4))) zL)
def JW:ak:=
 (pA QX)
def aac:a_:=⟨cU,cV,cW,[⟨0,108,3,[(0,(3,0)),(0,(4,0))],[(0,0)],[],[]⟩],cX⟩
theorem amb:aH asK aac 400 af 108=JW:=by kernel_rfl
def QY:ak:=
 (fv (jI 11) 12 (jI 11) 1 vO 12 (vK 13 204 pF (g_ 13) (lU 14 14 (oc 17) 4 12)) (eh 3 9))
def QZ:ak:=
 (fv ft 9 ft 3 me 9 (gB 3 10 93 (xh 10 0 10 1 10 2) (eC 11 QY)) rW)
def Q0:ak:=
 (fv ux 7 ux 3 vy 7 (gB 3 8 202 (dU 8) (.nt j8 (oc 10) (eh 2 7))) (kh 203 (lG 1 1 1 2 1 3 1 4 1 5) 8 QZ))
def Q1:ak:=
 (fv ft 6 ft 3 me 6 (gB 3 7 202 (dU 7) (lU 8 8 (jn 3 me 6 (od (lS 3 9) .neq (dU 9) 1 (oc 10) (eh 1 6))) 1 6)) Q0)
def Q2:ak:=
 (fv dz 3 dz 2 cB 3 (lq 2 4 (jn 2 cB 3 (kC 2 5 (jZ 5) (vU 200 4 0 (jZ 5) (vV fD 31 fD (.ret fD) zO))))) (kh 151 (lG 1 1 1 2 1 3 1 4 1 5) 4 (kD 201 bw eS (vV gC 31 gC (.ret gC) Q1))))
def aad:ak:=
 (PQ (lS 6 1) (kh 150 (lG 1 1 1 2 1 3 1 4 1 5) 2 Q2))
def ahZ:a_:=⟨cU,cV,cW,[⟨0,154,23,[(0,(12,0))],[],[],[]⟩,⟨0,154,27,[(0,(14,0))],[],[],[]⟩,⟨0,154,17,[(0,(10,0))],[],[],[]⟩,⟨0,154,12,[(0,(9,0))],[],[],[]⟩,⟨0,154,3,[(0,(6,0))],[],[],[]⟩],cX⟩
theorem amc:aH asK ahZ 400 af 154=aad:=by kernel_rfl
def Q3:ak:=
 (j9 (.i 7) bK 3 bK 2 bw 3 (uz 2 5 9 5 cZ (B_ 0 3 (La 9)) (lJ 3 4)) (lp 51 (vR bw cZ cB) (.nt gC rW (.ret r8))))
def aae:ak:=
 (qz (eC 2 Q3))
def ah0:a_:=⟨cU,cV,cW,[⟨0,200,3,[(0,(7,0)),(0,(8,0))],[],[],[]⟩],cX⟩
theorem amd:aH asK ah0 400 af 200=aae:=by kernel_rfl
def Q4:ak:=
 (fv dR 2 dR 3 cZ 2 (qI (lS 3 3) .neq (dU 3) qD (jn 3 cZ 2 (lq 3 4 (jn 3 cZ 2 (kC 3 5 (fQ 5) (vU 200 4 1 (fQ 5) (vV fD 31 fD (.ret fD) qD))))))) rW)
def aaf:ak:=
 (qz Q4)
def ah1:a_:=⟨cU,cV,cW,[⟨0,201,2,[(0,(5,0))],[],[],[]⟩],cX⟩
theorem ame:aH asK ah1 400 af 201=aaf:=by kernel_rfl
def aag:ak:=
 (sb bw .geq bw 5 (.nr (r9 bw 12)))
def ah2:a_:=⟨cU,cV,cW,[],cX⟩
theorem amf:aH asK ah2 400 af 202=aag:=by kernel_rfl
def Q5:ak:=
 (j9 mD dR 2 dR 2 cZ 2 (lq 2 4 (mE 4 56 3 (iF 4) (lJ 2 5))) (iD 108 (pf 3) (.nr eS)))
def aah:ak:=
 (gB 6 0 150 (lG 0 0 0 2 0 3 0 4 0 5) (eC 1 Q5))
def ah3:a_:=⟨cU,cV,cW,[⟨0,203,4,[(0,(3,0)),(0,(5,0))],[(1,3),(1,0)],[],[]⟩],cX⟩
theorem amg:aH asK ah3 400 af 203=aah:=by kernel_rfl
def ad5:ak:=
 (gB 3 0 108 xr (.nr cZ))
def amh:a_:=⟨cU,cV,cW,[],cX⟩
theorem aqr:aH asK amh 400 af 93=ad5:=by kernel_rfl
def Q6:ak:=
 (fv bK 2 bK 1 bw 2 (wJ ej ej cZ rm qD) bf)
def aai:ak:=
 (qz Q6)
def ah4:a_:=⟨cU,cV,cW,[⟨0,204,2,[(0,(5,0))],[],[],[]⟩],cX⟩
theorem ami:aH asK ah4 400 af 204=aai:=by kernel_rfl
def ad6:ak:=
 (lq 6 0 (mC 2 40 (HV 2) og (mE 2 40 1 xr zL)))
def amj:a_:=⟨cU,cV,cW,[],cX⟩
theorem aqs:aH asK amj 400 af 91=ad6:=by kernel_rfl
def ad7:ak:=
 (gB 2 0 108 og (.nr cZ))
def amk:a_:=⟨cU,cV,cW,[],cX⟩
theorem aqt:aH asK amk 400 af 50=ad7:=by kernel_rfl
def ad8:ak:=
 (kC 4 0 (.rws fq) (vL 511 fq (gu 0 0 0 0) (.ret (.var 1))))
def aml:a_:=⟨cU,cV,cW,[],cX⟩
theorem aqu:aH asK aml 400 af 95=ad8:=by kernel_rfl
def Uk:ak:=
 (mW dz 3 dz 4 cB 3 (od (qJ 4) .lss (dU 4) 1 bf (HW .geq 4 0 me bf (.nt (ud .gtr 3 3) (.aS (xi 3) (EK 4 cB (xi 3) (pz (qJ 5) .leq (dU 4) (dU 5) (uo 49 (n_ 4 1 4 2) 6 6 (kh 50 (n_ 4 1 4 2) 7 (pz (jI 7) .gtr (jI 7) cx (.aS (fQ 4) (zS 51 (Jb 0 4 (iC (fQ 4))) 8 8 (j2 vJ vJ bf (uo 99 (jH 4 3) 9 9 (xw 1 4 3 (od Cz .lss Cz 1 bf (cY vJ (vE vJ) (Ga 1 4 3 (vE vJ) (pz vO .gtr vO vy zO))))))))))))))) (uo 49 (n_ 4 1 4 2) 5 5 (kh 50 (n_ 4 1 4 2) 6 (pz (jI 6) .gtr (jI 6) cx (.aS (fQ 4) (zS 51 (Jb 0 4 (iC (fQ 4))) 7 7 (j2 vJ vJ bf (uo 99 (jH 4 3) 8 8 (xw 1 4 3 (od j8 .lss j8 1 bf (cY vJ (vE vJ) (Ga 1 4 3 (vE vJ) (pz Cz .gtr Cz vy zO))))))))))))))))
def Xw:ak:=
 (uD 5 (eC 2 Uk))
def amm:a_:=⟨cU,cV,cW,[⟨0,39,2,[(0,(7,0))],[],[],[]⟩],cX⟩
theorem aqv:aH asK amm 400 af 39=Xw:=by kernel_rfl
def Ul:ak:=
 (mW bK 1 bK 1 bw 1 (od cB .lss cB 1 bf (jn 1 bw 1 (fC ej ej 64 (.nt (ud .gtr 3 1) (jn 1 bw 1 (cY eS (xi 1) (EK 1 bw (xi 1) (pz gC .leq eS gC vH)))) vH)))))
def ad9:ak:=
 (pA Ul)
def amn:a_:=⟨cU,cV,cW,[⟨0,99,2,[(0,(3,0))],[],[],[]⟩],cX⟩
theorem aqw:aH asK amn 400 af 99=ad9:=by kernel_rfl
def Um:ak:=
 (mW pB 11 pB 1 (jH 2 3) 11 (vK 12 100 (rV 1 1 1 2 1 3 1 4) (g_ 12) (zT (uE 4 13) (gT 13) (gT 13) bf (lp 53 (n9 (fE 13 3) 2 5 .an) (r_ 14 14 2 11)))))
def Un:ak:=
 (fv xm 10 xm 1 (vS 2) 10 (vK 11 41 rY vO (zT (uE 4 12) (gT 12) (gT 12) bf (eh 1 10))) Um)
def Gx:ak:=
 (j9 mD r6 6 r6 1 vI 6 (vK 8 100 (rV 1 1 1 2 1 3 1 4) pF (zT (uE 4 9) (gT 9) (gT 9) bf (vP vI mh (jn 1 vI 6 (eC 11 (vL 94 iE vO (.nt (g_ 12) bf (qB 4 72 7 4 (vQ (fE 9 0) (fE 9 1) (fE 9 2) (fE 9 3)) (lJ 6 13))))))))) (iD 101 (pf 7) (vK 8 53 (jH 2 5) pF (vw 9 9 Un))))
def afq:ak:=
 (mW pB 11 pB 1 (jH 2 3) 11 (vK 12 100 (rV 1 1 1 2 1 3 1 4) (g_ 12) (zT (uE 4 13) (gT 13) (gT 13) bf (lp 53 (n9 (fE 13 3) 2 5 .an) (r_ 14 14 2 11)))))
def afr:ak:=
 (fv xm 10 xm 1 (vS 2) 10 (vK 11 41 rY vO (zT (uE 4 12) (gT 12) (gT 12) bf (eh 1 10))) afq)
def Uo:ak:=
 (j9 mD r6 6 r6 1 vI 6 (vK 8 100 (rV 1 1 1 2 1 3 1 4) pF (zT (uE 4 9) (gT 9) (gT 9) bf (vP vI mh (jn 1 vI 6 (eC 11 (vL 94 iE vO (.nt (g_ 12) bf (qB 4 72 7 4 (vQ (fE 9 0) (fE 9 1) (fE 9 2) (fE 9 3)) (lJ 6 13))))))))) (iD 101 (pf 7) (vK 8 53 (jH 2 5) pF (vw 9 9 afr))))
def Xx:ak:=
 (uD 5 (pz (lS 6 2) .lss (dU 2) cx (pz eY .geq (dU 2) eY (EK 6 og (dU 2) (kC 6 3 r6 (cY (jZ 3) (fQ 3) (xx (mU (jZ 3) (fQ 3)) r6 (mU (jZ 3) (fQ 3)) (.aS (jZ 3) (ur vI (jZ 3) r6 (vL 53 (vS 2) r8 (vw 5 5 (.test (jH 2 4) (pz pB .gtr pB cx (fC pB pB 12 Gx)) (fC pB pB 12 Uo)))))))))))))
def amo:a_:=⟨cU,cV,cW,[⟨0,40,8,[(0,(8,0)),(0,(9,0))],[(4,3),(4,0)],[],[]⟩,⟨0,40,23,[(0,(15,0))],[],[],[]⟩,⟨0,40,17,[(0,(12,0))],[],[],[]⟩],cX⟩
theorem aqx:aH asK amo 400 af 40=Xx:=by kernel_rfl
def aaj:ak:=
 (kC 5 0 cZ (kD 41 oh cZ (YS (uE 4 2) (gT 2) (t_ (vQ (fE 2 0) (fE 2 1) (fE 2 2) (fE 2 3)) lT) (kD 41 og cZ (cY (uE 4 3) (gT 3) (t_ (vQ (fE 3 0) (fE 3 1) (fE 3 2) (fE 3 3)) (gT 3)))))))
def ah5:a_:=⟨cU,cV,cW,[],cX⟩
theorem amp:aH asK ah5 400 af 100=aaj:=by kernel_rfl
def Up:ak:=
 (fv bK 2 bK 4 bw 2 (wJ (qJ 3) (dU 3) cZ (jn 4 bw 2 (mj 4 (t_ (gu 4 4 4 4) lT))) qD) (t_ (vQ cx zJ mD fq) EJ))
def ad_:ak:=
 (qz Up)
def amq:a_:=⟨cU,cV,cW,[⟨0,41,2,[(0,(6,0))],[],[],[]⟩],cX⟩
theorem aqy:aH asK amq 400 af 41=ad_:=by kernel_rfl
def Uq:ak:=
 (j9 r8 (xj 6) 7 (xj 6) 1 (jH 6 3) 7 (wJ j8 j8 cZ (xk 8 (pC 1 7 (ue 8))) (Cg 7 8)) (lJ 3 8))
def Ur:ak:=
 (j9 r8 (fQ 5) 6 (fQ 5) 1 (vS 5) 6 (wJ pF pF cZ (xk 7 (pC 1 6 (ue 7))) (Cg 6 7)) (lJ 3 7))
def Us:ak:=
 (j9 cx bK 3 bK 6 bw 3 (lq 6 5 (.test cB (jn 6 bw 3 (lq 6 6 Uq)) Ur)) (.ret r8))
def aea:ak:=
 (qz (eC 2 Us))
def amr:a_:=⟨cU,cV,cW,[⟨0,42,3,[(0,(7,0)),(0,(8,0))],[],[],[]⟩,⟨0,42,9,[(0,(7,0)),(0,(10,0))],[],[],[]⟩],cX⟩
theorem aqz:aH asK amr 400 af 42=aea:=by kernel_rfl
def aak:List Nat:=[123,127,126,186,189,44,79,30,102,9,10,23,31,15,257,149,89,148,198,147,199,50,191,71,214,93,163,49,152,64,164,158,95,108,206,250,213,130,131,107,129,155,34,90,51,202,153,201,200,151,203,150,204,154,91,41,67,101,99,109,157,210,12,26,28,25,14,19,100,40,39,70,69,35,53,52,68,42,58,75,24,27,22,29,61,190,66,133,128,249,121,78,183]
def aal:List Nat:=[92,94,205]
def aam:List Nat:=[185,188,254]
def aan:List Nat:=[155]
def H9:ak:=
 (uA (.len xp) 3 2 (.len xp) (vN xp oe xp 2 rY (uu 0) (eh 1 2)) (Ce 0))
def H_:ak:=
 (j9 qG (jI 4) 5 (jI 4) 4 eS 5 (kC 4 7 (.rws mh) (iD 511 (zH 6 (gu 7 7 7 7)) (lJ 5 8))) (zM mh))
def Ia:ak:=
 (j9 xp ui 4 ui 4 ej 4 (kC 4 6 (.rws eb) (vL 511 eb (gu 6 6 6 6) (lJ 4 7))) (zM eb))
def Q7:ak:=
 (.kP H9 1 (vA oe (wI rY (mE 1 8 0 (pG 1 1) (kh 206 (gu 1 1 1 1) 4 H_))) (kh 206 (gu 1 1 1 1) 3 Ia)))
def Ib:ak:=
 (j9 xp dz 3 dz 4 cB 3 (kC 4 5 (.rws r8) (iD 511 (zH 4 (gu 5 5 5 5)) (lJ 3 6))) (zM r8))
def aao:ak:=
 (od (qJ 1) .eql uw 1 Q7 (kh 206 (gu 1 1 1 1) 2 Ib))
def ah6:a_:=⟨aak,aal,aam,[⟨0,155,5,[(0,(6,0))],[(0,3),(0,0)],[(0,21),(0,11)],[]⟩,⟨0,155,1000014,[(0,(14,0))],[],[],[]⟩,⟨1,155015,2,[(1,(5,0))],[],[],[]⟩],aan⟩
theorem ams:xU asK ah6 400 1 155=aao:=by kernel_rfl
def Ut:ak:=
 (uA jW 3 10 jW (vN eb iE eb 10 j8 (uu 4) (eh 5 10)) lF)
def afs:ak:=
 (.kP Ut 1 (vA iE (Ce 2) (eh 3 8)))
def Uu:ak:=
 (fv (jI 7) 8 (jI 7) 1 kF 8 (eC 9 afs) (uu 2))
def aft:ak:=
 (uA jW 3 11 jW (vN eb jY eb 11 (iF 10) (uu 2) (eh 3 11)) (Ce 2))
def afu:ak:=
 (uA jW 3 16 jW (vN eb (.var 16) eb 16 (g_ 15) (uu 4) (eh 5 16)) lF)
def afv:ak:=
 (.kP afu 1 (Cm 16 (Ce 2) (eh 3 14)))
def afw:ak:=
 (fv (jI 13) 14 (jI 13) 1 (g_ 13) 14 (eC 15 afv) (uu 2))
def afx:ak:=
 (.kP afw 1 (vA qC bf (xw 4 6 2 (kC 4 15 (.rw (iF 15)) (mC 1 8 eb (pG 15 1) (rZ 16))))))
def afy:ak:=
 (.kP aft 1 (.test jY bf (Ga 4 6 2 (.i 1) (pD 4 12 95 12 12 12 12 (eC 13 afx)))))
def afz:ak:=
 (.kP Uu 1 (vA jX bf (pE 6 0 4 (xw 4 6 2 (od (qJ 9) .neq (dU 9) 1 bf (xw 4 6 2 (mj 10 afy)))) Cn)))
def Q8:ak:=
 (uA jW 3 9 jW (vN eb mV eb 9 (iF 8) (uu 2) (eh 3 9)) (Ce 2))
def Q_:ak:=
 (uA jW 3 14 jW (vN eb qC eb 14 (g_ 13) (uu 4) (eh 5 14)) lF)
def acO:ak:=
 (.kP Q_ 1 (vA qC (Ce 2) (eh 3 12)))
def Ra:ak:=
 (fv (jI 11) 12 (jI 11) 1 vO 12 (eC 13 acO) (uu 2))
def acP:ak:=
 (.kP Ra 1 (Cm 12 bf (xw 4 6 2 (kC 4 13 (.rw (iF 13)) (mC 1 8 eb (pG 13 1) (rZ 14))))))
def acQ:ak:=
 (.kP Q8 1 (.test mV bf (Ga 4 6 2 (.i 1) (pD 4 10 95 10 10 10 10 (eC 11 acP)))))
def Rb:ak:=
 (j9 qG (EO 4) 4 (EO 4) 3 (jH 0 4) 4 (od (lS 3 6) .eql zQ 3 bf (lI .eql 6 0 (kh 93 (xh 6 0 6 1 6 2) 7 afz) (pE 6 0 4 (xw 4 6 2 (od (qJ 7) .neq (dU 7) 1 bf (xw 4 6 2 (mj 8 acQ)))) Cn))) rm)
def Rc:ak:=
 (j9 fq dR 2 dR 2 cZ 2 (vM 2 4 50 4 4 (zU (.rws gC) (mE 1 8 3 gC (lJ 2 6)))) Rb)
def aeb:ak:=
 (gB 6 0 91 (lG 0 0 0 2 0 3 0 4 0 5) (eC 1 Rc))
def amt:a_:=⟨aak,aal,aam,[⟨0,35,8,[(0,(6,0))],[(1,0)],[],[]⟩,⟨1,35076,2,[(1,(5,0))],[],[],[]⟩,⟨1,35076,1000017,[(1,(17,0))],[],[],[]⟩,⟨2,35076018,2,[(2,(5,0))],[],[],[]⟩,⟨0,35,1000066,[(0,(66,0))],[],[],[]⟩,⟨1,35067,2,[(1,(5,0))],[],[],[]⟩,⟨1,35047,2,[(1,(5,0))],[],[],[]⟩,⟨1,35047,1000017,[(1,(17,0))],[],[],[]⟩,⟨2,35047018,2,[(2,(5,0))],[],[],[]⟩,⟨0,35,4,[(0,(3,0)),(0,(5,0))],[(1,0)],[],[]⟩,⟨0,35,1000075,[(0,(75,0))],[],[],[]⟩,⟨0,35,1000046,[(0,(46,0))],[],[],[]⟩],aan⟩
theorem aqA:aH asK amt 400 af 35=aeb:=by kernel_rfl
end Go.Proofs.YtggffkaadeagbaaGreat
