/- A part of the proof, no condition: what the code of the law and of the checks of the program computes. -/
import Derived.Test.YtpfogalbnijcoaaGreatEvJ
import Derived.Test.YtpfogalbnijcoaaGreatRuA
import Derived.Test.YtpfogalbnijcoaaGreatEvP
open Go.Proofs.Tryz renaming prog->ar1
open Bool renaming true->ab,false->af
set_option linter.all false
namespace Go.Proofs.YtpfogalbnijcoaaGreat
open Go Go.Ev
def EU:List Nat:=[209,280,208,250,295,22,23,8,49,4,9,272,199,118,198,240,197,241,62,249,122,206,61,202,101,123,125,177,248,124,205,59,119,63,244,203,243,242,201,245,200,246,204,120,36,68,64,126,207,33,17,66,35,34,60,65,37,58,55,235,180,105,230,107,24,10,25,51,50,106,54,186,53,256,257,108,52,134,227,110,281,279,187,29,234,260,117]
def EV:List Nat:=[277]
def EW:List Nat:=[238]
def EX:List Nat:=[205,189,111,224000102,500182,500183,500056,600057]
def adB:ak:=
 (jW 6 0 gi (fK jl (mz gi jl) (.bj (.dec 7 (mz gi jl) pC) (nI 2 40 (Kt 2) my (l5 2 40 1 vf vb)))))
def al2:bg:=⟨EU,EV,EW,[⟨999999,0,0,[],[],[],[]⟩],EX⟩
theorem apT:aK ar1 al2 400 af 107=adB:=by kernel_rfl
def Ue:ak:=
 (nM 1 1 1 (rZ dq .lss dq 1 (.nt (lY .gtr dq 64) aU (.nt (Ao .gtr 1 0) (.bj (pD 1 1) (vV 1 bC (pD 1 1) (vu 3 .geq jN dq aU 0 3 1 1))) (vt 1)))) iF)
def adC:ak:=
 (w7 Ue)
def al3:bg:=⟨EU,EV,EW,[⟨0,55,2,[(0,(7,0))],[],[],[]⟩,⟨999999,0,0,[],[],[],[]⟩],EX⟩
theorem apU:aK ar1 al3 400 af 55=adC:=by kernel_rfl
def Z1:ak:=
 (tG bC .geq bC 5 (.nr (tV bC 12)) aU)
def ahJ:bg:=⟨EU,EV,EW,[⟨999999,0,0,[],[],[],[]⟩],EX⟩
theorem al4:aK ar1 ahJ 400 af 186=Z1:=by kernel_rfl
def Uf:ak:=
 (ry (qP 234 bC dh (fK dq (lY .geq dq 0) (Wb (lY .geq dq 0)))))
def ae6:bg:=⟨EU,EV,EW,[⟨999999,0,0,[],[],[],[]⟩],EX⟩
theorem ahK:aK ar1 ae6 400 ab 187=Uf:=by kernel_rfl
def QY:ak:=
 (nM 2 1 2 (jU 3 (gn 1 dh 2 (vu 4 .neq jN iN BV 0 3 2 1))) FK)
def Z2:ak:=
 (IL (lM fj .neq cb fj BV (zC QY)))
def ahL:bg:=⟨EU,EV,EW,[⟨0,29,4,[(0,(13,0))],[],[],[]⟩,⟨999999,0,0,[],[],[],[]⟩],EX⟩
theorem al5:aK ar1 ahL 400 ab 29=Z2:=by kernel_rfl
end Go.Proofs.YtpfogalbnijcoaaGreat
namespace Go.Proofs.YtpfogalbnijcoaaGreat
open Go Go.Ev
def pQ:List Nat:=[209,280,208,250,295,22,23,8,49,4,9,272,199,118,198,240,197,241,62,249,122,206,61,202,101,123,125,177,248,124,205,59,119,63,244,203,243,242,201,245,200,246,204,120,36,68,64,126,207,33,17,66,35,34,60,65,37,58,55,235,180,105,230,107,24,10,25,51,50,106,54,186,53,256,257,108,52,134,227,110,281,279,187,29,234,260,117]
def pR:List Nat:=[27,102,178,277]
def pS:List Nat:=[238]
def pT:List Nat:=[205,189,111,224000102,500182,500183,500056,600057]
def MP:ak:=
 (tR l6 4 tL (nG 2 jN 4 2 6 (mA 53 6 0 6 1 (nJ 7 (.rws xi) (nI 1 8 ej xi (rA 8))))) (oU 1 5))
def MQ:ak:=
 (lN e_ 1 cb 1 bC 1 (nJ 3 tL MP) (zF l6))
def K6:ak:=
 (w7 MQ)
def ae7:bg:=⟨pQ,pR,pS,[⟨0,182,3,[(0,(3,0)),(0,(10,0))],[(0,0)],[],[]⟩,⟨0,182,6,[(0,(3,0)),(0,(16,0))],[(0,0)],[],[]⟩,⟨999999,0,0,[],[],[],[]⟩],pT⟩
theorem ahM:pK ar1 ae7 400 af 182=K6:=by kernel_rfl
def MR:ak:=
 (FI 3 mC (nG 2 dq 3 2 4 (mA 53 4 0 4 1 (nJ 5 (.sub 1 ie (kf 5) dg) (kg 1 3)))) (vt 1))
def MS:ak:=
 (nM 1 1 1 (fK dq mC MR) (.ret e_))
def K7:ak:=
 (w7 MS)
def ae8:bg:=⟨pQ,pR,pS,[⟨0,182,3,[(0,(10,0))],[],[],[]⟩,⟨0,182,6,[(0,(16,0))],[],[],[]⟩,⟨999999,0,0,[],[],[],[]⟩,⟨999998,0,0,[],[],[],[]⟩],pT⟩
theorem ahN:pK ar1 ae8 400 ab 182=K7:=by kernel_rfl
def MT:ak:=
 (tR l6 4 tL (nG 3 jN 4 3 6 (zP 108 (pA 6 0 6 1 (qN 6 2)) 7 (.rws xi) (nI 1 8 ej xi (rA 8)))) (oU 1 5))
def MU:ak:=
 (lN e_ 1 cb 1 bC 1 (nJ 3 tL MT) (zF l6))
def K8:ak:=
 (w7 MU)
def ae9:bg:=⟨pQ,pR,pS,[⟨0,183,3,[(0,(3,0)),(0,(10,0))],[(0,0)],[],[]⟩,⟨0,183,6,[(0,(3,0)),(0,(16,0))],[(0,0)],[],[]⟩,⟨999999,0,0,[],[],[],[]⟩],pT⟩
theorem ahO:pK ar1 ae9 400 af 183=K8:=by kernel_rfl
def MV:ak:=
 (FI 3 mC (nG 3 dq 3 3 4 (zP 108 (pA 4 0 4 1 (qN 4 2)) 5 (.sub 1 ie (kf 5) dg) (kg 1 3))) (vt 1))
def MW:ak:=
 (nM 1 1 1 (fK dq mC MV) (.ret e_))
def K9:ak:=
 (w7 MW)
def ae_:bg:=⟨pQ,pR,pS,[⟨0,183,3,[(0,(10,0))],[],[],[]⟩,⟨0,183,6,[(0,(16,0))],[],[],[]⟩,⟨999999,0,0,[],[],[],[]⟩,⟨999998,0,0,[],[],[],[]⟩],pT⟩
theorem ahP:pK ar1 ae_ 400 ab 183=K9:=by kernel_rfl
def Ug:ak:=
 (nM 3 2 3 (u5 2 4 (tI 53 (BR dh dq) (NJ 4 4)) (.nr (BU 3)) 0 3 3 1) aU)
def adD:ak:=
 (ry (fK dq cb Ug))
def al6:bg:=⟨pQ,pR,pS,[⟨2,54012008,2,[(2,(8,0))],[],[],[]⟩,⟨999999,0,0,[],[],[],[]⟩],pT⟩
theorem apV:aK ar1 al6 400 af 54=adD:=by kernel_rfl
def Uh:ak:=
 (tR BX 2 xc (yr 2 0 0 2 2 4 (ja 105 (fe 4) (Aq 5 5 (wm (.i 7) (uM 0 (.i 7))) (uN .geq 4 1 0 (u6 (Pb .leq 4 1 6) (Pb .leq 4 1 6) (wm (.i 9) (uM 0 (.i 9))) (.bind (qa (.get 53 qc (NJ 4 4) Ej)) (u6 (nE jk) (nE jk) (wm (.i 8) (uM 0 (.i 8))) (w6 53 qc (NJ 4 4) pC (IJ 2 7))))) (wm (.i 9) (uM 0 (.i 9))))))) (lZ 0 1 (u6 (tV gi 40) (tV gi 40) (wm (.i 6) (uM 0 (.i 6))) (uM 0 dg))))
def Ui:ak:=
 (FI 2 gi (yr 6 0 1 2 6 3 (qP 106 tT (oS 3 3 3 3 3 3) (yp 4 (BQ .neq 70 iN 0) (yq l6 iN) 0 3 2 1))) (yq dg dg))
def Uj:ak:=
 (qe (xf 1233 (.i 223) (lZ 0 0 (u6 (tV xc 30) (tV xc 30) (wm (.i 6) (uM 0 (.i 6))) (lZ 0 0 Uh)))) (.nt (aa4 .neq 70 1 0) (B_ (.var 1)) (lZ 0 1 Ui)))
def W7:ak:=
 (jP 2 Uj)
def al7:bg:=⟨pQ,pR,pS,[⟨0,50,5,[(0,(15,0))],[],[],[]⟩,⟨2,50010000,3,[(2,(13,0))],[(2,0)],[],[]⟩,⟨0,50,1000008,[(0,(8,0))],[],[],[]⟩,⟨999999,0,0,[],[],[],[]⟩],pT⟩
theorem apW:aK ar1 al7 400 af 50=W7:=by kernel_rfl
def Uk:ak:=
 (FI 2 gi (yr 6 0 1 2 6 3 (qb 51 (oS 3 3 3 3 3 3) 4 4 (jV 19) 0 2)) ru)
def adE:ak:=
 (jP 2 (mA 50 0 0 0 1 (.bj (w_ 1) (mq (jO 1) (BQ .neq 70 (jO 1) 0) w9 (lZ 0 1 Uk)))))
def al8:bg:=⟨pQ,pR,pS,[⟨0,24,5,[(0,(17,0))],[],[],[]⟩,⟨999999,0,0,[],[],[],[]⟩],pT⟩
theorem apX:aK ar1 al8 400 af 24=adE:=by kernel_rfl
def Ul:ak:=
 (lN qc 6 (kf 5) 1 ie 6 (jU 8 (w6 3 mB oT .an (IJ 6 9))) (oU 2 7))
def Um:ak:=
 (tR ej 12 (.len (oV 7 1)) (FQ (oV 7 1) (.var 12) (w6 3 ve (tN (oV 7 1) 12) .an (wQ 2 12 14))) (rA 13))
def Un:ak:=
 (lN qc 4 Cf 3 (rM 0) 4 (nL (jt 3 6) vj 1 B8 (tM .eql 6 0 2 B8 .eql 6 0 0 (qM 108 (pA 6 0 6 1 (qN 6 2)) 7 (oM 2319 ej xi (wS jH aU B8))) (acT .eql 6 0 4 (vp 4 dg (rZ (jt 4 7) .neq (fe 7) 1 (.bj (.sx 0 (.get 3 ej (jI 7) .an)) (Cb 3 ej (jI 7) (.test jH aU (vp 4 (.i 1) (wk 4 9 (vm 110 9 9 9 9 10 (oM 2319 ej zN (wS jK aU (fK (.rw (jI 7)) (.len (oV 7 1)) Um)))))))))))))) iF)
def Uo:ak:=
 (tR BX 2 fj (nG 2 dh 2 2 4 (mA 53 4 0 4 1 (nJ 5 (kf 5) Ul))) (lZ 0 4 Un))
def adF:ak:=
 (jP 6 (ja 107 (oS 0 0 0 0 0 0) (fK dh fj Uo)))
def al9:bg:=⟨pQ,pR,pS,[⟨0,51,8,[(0,(25,0))],[(1,0)],[],[]⟩,⟨0,51,3,[(0,(13,0))],[(1,0)],[],[]⟩,⟨1,51071,1,[(1,(8,0))],[(1,0)],[],[]⟩,⟨1,51021,1,[(1,(8,0))],[(1,0)],[],[]⟩,⟨999999,0,0,[],[],[],[]⟩],pT⟩
theorem apY:aK ar1 al9 400 af 51=adF:=by kernel_rfl
def adG:ak:=
 (xh 2 0 4 1 (fK dq iJ (mA 52 1 1 1 2 (.nt jN (qM 53 (tJ 1 1 1 2) 4 (nL Ce Ce 0 (fE 2 (ly 54 (pA 0 0 1 1 (mM gq)) (.nt ie (.nt (lY .gtr iJ 0) (oR 55 zH rH (.bj (rJ iJ) (vV 1 zH (rJ iJ) (jU 7 (.nr (wR .leq xi dq))))) aU) aU) aU))) aU)) aU))))
def al_:bg:=⟨pQ,pR,pS,[⟨999999,0,0,[],[],[],[]⟩],pT⟩
theorem apZ:aK ar1 al_ 400 af 25=adG:=by kernel_rfl
def QZ:ak:=
 (lN BX 1 cb 1 bC 1 (jU 3 (w6 3 l6 jN .an (oU 1 4))) vb)
def Z3:ak:=
 (w7 QZ)
def ahQ:bg:=⟨pQ,pR,pS,[⟨1,56008,1,[(1,(8,0))],[(0,0)],[(0,2)],[]⟩,⟨999999,0,0,[],[],[],[]⟩],pT⟩
theorem ama:CF ar1 ahQ 400 56=Z3:=by kernel_rfl
def Q0:ak:=
 (yv 2 fj 1 dh 2 (nJ 3 (.sx 0 (.get 3 w8 jN .an)) (Cb 3 w8 jN (wS oP (fK (BU 2) (nE (BU 2)) (Wb (nE (BU 2)))) (vt 2)))) FK)
def Q1:ak:=
 (fK dh fj Q0)
def ahR:bg:=⟨pQ,pR,pS,[⟨3,57008008,2,[(3,(8,0))],[],[],[]⟩,⟨999999,0,0,[],[],[],[]⟩],pT⟩
theorem amb:HD ar1 ahR 400 57=Q1:=by kernel_rfl
end Go.Proofs.YtpfogalbnijcoaaGreat
