/- A part of the proof, no condition: what the code of the checks of the reference computes. -/
import Derived.Test.YtpfogalbnijcoaaGreatEvJ
import Derived.Test.YtpfogalbnijcoaaGreatRuA
open Go.Proofs.Tryz renaming prog->ar1
open Bool renaming true->ab,false->af
set_option linter.all false
namespace Go.Proofs.YtpfogalbnijcoaaGreat
open Go Go.Ev
def cQ:List Nat:=[209,280,208,250,295,22,23,8,49,4,9,272,199,118,198,240,197,241,62,249,122,206,61,202,101,123,125,177,248,247,124,205,59,119,63,244,203,243,242,201,245,200,246,204,120,36,68,64,126,207,33,17,121,66,35,34,67,60,65,37,256,257,227,281,279,187,29,234]
def cR:List Nat:=[11,193,277,226,318,261,225]
def cS:List Nat:=[238]
def cT:List Nat:=[205]
def TL:ak:=
 (ga k_ 7 k_ (lh 4 1 7 4 8 (ly 37 (pA 1 2 8 0 (mM Ej)) (rZ jm .neq jm 1 (lh 4 1 7 4 10 (ly 37 (pA 1 2 10 0 FO) (yp 11 (lY .gtr zO 1) aU 2 3 7 1)))))) iF)
def TM:ak:=
 (ga vi 6 vi (lh 4 0 6 4 7 (ly 36 (tJ 1 1 7 0) (mq (wZ 4 8 0) (jO 8) aU (lh 4 0 6 4 9 (ly 37 (pA 1 2 9 0 FO) (yp 10 (lY .gtr zN 1) aU 1 3 6 1)))))) TL)
def TN:ak:=
 (ga gq 5 gq (lh 6 2 5 6 6 (ly 35 (zA rL (rF 1 1 1 1 1 4) (mM (oS 6 6 6 6 6 6))) (lP 7 7 aU 0 5))) TM)
def WL:ak:=
 (xh 2 0 5 1 (mA 33 0 0 0 1 (mq dq (BQ .neq 70 dq 0) aU (tM .lss 1 3 1 aU .gtr 1 3 2147483648 aU (tM .lss 1 4 0 aU .gtr 1 4 64 aU (fD gq gq 5000 (fK vi k_ (fD (mz vi k_) (mz vi k_) 5000 (ly 34 (zA rL (rF 1 1 1 1 1 4) (qN 1 0)) (kh 3 3 (ly 34 (zA rL (rF 1 1 1 1 1 4) (qN 1 1)) (kh 4 4 TN))))))))))))
def akO:bg:=⟨cQ,cR,cS,[⟨0,17,17,[(0,(9,0))],[],[],[]⟩,⟨0,17,11,[(0,(6,0))],[],[],[]⟩,⟨0,17,6,[(0,(5,0))],[],[],[]⟩],cT⟩
theorem aph:aK ar1 akO 400 af 17=WL:=by kernel_rfl
def TO:ak:=
 (ga gi 2 gi (yr 6 0 1 2 6 3 (qb 60 (oS 3 3 3 3 3 3) 4 4 (jV 19) 0 2)) ru)
def WM:ak:=
 (jP 2 (mA 59 0 0 0 1 (.bj (w_ 1) (tG (jO 1) .neq (jO 1) 0 w9 TO))))
def akP:bg:=⟨cQ,cR,cS,[⟨0,33,5,[(0,(5,0))],[],[],[]⟩],cT⟩
theorem api:aK ar1 akP 400 af 33=WM:=by kernel_rfl
def TP:ak:=
 (ga gi 2 gi (yr 6 0 1 2 6 3 (qP 119 tT (oS 3 3 3 3 3 3) (yp 4 (BQ .neq 70 iN 0) (yq l6 iN) 1 3 2 1))) (yq dg dg))
def TQ:ak:=
 (ga xc 1 xc (yr 2 0 0 1 2 2 (ja 118 (fe 2) (Aq 3 3 (B_ (.i 7)) (tM .lss 2 1 0 (B_ (.i 9)) .gtr 2 1 6 (B_ (.i 9)) (rI 2 tT (.var 1) (qL 63 (Ek oP 2 0 (qN 2 1)) (.nt ie (B_ (.i 8)) (vt 1)))))))) (rK gi gi 40 (B_ (.i 6)) TP))
def WN:ak:=
 (jP 2 (rK xc xc 30 (B_ (.i 6)) TQ))
def akQ:bg:=⟨cQ,cR,cS,[⟨0,59,16,[(0,(6,0))],[],[],[]⟩,⟨0,59,4,[(0,(4,0))],[],[],[]⟩],cT⟩
theorem apj:aK ar1 akQ 400 af 59=WN:=by kernel_rfl
def adf:ak:=
 (tO (oR 197 bC dh (.bj (II dg) (oR 198 (II dg) dq (qM 199 bC 3 (.nr (tH 3))) aU)) aU))
def akR:bg:=⟨cQ,cR,cS,[],cT⟩
theorem apk:aK ar1 akR 400 af 118=adf:=by kernel_rfl
def Qm:ak:=
 (ga tK 1 tK (.bj rC (qb 198 rC 2 2 (.bj rC (qb 240 rC 3 3 (mq rC (u7 .lss 5 rC 48) (nH rC (u7 .neq 5 rC 95) aU 0 3 1 1) (nH rC (u7 .gtr 5 rC 57) (nH rC (u7 .neq 5 rC 95) aU 0 3 1 1) 0 3 1 1)) 0 1)) 0 1)) (tG tK .geq tK 1 (.bj tK (.nr (tV tK 40))) aU))
def Y5:ak:=
 (tO Qm)
def agV:bg:=⟨cQ,cR,cS,[⟨0,197,2,[(0,(3,0))],[],[],[]⟩],cT⟩
theorem akS:aK ar1 agV 400 af 197=Y5:=by kernel_rfl
def Y6:ak:=
 (mq bC (V_ .geq 5 97) (.nr (Wa 5 122)) aU)
def agW:bg:=⟨cQ,cR,cS,[],cT⟩
theorem akT:aK ar1 agW 400 af 198=Y6:=by kernel_rfl
def Y7:ak:=
 (mq bC (V_ .geq 5 65) (.nr (Wa 5 90)) aU)
def agX:bg:=⟨cQ,cR,cS,[],cT⟩
theorem akU:aK ar1 agX 400 af 240=Y7:=by kernel_rfl
def Y8:ak:=
 (mq bC (tI 9 bC (.s [99,111,110,115,116,114,97,105,110,116])) iF (IK [116,114,117,101] [102,97,105,108] (IK [105,115] [105,110,116] (.nr (tI 9 bC (.s [103,114,111,117,110,100]))))))
def agY:bg:=⟨cQ,cR,cS,[],cT⟩
theorem akV:aK ar1 agY 400 af 199=Y8:=by kernel_rfl
def TR:ak:=
 (jM cb 3 cb 2 bC 3 (qd 2 4 9 4 dh (gn 2 bC 3 (u5 2 5 (lO (jI 5) dq) iF 0 3 3 1)) 0 3 3 1) aU)
def adg:ak:=
 (ry (jU 2 TR))
def akW:bg:=⟨cQ,cR,cS,[⟨0,63,2,[(0,(7,0))],[],[],[]⟩],cT⟩
theorem apl:aK ar1 akW 400 af 63=adg:=by kernel_rfl
def TS:ak:=
 (jM (kf 6) 7 (kf 6) 1 rH 7 (vu 8 .neq oT mB w9 2 3 7 1) (lM (kf 6) .neq (vU 1 5) (kf 6) w9 (.nt (zz .neq 9 Cc zQ) (ja 118 Cc (Aq 8 8 (jV 7) (qP 204 bC (oS 1 1 1 1 1 1) (.nr jm)))) (qP 204 bC (oS 1 1 1 1 1 1) (.nr oT)))))
def TT:ak:=
 (ga tL 5 tL (nG 3 jN 5 3 6 (qb 202 (pA 6 0 6 1 (qN 6 2)) 7 7 w9 1 5)) (vw 203 1 1 1 1 1 1 6 TS))
def TU:ak:=
 (ga mC 4 mC (nG 2 dq 4 2 5 (mA 61 5 0 5 1 (lP 6 6 w9 0 4))) TT)
def adh:ak:=
 (Pj (jt 6 1) (vw 200 1 1 1 1 1 1 2 (vw 201 1 1 1 1 1 1 3 (nL mC mC 0 (jV 6) (rK mC mC 4 (jV 6) (rK iJ iJ 12 (jV 6) (rK tS tS 12 (jV 6) TU)))))))
def akX:bg:=⟨cQ,cR,cS,[⟨0,119,17,[(0,(10,0))],[],[],[]⟩,⟨0,119,11,[(0,(8,0))],[],[],[]⟩,⟨0,119,6,[(0,(7,0))],[],[],[]⟩],cT⟩
theorem apm:aK ar1 akX 400 af 119=adh:=by kernel_rfl
def Y9:ak:=
 (jP 6 (nI 2 40 (Kt 2) my (l5 2 40 1 vf vb)))
def agZ:bg:=⟨cQ,cR,cS,[],cT⟩
theorem akY:aK ar1 agZ 400 af 200=Y9:=by kernel_rfl
def Y_:ak:=
 (jP 6 (nI 3 48 (Kt 3) (rG 0) (l5 3 48 1 (rM 0) vb)))
def ag0:bg:=⟨cQ,cR,cS,[],cT⟩
theorem akZ:aK ar1 ag0 400 af 201=Y_:=by kernel_rfl
def adi:ak:=
 (jP 2 (oR 118 tT dh (tG gi .leq gi 6 (ja 124 my (.nr dq)) aU) aU))
def ak0:bg:=⟨cQ,cR,cS,[],cT⟩
theorem apn:aK ar1 ak0 400 af 61=adi:=by kernel_rfl
def Qn:ak:=
 (jJ dg cb 1 cb (qf 4 1 4 3 (ja 206 (iK 3 3 3 3) (kh 4 4 (qf 4 1 4 5 (zP 101 (iK 5 5 5 5) 6 (FL rH) (wY 0 1 (FL rH))))))) (.nr (Ao .leq 2 200)))
def Za:ak:=
 (tO Qn)
def ag1:bg:=⟨cQ,cR,cS,[⟨0,124,3,[(0,(3,0)),(0,(4,0))],[],[],[]⟩],cT⟩
theorem ak1:aK ar1 ag1 400 af 124=Za:=by kernel_rfl
def Zb:ak:=
 (jP 4 (oR 248 (iK 0 0 0 0) dh (ja 101 (iK 0 0 0 0) (tG dq .leq dq 200 (vm 249 0 0 0 0 3 (.nr (tV jN 20))) aU)) aU))
def ag2:bg:=⟨cQ,cR,cS,[],cT⟩
theorem ak2:aK ar1 ag2 400 af 206=Zb:=by kernel_rfl
def CM:ak:=
 (ga oQ 3 oQ (yr 4 0 3 3 4 4 (qb 248 (iK 4 4 4 4) 5 5 aU 0 3)) iF)
def HF:ak:=
 (ga oQ 2 oQ (yr 4 0 3 2 4 3 (qb 248 (iK 3 3 3 3) 4 4 aU 0 2)) iF)
def Qo:ak:=
 (ga oQ 3 oQ (yr 4 0 3 3 4 4 (qb 248 (iK 4 4 4 4) 5 5 aU 0 3)) iF)
def Zc:ak:=
 (nL (jt 4 0) tT 0 (oW .geq 1 (-2147483648) (oW .leq 1 2147483648 (We vf (lZ 0 3 (.nr (va oQ 0)))))) (tM .eql 0 0 1 (oW .geq 1 0 (oW .leq 1 1048576 (We vf (lZ 0 3 (.nr (va oQ 0)))))) .eql 0 0 2 (oR 272 vf dh (lZ 0 3 (rZ (va oQ 2) .neq my 0 (wS (va oQ 2) (ja 118 vf (Ht dq 2 aU (fD oQ oQ 6 CM))) HF))) (uN .neq 0 1 0 aU (ja 118 vf (Ht dq 2 aU (fD oQ oQ 6 Qo))))) aU))
def ag3:bg:=⟨cQ,cR,cS,[⟨0,248,11,[(0,(4,0))],[],[],[]⟩],cT⟩
theorem ak3:aK ar1 ag3 400 af 248=Zc:=by kernel_rfl
def Zd:ak:=
 (mq bC (tI 9 bC (.s [43])) iF (IK [45] [42] (NI [47] (.nr (tI 9 bC (.s [37]))))))
def ag4:bg:=⟨cQ,cR,cS,[],cT⟩
theorem ak4:aK ar1 ag4 400 af 272=Zd:=by kernel_rfl
def Qp:ak:=
 (jJ dg fj 2 fj (nG 4 dh 2 4 4 (zP 249 (iK 4 4 4 4) 5 (qa (.mx ab qc ie)) (wY 0 2 (qa (.mx ab qc ie))))) (.nr (rz 3)))
def Ze:ak:=
 (jP 4 (vm 177 0 0 0 0 1 Qp))
def ag5:bg:=⟨cQ,cR,cS,[⟨0,249,4,[(0,(3,0)),(0,(5,0))],[],[],[]⟩],cT⟩
theorem ak5:aK ar1 ag5 400 af 249=Ze:=by kernel_rfl
def Zf:ak:=
 (nL (jt 3 0) tT 0 (mA 61 0 1 0 2 (.nr dh)) (FR (qM 241 tT 1 (mq jl (lO dh jl) (ja 124 vf (.nr dq)) aU))))
def ag6:bg:=⟨cQ,cR,cS,[],cT⟩
theorem ak6:aK ar1 ag6 400 af 202=Zf:=by kernel_rfl
def Zg:ak:=
 (nL bC bC 1 ru (.nt (va bC 2) ru (.nt (va bC 11) (jV 1) (.nt (va bC 12) (jV 1) (.nt (lY .gtr bC 2) (.nt (lY .lss bC 11) w9 (jV (-1))) (jV (-1)))))))
def ag7:bg:=⟨cQ,cR,cS,[],cT⟩
theorem ak7:aK ar1 ag7 400 af 241=Zg:=by kernel_rfl
def Qq:ak:=
 (jJ qc Ce 5 Ce (nG 3 iN 5 3 7 (l5 4 56 6 (rq 7) (IJ 5 8))) (qL 125 (mN 6) (.nr xi)))
def Qr:ak:=
 (jJ rE fj 2 fj (nG 2 dh 2 2 4 (l5 4 56 3 (jI 4) (oU 2 5))) (vw 201 0 0 0 0 0 0 4 Qq))
def Zh:ak:=
 (jP 6 (vw 200 0 0 0 0 0 0 1 Qr))
def ag8:bg:=⟨cQ,cR,cS,[⟨0,203,9,[(0,(3,0)),(0,(7,0))],[(1,3),(1,0)],[],[]⟩,⟨0,203,4,[(0,(3,0)),(0,(5,0))],[(1,3),(1,0)],[],[]⟩],cT⟩
theorem ak8:aK ar1 ag8 400 af 203=Zh:=by kernel_rfl
def Qs:ak:=
 (jJ e_ cb 1 cb (gn 4 bC 1 (jW 4 3 (.rws l6) (oM 582 l6 (iK 3 3 3 3) (oU 1 4)))) vb)
def Js:ak:=
 (tO Qs)
def Zi:bg:=⟨cQ,cR,cS,[⟨0,125,3,[(0,(3,0)),(0,(4,0))],[(0,0)],[],[]⟩],cT⟩
theorem ak9:aK ar1 Zi 400 af 125=Js:=by kernel_rfl
def Qt:ak:=
 (Pa (nH (kf 11) (Kr 12 (kf 11)) (gn 1 zO 12 (vl 13 246 oT (gC 13) (lP 14 14 (jV 17) 4 12))) 3 3 9 1))
def Qu:ak:=
 (ga iJ 9 iJ (lh 3 3 9 3 10 (qM 122 (pA 10 0 10 1 (qN 10 2)) 11 Qt)) ru)
def Qv:ak:=
 (ga tS 7 tS (lh 3 4 7 3 8 (oR 244 (fe 8) jm (jV 10) (kg 2 7))) (vw 245 1 1 1 1 1 1 8 Qu))
def Qw:ak:=
 (ga iJ 6 iJ (lh 3 3 6 3 7 (qb 244 (fe 7) 8 8 (gn 3 zH 6 (u5 3 9 (Pb .neq 9 0 1) (jV 10) 1 3 6 1)) 1 6)) Qv)
def Qx:ak:=
 (ga mC 3 mC (nG 2 dq 3 2 4 (gn 2 dq 3 (jW 2 5 (nK 5) (vq 242 4 0 (nK 5) (yp 6 (BQ .neq 70 rH 0) (.ret rH) 0 3 3 1))))) (vw 201 1 1 1 1 1 1 4 (qP 243 bC iN (mq ie (BQ .neq 70 ie 0) (.ret ie) Qw))))
def Zj:ak:=
 (Pj (jt 6 1) (vw 200 1 1 1 1 1 1 2 Qx))
def ag9:bg:=⟨cQ,cR,cS,[⟨0,204,23,[(0,(12,0))],[],[],[]⟩,⟨0,204,27,[(0,(14,0))],[],[],[]⟩,⟨0,204,17,[(0,(10,0))],[],[],[]⟩,⟨0,204,12,[(0,(9,0))],[],[],[]⟩,⟨0,204,3,[(0,(6,0))],[],[],[]⟩],cT⟩
theorem ak_:aK ar1 ag9 400 af 204=Zj:=by kernel_rfl
def Qy:ak:=
 (jJ (.i 7) cb 3 cb (gn 2 bC 3 (pB (jt 2 5) (acR 9 5 dh) (wY 0 3 (.i 9)) 0 3 3 1 (mN 4))) (ly 63 (zA bC dh (mM dq)) (.nt ie ru (.ret oP))))
def Zk:ak:=
 (ry (jU 2 Qy))
def ag_:bg:=⟨cQ,cR,cS,[⟨0,242,3,[(0,(7,0)),(0,(8,0))],[],[],[]⟩],cT⟩
theorem ala:aK ar1 ag_ 400 af 242=Zk:=by kernel_rfl
def Qz:ak:=
 (jM fj 2 fj 3 dh 2 (tG (jt 3 3) .neq (fe 3) 0 (vt 2) (nG 3 dh 2 3 4 (gn 3 dh 2 (jW 3 5 (gM 5) (vq 242 4 1 (gM 5) (yp 6 (BQ .neq 70 rH 0) (.ret rH) 0 3 2 1)))))) ru)
def Zl:ak:=
 (ry Qz)
def aha:bg:=⟨cQ,cR,cS,[⟨0,243,2,[(0,(5,0))],[],[],[]⟩],cT⟩
theorem alb:aK ar1 aha 400 af 243=Zl:=by kernel_rfl
def Zm:ak:=
 (tG bC .geq bC 5 (.nr (tV bC 12)) aU)
def ahb:bg:=⟨cQ,cR,cS,[],cT⟩
theorem alc:aK ar1 ahb 400 af 244=Zm:=by kernel_rfl
def QA:ak:=
 (jJ rE fj 2 fj (nG 2 dh 2 2 4 (l5 4 56 3 (jI 4) (oU 2 5))) (qL 125 (mN 3) (.nr iN)))
def Zn:ak:=
 (jP 6 (vw 200 0 0 0 0 0 0 1 QA))
def ahc:bg:=⟨cQ,cR,cS,[⟨0,245,4,[(0,(3,0)),(0,(5,0))],[(1,3),(1,0)],[],[]⟩],cT⟩
theorem ald:aK ar1 ahc 400 af 245=Zn:=by kernel_rfl
def adj:ak:=
 (jP 3 (ja 125 vf (.nr dh)))
def ale:bg:=⟨cQ,cR,cS,[],cT⟩
theorem apo:aK ar1 ale 400 af 122=adj:=by kernel_rfl
def QB:ak:=
 (jM cb 2 cb 1 bC 2 (yp 3 (lO jN dh) iF 0 3 2 1) aU)
def Zo:ak:=
 (ry QB)
def ahd:bg:=⟨cQ,cR,cS,[⟨0,246,2,[(0,(5,0))],[],[],[]⟩],cT⟩
theorem alf:aK ar1 ahd 400 af 246=Zo:=by kernel_rfl
def adk:ak:=
 (jP 6 (nI 2 40 (Kt 2) my (l5 2 40 1 vf vb)))
def alg:bg:=⟨cQ,cR,cS,[],cT⟩
theorem apq:aK ar1 alg 400 af 120=adk:=by kernel_rfl
def adl:ak:=
 (jP 2 (ja 125 my (.nr dh)))
def alh:bg:=⟨cQ,cR,cS,[],cT⟩
theorem apr:aK ar1 alh 400 af 62=adl:=by kernel_rfl
def adm:ak:=
 (jW 4 0 (.rws e_) (oM 582 e_ (iK 0 0 0 0) (.ret (.var 1))))
def ali:bg:=⟨cQ,cR,cS,[],cT⟩
theorem aps:aK ar1 ali 400 af 123=adm:=by kernel_rfl
def TV:ak:=
 (jM mC 3 mC 4 dq 3 (rZ (jt 4 4) .lss (fe 4) 1 (.nt (wR .geq (fe 4) zH) aU (.nt (Ao .gtr 3 0) (.bj (pD 3 1) (vV 4 dq (pD 3 1) (lM (jt 4 5) .leq (fe 4) (fe 5) aU (mA 61 4 1 4 2 (kh 6 6 (qM 62 (tJ 4 1 4 2) 7 (fD (kf 7) (kf 7) 0 (lZ 4 2 (ly 63 (pA 0 0 4 1 (mM (gM 4))) (kh 8 8 (rZ vh .eql vh 0 (ja 64 FW (kh 9 9 (vV 1 FW dg (rZ zN .lss zN 1 (fK vh (rJ vh) (vV 1 FW (rJ vh) (vu 11 .gtr zO (rM 1) aU 0 3 3 1)))))))))))))))))) (mA 61 4 1 4 2 (kh 5 5 (qM 62 (tJ 4 1 4 2) 6 (fD (kf 6) (kf 6) 0 (lZ 4 2 (ly 63 (pA 0 0 4 1 (mM (gM 4))) (kh 7 7 (rZ vh .eql vh 0 (ja 64 FW (kh 8 8 (vV 1 FW dg (rZ jm .lss jm 1 (fK vh (rJ vh) (vV 1 FW (rJ vh) (vu 10 .gtr zN (rM 1) aU 0 3 3 1)))))))))))))))))) iF)
def WO:ak:=
 (xh 2 0 5 1 (jU 2 TV))
def alj:bg:=⟨cQ,cR,cS,[⟨0,34,2,[(0,(7,0))],[],[],[]⟩],cT⟩
theorem apt:aK ar1 alj 400 af 34=WO:=by kernel_rfl
def TX:ak:=
 (jM cb 1 cb 1 bC 1 (rZ dq .lss dq 1 (gn 1 bC 1 (fD jN jN 64 (.nt (Ao .gtr 1 0) (gn 1 bC 1 (nJ 4 (pD 1 1) (vV 1 bC (pD 1 1) (vu 5 .leq iN ie aU 0 3 1 1)))) (vt 1))))) iF)
def adn:ak:=
 (tO TX)
def alk:bg:=⟨cQ,cR,cS,[⟨0,64,2,[(0,(3,0))],[],[],[]⟩],cT⟩
theorem apu:aK ar1 alk 400 af 64=adn:=by kernel_rfl
def TY:ak:=
 (jM oO 11 oO 1 (rG 2) 11 (vl 12 66 (rF 1 1 1 1 1 4) (gC 12) (.bj (wZ 4 13 0) (u6 (jO 13) (jO 13) aU (ly 65 (Ek (lg 13 3) 2 5 .an) (lP 14 14 aU 2 11))))) iF)
def TZ:ak:=
 (jM wX 10 wX 1 (rq 2) 10 (vl 11 36 wV zO (.bj (wZ 4 12 0) (nH (jO 12) (nE (jO 12)) aU 1 3 10 1))) TY)
def F7:ak:=
 (jJ rE rB 6 rB (gn 1 vg 6 (vl 8 66 (rF 1 1 1 1 1 4) oT (.bj (wZ 4 9 0) (u6 (jO 9) (jO 9) aU (rI 1 vg jk (gn 1 vg 6 (jU 11 (oM 67 jj zO (.nt (gC 12) aU (tP 4 72 7 4 (tU (lg 9 0) (lg 9 1) (lg 9 2) (lg 9 3)) (oU 6 13))))))))))) (qL 68 (mN 7) (vl 8 65 (vU 2 5) oT (kh 9 9 TZ))))
def aeH:ak:=
 (jM oO 11 oO 1 (rG 2) 11 (vl 12 66 (rF 1 1 1 1 1 4) (gC 12) (.bj (wZ 4 13 0) (u6 (jO 13) (jO 13) aU (ly 65 (Ek (lg 13 3) 2 5 .an) (lP 14 14 aU 2 11))))) iF)
def aeI:ak:=
 (jM wX 10 wX 1 (rq 2) 10 (vl 11 36 wV zO (.bj (wZ 4 12 0) (nH (jO 12) (nE (jO 12)) aU 1 3 10 1))) aeH)
def T0:ak:=
 (jJ rE rB 6 rB (gn 1 vg 6 (vl 8 66 (rF 1 1 1 1 1 4) oT (.bj (wZ 4 9 0) (u6 (jO 9) (jO 9) aU (rI 1 vg jk (gn 1 vg 6 (jU 11 (oM 67 jj zO (.nt (gC 12) aU (tP 4 72 7 4 (tU (lg 9 0) (lg 9 1) (lg 9 2) (lg 9 3)) (oU 6 13))))))))))) (qL 68 (mN 7) (vl 8 65 (vU 2 5) oT (kh 9 9 aeI))))
def WQ:ak:=
 (xh 2 0 5 1 (rZ (jt 6 2) .lss (fe 2) 0 (lM gi .geq (fe 2) gi aU (vV 6 my (fe 2) (jW 6 3 rB (fK (nK 3) (gM 3) (lM (mz (nK 3) (gM 3)) .neq rB (mz (nK 3) (gM 3)) aU (lZ 3 1 (yu 1 vg (nK 3) rB (oM 65 (rq 2) oP (kh 5 5 (FP 2 (fD oO oO 0 (fD oO oO 12 F7)) (fD oO oO 12 T0)))))))))))))
def alm:bg:=⟨cQ,cR,cS,[⟨0,35,8,[(0,(8,0)),(0,(9,0))],[(4,3),(4,0)],[],[]⟩,⟨0,35,23,[(0,(15,0))],[],[],[]⟩,⟨0,35,17,[(0,(12,0))],[],[],[]⟩],cT⟩
theorem apv:aK ar1 alm 400 af 35=WQ:=by kernel_rfl
def Zp:ak:=
 (jW 5 0 dh (qP 36 tT dh (mq (wZ 4 2 0) (jO 2) (yq (tU (lg 2 0) (lg 2 1) (lg 2 2) (lg 2 3)) pC) (qP 36 my dh (fK (wZ 4 3 0) (jO 3) (yq (tU (lg 3 0) (lg 3 1) (lg 3 2) (lg 3 3)) (jO 3)))))))
def ahe:bg:=⟨cQ,cR,cS,[],cT⟩
theorem aln:aK ar1 ahe 400 af 66=Zp:=by kernel_rfl
def T1:ak:=
 (jM cb 2 cb 4 bC 2 (qd 4 3 3 3 dh (qf 4 2 4 4 (yq (iK 4 4 4 4) pC)) 0 3 2 1) (yq (tU dg zQ rE e_) Ej))
def ado:ak:=
 (ry T1)
def alo:bg:=⟨cQ,cR,cS,[⟨0,36,2,[(0,(6,0))],[],[],[]⟩],cT⟩
theorem apw:aK ar1 alo 400 af 36=ado:=by kernel_rfl
def T2:ak:=
 (Pc oP (pB zJ (Kr 7 zJ) (gn 1 (rG 6) 7 (pB jm (lO jm dh) (u_ 8 (wY 1 7 (rz 8))) 1 3 7 1 (mN 8))) 0 3 3 1 (mN 8)))
def T3:ak:=
 (Pc oP (pB (gM 5) (Kr 6 (gM 5)) (gn 1 (rq 5) 6 (pB oT (lO oT dh) (u_ 7 (wY 1 6 (rz 7))) 1 3 6 1 (mN 7))) 0 3 3 1 (mN 7)))
def T4:ak:=
 (jJ dg cb 3 cb (qf 6 3 6 5 (.test dq (qf 6 3 6 6 T2) T3)) (.ret oP))
def adp:ak:=
 (ry (jU 2 T4))
def alp:bg:=⟨cQ,cR,cS,[⟨0,37,3,[(0,(7,0)),(0,(8,0))],[],[],[]⟩,⟨0,37,9,[(0,(7,0)),(0,(10,0))],[],[],[]⟩],cT⟩
theorem apx:aK ar1 alp 400 af 37=adp:=by kernel_rfl
def Zq:List Nat:=[209,280,208,250,295,22,23,8,49,4,9,272,199,118,198,240,197,241,62,249,122,206,61,202,101,123,125,177,248,124,205,59,119,63,244,203,243,242,201,245,200,246,204,120,36,68,64,126,207,33,17,66,35,34,60,65,37,256,257,227,281,279,187,29,234]
def Zr:List Nat:=[121,67,247]
def Zs:List Nat:=[238]
def Zt:List Nat:=[205]
def HG:ak:=
 (ga (.len w8) 2 (.len w8) (nH (zD w8 l6) (lO (.Ea 1 w8 l6 0) wV) (tQ 0) 1 3 2 1) (BS 0))
def HH:ak:=
 (jJ qc Ce 5 Ce (gn 4 iN 5 (jW 4 7 (.rws jk) (oM 582 jk (iK 7 7 7 7) (oU 5 8)))) (zF jk))
def HI:ak:=
 (jJ w8 tL 4 tL (gn 4 jN 4 (jW 4 6 (.rws ej) (oM 582 ej (iK 6 6 6 6) (oU 4 7)))) (zF ej))
def QC:ak:=
 (vc HG l6 (wm wV (l5 1 8 0 (oV 1 1) (vm 177 1 1 1 1 4 HH))) (vm 177 1 1 1 1 3 HI))
def HJ:ak:=
 (jJ w8 mC 3 mC (gn 4 dq 3 (jW 4 5 (.rws oP) (oM 582 oP (iK 5 5 5 5) (oU 3 6)))) (zF oP))
def Zu:ak:=
 (nL (jt 4 1) Cc 1 QC (vm 177 1 1 1 1 2 HJ))
def ahf:bg:=⟨Zq,Zr,Zs,[⟨0,205,5,[(0,(6,0))],[(0,3),(0,0)],[(0,21),(0,11)],[]⟩,⟨0,205,1000014,[(0,(14,0))],[],[],[]⟩,⟨1,205015,2,[(1,(5,0))],[],[],[]⟩],Zt⟩
theorem alq:xG ar1 ahf 400 1 205=Zu:=by kernel_rfl
def T5:ak:=
 (ga jG 10 jG (nH (zK jj) (wT ej 10 jm) (tQ 4) 5 3 10 1) jL)
def aeJ:ak:=
 (vc T5 jj (BS 2) (kg 3 8))
def T6:ak:=
 (jM (kf 7) 8 (kf 7) 1 xi 8 (jU 9 aeJ) (tQ 2))
def aeK:ak:=
 (ga jG 11 jG (nH (zK jK) (wT ej 11 (jI 10)) (tQ 2) 3 3 11 1) (BS 2))
def aeL:ak:=
 (ga jG 16 jG (nH (zK (.var 16)) (wT ej 16 (gC 15)) (tQ 4) 5 3 16 1) jL)
def aeM:ak:=
 (vc aeL (.var 16) (BS 2) (kg 3 14))
def aeN:ak:=
 (jM (kf 13) 14 (kf 13) 1 (gC 13) 14 (jU 15 aeM) (tQ 2))
def aeO:ak:=
 (vc aeN oN aU (vp 4 dg (jW 4 15 (.rw (jI 15)) (nI 1 8 ej (oV 15 1) (rA 16)))))
def aeP:ak:=
 (qe aeK (.test jK aU (vp 4 (.i 1) (wk 4 12 (vm 123 12 12 12 12 13 aeO)))))
def aeQ:ak:=
 (vc T6 jH aU (uN .eql 6 0 4 (vp 4 dg (rZ (jt 4 9) .neq (fe 9) 1 (vp 4 dg (wk 4 10 aeP)))) B8))
def QD:ak:=
 (ga jG 9 jG (nH (zK rD) (wT ej 9 (jI 8)) (tQ 2) 3 3 9 1) (BS 2))
def QE:ak:=
 (ga jG 14 jG (nH (zK oN) (wT ej 14 (gC 13)) (tQ 4) 5 3 14 1) jL)
def ab0:ak:=
 (vc QE oN (BS 2) (kg 3 12))
def QF:ak:=
 (jM (kf 11) 12 (kf 11) 1 zO 12 (jU 13 ab0) (tQ 2))
def ab1:ak:=
 (vc QF (.var 12) aU (vp 4 dg (jW 4 13 (.rw (jI 13)) (nI 1 8 ej (oV 13 1) (rA 14)))))
def ab2:ak:=
 (qe QD (.test rD aU (vp 4 (.i 1) (wk 4 10 (vm 123 10 10 10 10 11 ab1)))))
def QG:ak:=
 (jJ qc Cf 4 Cf (gn 3 (rM 0) 4 (rZ (jt 3 6) .eql vj 3 (tM .eql 6 0 0 (qM 122 (pA 6 0 6 1 (qN 6 2)) 7 aeQ) .eql 6 0 4 (vp 4 dg (rZ (jt 4 7) .neq (fe 7) 1 (vp 4 dg (wk 4 8 ab2)))) B8))) iF)
def QH:ak:=
 (jJ e_ fj 2 fj (nG 2 dh 2 2 4 (mA 62 4 0 4 1 (nJ 5 (.rws ie) (l5 1 8 3 ie (oU 2 6))))) QG)
def adq:ak:=
 (jP 6 (vw 120 0 0 0 0 0 0 1 QH))
def alr:bg:=⟨Zq,Zr,Zs,[⟨0,60,8,[(0,(6,0))],[(1,0)],[],[]⟩,⟨1,60076,2,[(1,(5,0))],[],[],[]⟩,⟨1,60076,1000017,[(1,(17,0))],[],[],[]⟩,⟨2,60076018,2,[(2,(5,0))],[],[],[]⟩,⟨0,60,1000066,[(0,(66,0))],[],[],[]⟩,⟨1,60067,2,[(1,(5,0))],[],[],[]⟩,⟨1,60047,2,[(1,(5,0))],[],[],[]⟩,⟨1,60047,1000017,[(1,(17,0))],[],[],[]⟩,⟨2,60047018,2,[(2,(5,0))],[],[],[]⟩,⟨0,60,4,[(0,(3,0)),(0,(5,0))],[(1,0)],[],[]⟩,⟨0,60,1000075,[(0,(75,0))],[],[],[]⟩,⟨0,60,1000046,[(0,(46,0))],[],[],[]⟩],Zt⟩
theorem apy:aK ar1 alr 400 af 60=adq:=by kernel_rfl
end Go.Proofs.YtpfogalbnijcoaaGreat
