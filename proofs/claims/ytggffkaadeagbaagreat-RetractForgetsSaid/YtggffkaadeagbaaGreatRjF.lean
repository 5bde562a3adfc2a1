/- A part of the proof, no condition: what the code of the law and of the checks of the program computes. -/
import Derived.Test.YtggffkaadeagbaaGreatEvJ
import Derived.Test.YtggffkaadeagbaaGreatRuA
import Derived.Test.YtggffkaadeagbaaGreatEvP
open Go.Proofs.Tryz renaming prog->ar3
set_option linter.all false
namespace Go.Proofs.YtggffkaadeagbaaGreat
open Go Go.Ev
def yp:List Nat:=[123,127,126,186,189,44,79,30,102,9,10,23,31,15,257,149,89,148,198,147,199,50,191,71,214,93,163,49,152,64,164,158,95,108,206,250,213,130,131,107,129,155,34,90,51,202,153,201,200,151,203,150,204,154,91,41,67,101,99,109,157,210,12,26,28,25,14,19,100,40,39,70,69,35,53,52,68,42,58,98,96,75,211,136,83,192,85,11,24,27,22,13,29,61,36,33,32,84,47,143,46,190,66,87,45,138,133,88,128,249,121,78,183,256,156,16,17]
def yq:List Nat:=[48,118,216]
def yr:List Nat:=[185,188,254]
def yu:List Nat:=[155,159,103,173000080,500139,500140,500097,600086]
def Kc:af:=
 (tx 5 (va 2 10 mh (rf 1 1 1 1 1 4) (kW 3 3 ja (iC 16 bU (kW 4 4 ja (fV 14 mh (rf 1 1 1 1 1 4) (kW 5 5 ja (kU 17 (nj mh (rf 1 1 1 1 1 4) bU) (cB (H2 5 6 0) (gB 6) (rj (UM 6 2) (UM 6 2) (kU 15 .an (.nr gy)) (fV 22 (yY (ej 6 0) (ej 6 1) (nj (ej 6 2) (ej 6 3) (ej 6 4))) (gB 6) (BE 5 7 0 (ig (gB 7) (gB 7) (cB (.len (ej 6 0)) uR (.aG dE (fx (US dE) .eql (.len (ej 6 0)) (US dE) (fH 24 (yY (ej 7 0) (ej 7 1) (nj (ej 7 2) (ej 7 3) (ej 7 4))) 8 (fH 24 (rf 1 1 1 1 1 4) 9 (fV 23 kI gR (vc q_ (.aG (.len (ej 7 2)) (fx ie .eql (.len (ej 7 2)) ie (kU 15 .an (.nr ra)) aQ)))))) aQ))) aQ)))))))))))))
def aqp:aL:=⟨yp,yq,yr,[⟨999999,0,0,[],[],[],[]⟩],yu⟩
theorem ex8:aA ar3 aqp 400 false 8=Kc:=by kernel_rfl
def ac4:af:=
 (mc (rm bI .leq bI 5 (iC 44 aY (.nr bK))))
def amr:aL:=⟨yp,yq,yr,[⟨999999,0,0,[],[],[],[]⟩],yu⟩
theorem aqq:aA ar3 amr 400 false 16=ac4:=by kernel_rfl
def ac5:af:=
 (jJ 6 0 dS (cB jM (kC dS jM) (.aG (.dec 7 (kC dS jM) kX) (rE 2 40 (DN 2) me (vR 2 40 1 wL y_)))))
def ams:aL:=⟨yp,yq,yr,[⟨999999,0,0,[],[],[],[]⟩],yu⟩
theorem aqr:aA ar3 ams 400 false 85=ac5:=by kernel_rfl
def Th:af:=
 (lC 1 1 1 (xX bU .lss bU 1 (kK .gtr bU (.i 64) aQ (.nt (ni .gtr 1 0) (.aG (uA 1) (vP 1 aY (uA 1) (wD dz .geq dz bU aQ 0 1))) E_))) ja)
def ac6:af:=
 (uW Th)
def amt:aL:=⟨yp,yq,yr,[⟨0,96,2,[(0,(7,0))],[],[],[]⟩,⟨999999,0,0,[],[],[],[]⟩],yu⟩
theorem aqs:aA ar3 amt 400 false 96=ac6:=by kernel_rfl
def Zu:af:=
 (rm aY .geq aY 5 (.nr (q5 aY 12)))
def ahT:aL:=⟨yp,yq,yr,[⟨999999,0,0,[],[],[],[]⟩],yu⟩
theorem amu:aA ar3 ahT 400 false 143=Zu:=by kernel_rfl
def Ti:af:=
 (kB (fV 183 aY bK (cB bU (MC .geq bU) (wG (MC .geq bU)))))
def aew:aL:=⟨yp,yq,yr,[⟨999999,0,0,[],[],[],[]⟩],yu⟩
theorem ahU:aA ar3 aew 400 true 121=Ti:=by kernel_rfl
def Qh:af:=
 (lC 2 1 2 (eI 3 (pd 1 bK 2 (wD dO .neq dz dO Bz 0 2))) EX)
def Zv:af:=
 (EY (fx eg .neq bI eg Bz (y9 Qh)))
def ahV:aL:=⟨yp,yq,yr,[⟨0,78,4,[(0,(13,0))],[],[],[]⟩,⟨999999,0,0,[],[],[],[]⟩],yu⟩
theorem amv:aA ar3 ahV 400 true 78=Zv:=by kernel_rfl
end Go.Proofs.YtggffkaadeagbaaGreat
namespace Go.Proofs.YtggffkaadeagbaaGreat
open Go Go.Ev
def nW:List Nat:=[123,127,126,186,189,44,79,30,102,9,10,23,31,15,257,149,89,148,198,147,199,50,191,71,214,93,163,49,152,64,164,158,95,108,206,250,213,130,131,107,129,155,34,90,51,202,153,201,200,151,203,150,204,154,91,41,67,101,99,109,157,210,12,26,28,25,14,19,100,40,39,70,69,35,53,52,68,42,58,98,96,75,211,136,83,192,85,11,24,27,22,13,29,61,36,33,32,84,47,143,46,190,66,87,45,138,133,88,128,249,121,78,183,256,156]
def nX:List Nat:=[38,48,80,118,134,216]
def nY:List Nat:=[185,188,254]
def nZ:List Nat:=[155,159,103,173000080,500139,500140,500097,600086]
def LU:af:=
 (qw (qX 2) 4 s8 2 dz 4 (zl 6 46 6 6 (cB gy (.rws gy) (jo 1 8 5 gy 1 4 8))) (er 0 1 5))
def LV:af:=
 (kF gx 1 bI 1 aY 1 (cB dz s8 LU) (za s6))
def Kd:af:=
 (uW LV)
def aex:aL:=⟨nW,nX,nY,[⟨0,139,3,[(0,(3,0)),(0,(10,0))],[(0,0)],[],[]⟩,⟨0,139,6,[(0,(3,0)),(0,(16,0))],[(0,0)],[],[]⟩,⟨999999,0,0,[],[],[],[]⟩],nZ⟩
theorem ahW:pq ar3 aex 400 false 139=Kd:=by kernel_rfl
def LW:af:=
 (pP 3 dE 2 bU 3 (zl 4 46 4 4 (cB dy (.sub 1 dy (iA 5) bz) (gb 1 3))) E_)
def LX:af:=
 (lC 1 1 1 (cB bU dE LW) (.ret gx))
def Ke:af:=
 (uW LX)
def aey:aL:=⟨nW,nX,nY,[⟨0,139,3,[(0,(10,0))],[],[],[]⟩,⟨0,139,6,[(0,(16,0))],[],[],[]⟩,⟨999999,0,0,[],[],[],[]⟩,⟨999998,0,0,[],[],[],[]⟩],nZ⟩
theorem ahX:pq ar3 aey 400 true 139=Ke:=by kernel_rfl
def LY:af:=
 (qw (qX 2) 4 s8 3 dz 4 (kY 3 6 87 (ot 6 0 6 1 (qv 6 2)) (cB gy (.rws gy) (jo 1 8 5 gy 1 4 8))) (er 0 1 5))
def LZ:af:=
 (kF gx 1 bI 1 aY 1 (cB dz s8 LY) (za s6))
def Kf:af:=
 (uW LZ)
def aez:aL:=⟨nW,nX,nY,[⟨0,140,3,[(0,(3,0)),(0,(10,0))],[(0,0)],[],[]⟩,⟨0,140,6,[(0,(3,0)),(0,(16,0))],[(0,0)],[],[]⟩,⟨999999,0,0,[],[],[],[]⟩],nZ⟩
theorem ahY:pq ar3 aez 400 false 140=Kf:=by kernel_rfl
def L0:af:=
 (pP 3 dE 3 bU 3 (kY 3 4 87 (ot 4 0 4 1 (qv 4 2)) (cB dy (.sub 1 dy (iA 5) bz) (gb 1 3))) E_)
def L4:af:=
 (lC 1 1 1 (cB bU dE L0) (.ret gx))
def Kg:af:=
 (uW L4)
def aeA:aL:=⟨nW,nX,nY,[⟨0,140,3,[(0,(10,0))],[],[],[]⟩,⟨0,140,6,[(0,(16,0))],[],[],[]⟩,⟨999999,0,0,[],[],[],[]⟩,⟨999998,0,0,[],[],[],[]⟩],nZ⟩
theorem ahZ:pq ar3 aeA 400 true 140=Kg:=by kernel_rfl
def Tj:af:=
 (lC 3 2 3 (ab1 2 4 .eql 86 (ko bK bU) (wF 4 4) (.nr (EW 3)) 0 3) aQ)
def ac7:af:=
 (kB (cB bU bI Tj))
def amw:aL:=⟨nW,nX,nY,[⟨2,47012008,2,[(2,(8,0))],[],[],[]⟩,⟨999999,0,0,[],[],[],[]⟩],nZ⟩
theorem aqt:aA ar3 amw 400 false 47=ac7:=by kernel_rfl
def Tk:af:=
 (kF zd 2 pU 2 jL 2 (ve 4 83 (cW 4) (kW 5 5 (uz (.i 7) (vQ 0 (.i 7))) (kJ .geq 4 1 (sW (q5 (gQ 4) 6) (q5 (gQ 4) 6) (uz (.i 9) (vQ 0 (.i 9))) (.bind (pT (.get 86 tf (wF 4 4) xV)) (sW (UP 6) (UP 6) (uz (.i 8) (vQ 0 (.i 8))) (.bind (.ins 86 tf (wF 4 4) kX) (er 1 2 7))))) (uz (.i 9) (vQ 0 (.i 9)))))) (.aG dS (sW (q5 dS 40) (q5 dS 40) (uz (.i 6) (vQ 0 (.i 6))) (.next 0 pe))))
def Tl:af:=
 (pP 2 dS 6 me 2 (jy 6 3 (fV 84 jL (jN 3 3 3 3 3 3) (y6 dO .neq 31 dO bz (vS s6 dO) 0 2))) (vS bz bz))
def Tn:af:=
 (tj (te 1148 (.i 172) (.aG pU (sW (q5 pU 30) (q5 pU 30) (uz (.i 6) (vQ 0 (.i 6))) (.aG pU Tk)))) (.nt (rp8 .neq 31 1 0) (UL (Bu H4 1)) (.aG dS Tl)))
def V5:af:=
 (jy 2 0 Tn)
def amx:aL:=⟨nW,nX,nY,[⟨0,32,5,[(0,(15,0))],[],[],[]⟩,⟨2,32010000,3,[(2,(13,0))],[(2,0)],[],[]⟩,⟨0,32,1000008,[(0,(8,0))],[],[],[]⟩,⟨999999,0,0,[],[],[],[]⟩],nZ⟩
theorem aqu:aA ar3 amx 400 false 32=V5:=by kernel_rfl
def To:af:=
 (pP 2 dS 6 me 2 (kY 6 3 33 (jN 3 3 3 3 3 3) (lP 4 4 (qu 19) 0 2)) kD)
def ac8:af:=
 (ve 0 32 mh (.aG (wQ 1) (nb (gB 1) .neq 31 (gB 1) bz wP (.aG dS To))))
def amy:aL:=⟨nW,nX,nY,[⟨0,11,5,[(0,(17,0))],[],[],[]⟩,⟨999999,0,0,[],[],[],[]⟩],nZ⟩
theorem aqv:aA ar3 amy 400 false 11=ac8:=by kernel_rfl
def Tp:af:=
 (qw E8 6 (iA 5) 1 dy 6 (zb 8 (.ins 3 BJ kI .an) (er 1 6 9)) (er 0 2 7))
def Tq:af:=
 (sX (qX 5) 3 12 (.len (u7 1 7 1)) (yZ (.idx 1 (u7 1 7 1) E9) (.ins 3 nu (.CK 1 (u7 1 7 1) E9 0) .an) (er 2 12 14)) (er 1 4 13))
def Ts:af:=
 (qw E8 4 (DO 4) 3 (qN 0 4) 4 (mE (kV 3 6) .eql BI 1 (er 1 4 5) (pW 6 0 2 (er 1 4 5) (kJ .eql 6 0 (fH 87 (ot 6 0 6 1 (qv 6 2)) 7 (uQ 2222 q8 gy (y7 8 aQ (er 1 4 5)))) (pW 6 0 4 (uV 4 6 bz (xX (rp 7) .neq (cW 7) 1 (yZ (.qL 0 (.get 3 q8 (gQ 7) .an)) (.has 3 q8 (gQ 7)) (.test (.var 8) aQ (uV 4 6 (.i 1) (oM 4 9 88 9 9 9 9 (eI 10 (uQ 2222 q8 q_ (y7 11 aQ (cB (.rw (gQ 7)) (.len (u7 1 7 1)) Tq)))))))))) aQ)))) ja)
def Tt:af:=
 (kF zd 2 eg 2 bK 2 (zl 4 46 4 4 (cB dy (iA 5) Tp)) (.aG (DO 4) Ts))
def ac9:af:=
 (kY 6 0 85 (jN 0 0 0 0 0 0) (cB bK eg Tt))
def amz:aL:=⟨nW,nX,nY,[⟨0,33,8,[(0,(25,0))],[(1,0)],[],[]⟩,⟨0,33,3,[(0,(13,0))],[(1,0)],[],[]⟩,⟨1,33071,1,[(1,(8,0))],[(1,0)],[],[]⟩,⟨1,33021,1,[(1,(8,0))],[(1,0)],[],[]⟩,⟨999999,0,0,[],[],[],[]⟩],nZ⟩
theorem aqw:aA ar3 amz 400 false 33=ac9:=by kernel_rfl
def ac_:af:=
 (tx 4 (cB bU eE (iC 45 (ov 1 1 1 2) (vc dz (fH 46 (ov 1 1 1 2) 4 (ig BM BM (nf 2 (kU 47 (ot 0 0 1 1 (oH ie)) (vc dy (kK .gtr eE bz (iC 96 oK (vc eh (.aG (uX eE) (vP 1 oK (uX eE) (eI 7 (.nr (zU .leq gy bU))))))) aQ)))) aQ))))))
def amA:aL:=⟨nW,nX,nY,[⟨999999,0,0,[],[],[],[]⟩],nZ⟩
theorem aqx:aA ar3 amA 400 false 36=ac_:=by kernel_rfl
def Qi:af:=
 (kF zd 1 bI 1 aY 1 (zb 3 (.ins 3 s6 dz .an) (er 0 1 4)) y_)
def Zw:af:=
 (uW Qi)
def ah0:aL:=⟨nW,nX,nY,[⟨1,97008,1,[(1,(8,0))],[(0,0)],[(0,2)],[]⟩,⟨999999,0,0,[],[],[],[]⟩],nZ⟩
theorem amB:Cg ar3 ah0 400 97=Zw:=by kernel_rfl
def Qj:af:=
 (pP 2 eg 1 bK 2 (cB dz (.qL 0 (.get 3 (.var 0) dz .an)) (BH 3 (.var 0) dz (y7 4 (cB (EW 2) (sV (EW 2)) (wG (sV (EW 2)))) (BL 2)))) EX)
def Qk:af:=
 (cB bK eg Qj)
def ah1:aL:=⟨nW,nX,nY,[⟨3,86008008,2,[(3,(8,0))],[],[],[]⟩,⟨999999,0,0,[],[],[],[]⟩],nZ⟩
theorem amC:GR ar3 ah1 400 86=Qk:=by kernel_rfl
def Tu:af:=
 (qw (zR bz 1 3 (ou 7)) 8 dE 2 bU 8 (jJ 2 11 (.rw (uT .add pR)) (q6 4 72 10 4 (zR jK 11 0 (ko (gQ 11) (sZ 1 (uT .add pR)))) (oJ 9 (Bt 2 8 (BB 9 12))))) (UL (yY (zR eX 1 1 (nj wK jK (uT .add pR))) (uT .add pR) pe)))
def Tv:af:=
 (tj (.two th (vQ 2 oA) (rE 4 72 oA th (uS 2 7))) (.aG dE Tu))
def Tw:af:=
 (pP 6 dE 2 bU 6 (jJ 2 7 (kH 7) (kU 47 (ot 0 0 7 0 (oH (kH 7))) (lP 8 8 (wJ 7) 1 6))) (.aG (uT .add pR) Tv))
def Kh:af:=
 (pP 5 dE 2 bU 5 (zl 6 45 6 6 (kW 7 7 (wJ 2) (fH 46 (wF 6 6) 8 (oz (iA 8) .gtr (iA 8) (wJ 2) (BL 5))))) (.aG dE Tw))
def Cn:af:=
 (tx 5 (eI 2 (iC 11 mh (nb dz .neq 31 dz bz (abZ dz) (fV 13 mh (rf 1 1 1 1 1 4) (kW 4 4 (wJ 2) (jq .geq 1 4 64 (wJ 6) (mE dE .gtr dE 40 (wJ 6) (cB uR dE (fx (rh .sub 500 dE) .gtr uR (rh .sub 500 dE) (wJ 6) (cB uR kE (cB Bx dE (fx (rh .sub 5000 dE) .gtr Bx (rh .sub 5000 dE) (wJ 6) (.aG dE (fx (rh .sub 2147483648 dE) .gtr oK (rh .sub 2147483648 dE) (wJ 6) (.aG dE Kh))))))))))))))))
def amD:aL:=⟨nW,nX,nY,[⟨0,17,27,[(0,(104,0))],[(3,3),(3,0),(1,3),(1,0)],[(0,100)],[]⟩,⟨0,17,1000100,[(0,(100,0))],[(3,3),(3,0)],[],[]⟩,⟨0,17,19,[(0,(79,0))],[],[],[]⟩,⟨0,17,13,[(0,(62,0))],[],[],[]⟩,⟨999999,0,0,[],[],[],[]⟩],nZ⟩
theorem aqy:aA ar3 amD 400 false 17=Cn:=by kernel_rfl
end Go.Proofs.YtggffkaadeagbaaGreat
