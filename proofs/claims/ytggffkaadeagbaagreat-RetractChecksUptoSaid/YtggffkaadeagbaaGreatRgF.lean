/- A part of the proof, no condition: what the code of the checks of the reference computes. -/
import Derived.Test.YtggffkaadeagbaaGreatEvJ
import Derived.Test.YtggffkaadeagbaaGreatRuA
open Go.Proofs.Tryz renaming prog->aqD
set_option linter.all false
namespace Go.Proofs.YtggffkaadeagbaaGreat
open Go Go.Ev
def cN:List Nat:=[123,127,126,186,189,44,79,30,102,9,10,23,31,15,257,149,89,148,198,147,199,50,191,71,214,93,163,49,152,64,164,158,95,108,206,250,213,205,130,131,107,129,155,34,90,51,202,153,201,200,151,203,150,204,154,91,41,67,101,99,109,157,210,12,26,28,25,14,19,92,100,40,39,70,94,69,35,53,52,68,42,58,75,24,27,22,29,61,190,66,133,128,249,121,78,183]
def cO:List Nat:=[48,63,118,124,132,174,184,187,197,216,252,263,270,334]
def cP:List Nat:=[185,188,254]
def cQ:List Nat:=[155]
def S2:ab:=
 (oB ou 7 ou 4 qW 7 (q5 8 (sU 42 (GO 1 2 8 0 (jf Dz)) (oa jB .neq jB 1 a_ (lN 4 qW 7 (q5 10 (sU 42 (GO 1 2 10 0 (jf kZ)) (fe uJ uJ 1 (dT 2 7)))))))))
def S3:ab:=
 (fA E4 6 E4 4 A6 6 (q5 7 (aiT 41 1 1 7 0 (Xh (wq 4 8) (jC 8) a_ (lN 4 A6 6 (q5 9 (sU 42 (GO 1 2 9 0 (jf kZ)) (fe Br Br 1 (dT 1 6)))))))) S2)
def S4:ab:=
 (fA jA 5 jA 6 yF 5 (lO 6 6 (sU 40 (M8 nf (uy 1 1 1 2 1 3 1 4) (kN 6 6 6 2 6 3 6 4 6 5)) (uL 7 7 0 5))) S3)
def VP:ab:=
 (Bl 5 (kB 12 nf (yN dQ 31 dQ a_ (jS .lss 1 3 1 a_ (jS .gtr 1 3 2147483648 a_ (lE .lss 1 4 a_ (jS .gtr 1 4 64 a_ (fe jA jA 5000 (dI E4 ou (fe H8 H8 5000 (Fc 39 (Cu nf (uy 1 1 1 2 1 3 1 4) (DF 1 0)) 3 3 (Fc 39 (Cu nf (uy 1 1 1 2 1 3 1 4) (DF 1 1)) 4 4 S4))))))))))))
def aj1:bj:=⟨cN,cO,cP,[⟨0,14,17,[(0,(9,0))],[],[],[]⟩,⟨0,14,11,[(0,(6,0))],[],[],[]⟩,⟨0,14,6,[(0,(5,0))],[],[],[]⟩],cQ⟩
theorem aoh:aI aqD aj1 400 false 14=VP:=by kernel_rfl
def S5:ab:=
 (fA fc 2 fc 6 ng 2 (gi 6 3 35 (kN 3 3 3 2 3 3 3 4 3 5) (my 4 4 (ru 19) 0 2)) v8)
def VQ:ab:=
 (gi 2 0 34 nf (.aQ (wj 1) (we (jC 1) .neq (jC 1) Bf S5)))
def aj2:bj:=⟨cN,cO,cP,[⟨0,12,5,[(0,(5,0))],[],[],[]⟩],cQ⟩
theorem aoi:aI aqD aj2 400 false 12=VQ:=by kernel_rfl
def S6:ab:=
 (fA fc 2 fc 6 ng 2 (lO 6 3 (sX 90 pO (kN 3 3 3 2 3 3 3 4 3 5) (yN fz 31 fz (sY nc fz) (dT 1 2)))) (sY cH cH))
def S7:ab:=
 (fA tl 1 tl 2 pO 1 (gi 2 2 89 (dR 2) (qp 3 3 (Bj (.i 7)) (lE .lss 2 1 (Bj (.i 9)) (jS .gtr 2 1 6 (Bj (.i 9)) (abT 2 pO cH (.var 1) (gZ 51 (ub q3 2 0 (DF 2 1)) (.nt jI (Bj (.i 8)) uD))))))) (AW fc fc 40 (Bj (.i 6)) S6))
def VS:ab:=
 (lO 2 0 (AW tl tl 30 (Bj (.i 6)) S7))
def aj3:bj:=⟨cN,cO,cP,[⟨0,34,16,[(0,(6,0))],[],[],[]⟩,⟨0,34,4,[(0,(4,0))],[],[],[]⟩],cQ⟩
theorem aoj:aI aqD aj3 400 false 34=VS:=by kernel_rfl
def acj:ab:=
 (s8 (kB 147 bt (wk dy (.aQ (H7 cH) (kB 148 (H7 cH) (wk dQ (kC 149 bt 3 (.nr (sV g_)))))))))
def aj4:bj:=⟨cN,cO,cP,[],cQ⟩
theorem aok:aI aqD aj4 400 false 89=acj:=by kernel_rfl
def PJ:ab:=
 (wb s6 3 1 s6 (.aQ qZ (kB 148 qZ (my 2 2 (.aQ qZ (kB 198 qZ (my 3 3 (DB qZ .lss 5 qZ (k_ 48) (Vf qZ 5 qZ Fh a_ uD) (DB qZ .gtr 5 qZ (k_ 57) (Vf qZ 5 qZ Fh a_ uD) uD)) 0 1))) 0 1))) (tx s6 .geq s6 1 (.aQ s6 (.nr (q4 s6 40)))))
def Ye:ab:=
 (s8 PJ)
def af0:bj:=⟨cN,cO,cP,[⟨0,147,2,[(0,(3,0))],[],[],[]⟩],cQ⟩
theorem aj5:aI aqD af0 400 false 147=Ye:=by kernel_rfl
def Yf:ab:=
 (DB bt .geq 5 bt (k_ 97) (.nr (wm .leq 5 bt 122)) a_)
def af1:bj:=⟨cN,cO,cP,[],cQ⟩
theorem aj6:aI aqD af1 400 false 148=Yf:=by kernel_rfl
def Yg:ab:=
 (DB bt .geq 5 bt (k_ 65) (.nr (wm .leq 5 bt 90)) a_)
def af2:bj:=⟨cN,cO,cP,[],cQ⟩
theorem aj7:aI aqD af2 400 false 198=Yg:=by kernel_rfl
def Yh:ab:=
 (yD bt 9 bt (.s [99,111,110,115,116,114,97,105,110,116]) uc (H9 9 [116,114,117,101] 9 [102,97,105,108] (H9 9 [105,115] 9 [105,110,116] (.nr (OB .eql 9 bt (.s [103,114,111,117,110,100]))))))
def af3:bj:=⟨cN,cO,cP,[],cQ⟩
theorem aj8:aI aqD af3 400 false 149=Yh:=by kernel_rfl
def S8:ab:=
 (fA cj 3 cj 2 bt 3 (tq 2 4 9 4 dy (lN 2 bt 3 (vA (lM 2 5) (i_ 5) dQ uc yJ)) yJ) a_)
def ack:ab:=
 (qT (eZ 2 S8))
def aj9:bj:=⟨cN,cO,cP,[⟨0,51,2,[(0,(7,0))],[],[],[]⟩],cQ⟩
theorem aol:aI aqD aj9 400 false 51=ack:=by kernel_rfl
def S9:ab:=
 (fA (kA 6) 7 (kA 6) 1 jy 7 (rp th .neq th Bo Bf (dT 2 7)) (rp (kA 6) .neq (AX 5) (kA 6) Bf (abY .neq 9 1 0 (kB 89 A6 (qp 8 8 (ru 7) (sX 154 bt (kN 1 1 1 2 1 3 1 4 1 5) (.nr jB)))) (sX 154 bt (kN 1 1 1 2 1 3 1 4 1 5) (.nr th)))))
def S_:ab:=
 (fA tc 5 tc 3 g_ 5 (gi 3 6 152 (vW 6 0 6 1 6 2) (my 7 7 Bf 1 5)) (kC 153 (kN 1 1 1 2 1 3 1 4 1 5) 6 S9))
def Ta:ab:=
 (fA qq 4 qq 2 dQ 4 (A8 2 5 49 5 5 (my 6 6 Bf 0 4)) S_)
def acm:ab:=
 (OE (lM 6 1) (kC 150 (kN 1 1 1 2 1 3 1 4 1 5) 2 (kC 151 (kN 1 1 1 2 1 3 1 4 1 5) 3 (pM qq qq (ru 6) (AW qq qq 4 (ru 6) (AW fy fy 12 (ru 6) (AW tj tj 12 (ru 6) Ta)))))))
def aj_:bj:=⟨cN,cO,cP,[⟨0,90,17,[(0,(10,0))],[],[],[]⟩,⟨0,90,11,[(0,(8,0))],[],[],[]⟩,⟨0,90,6,[(0,(7,0))],[],[],[]⟩],cQ⟩
theorem aom:aI aqD aj_ 400 false 90=acm:=by kernel_rfl
def Yi:ab:=
 (lO 6 0 (nb 2 40 (GS 2) ng (lP 2 40 1 yL yG)))
def af4:bj:=⟨cN,cO,cP,[],cQ⟩
theorem aka:aI aqD af4 400 false 150=Yi:=by kernel_rfl
def Yj:ab:=
 (lO 6 0 (nb 3 48 (GS 3) (ju 0 3) (lP 3 48 1 (ju 0 4) yG)))
def af5:bj:=⟨cN,cO,cP,[],cQ⟩
theorem akb:aI aqD af5 400 false 151=Yj:=by kernel_rfl
def acn:ab:=
 (gi 2 0 89 pO (wk dy (tx fc .leq fc 6 (kB 107 ng (.nr dQ)))))
def akc:bj:=⟨cN,cO,cP,[],cQ⟩
theorem aon:aI aqD akc 400 false 49=acn:=by kernel_rfl
def PK:ab:=
 (jD cH cj 1 cj 4 bt 1 (oA 4 3 163 3 3 3 3 (AY 4 4 (lN 4 bt 1 (oA 4 5 158 5 5 5 5 (dI jy (E_ jy) (oz 0 1 (E_ jy))))))) (.nr (abU .leq 2 200)))
def Yk:ab:=
 (s8 PK)
def af6:bj:=⟨cN,cO,cP,[⟨0,107,3,[(0,(3,0)),(0,(4,0))],[],[],[]⟩],cQ⟩
theorem akd:aI aqD af6 400 false 107=Yk:=by kernel_rfl
def Yl:ab:=
 (oA 4 0 213 0 0 0 0 (wk dy (kB 158 (kO 0 0 0 0) (tx dQ .leq dQ 200 (kC 214 (kO 0 0 0 0) 3 (.nr (q4 g_ 20)))))))
def af7:bj:=⟨cN,cO,cP,[],cQ⟩
theorem ake:aI aqD af7 400 false 163=Yl:=by kernel_rfl
def BU:ab:=
 (oB lC 3 lC 4 (ju 0 3) 3 (oA 4 4 213 4 4 4 4 (uL 5 5 0 3)))
def G4:ab:=
 (oB lC 2 lC 4 (ju 0 3) 2 (oA 4 3 213 3 3 3 3 (uL 4 4 0 2)))
def PL:ab:=
 (oB lC 3 lC 4 (ju 0 3) 3 (oA 4 4 213 4 4 4 4 (uL 5 5 0 3)))
def Ym:ab:=
 (pM (tz 0) pO (jS .geq 0 1 (-2147483648) (jS .leq 0 1 2147483648 (tv 9 0 2 (.aQ lC (.nr (Fe lC))) a_) a_) a_) (q0 0 0 1 (lE .geq 0 1 (jS .leq 0 1 1048576 (tv 9 0 2 (.aQ lC (.nr (Fe lC))) a_) a_) a_) (q0 0 0 2 (kB 257 yL (.nt dy (.aQ lC (M9 (JV .eql lC 2) ng cH (uz (JV .eql lC 2) (te 89 yL 2 2 (fe lC lC 6 BU)) G4))) (lE .neq 0 1 a_ (te 89 yL 2 2 (fe lC lC 6 PL))))) a_)))
def af8:bj:=⟨cN,cO,cP,[⟨0,213,11,[(0,(4,0))],[],[],[]⟩],cQ⟩
theorem akf:aI aqD af8 400 false 213=Ym:=by kernel_rfl
def Yn:ab:=
 (yD bt 9 bt (.s [43]) uc (H9 9 [45] 9 [42] (M6 9 [47] (.nr (OB .eql 9 bt (.s [37]))))))
def af9:bj:=⟨cN,cO,cP,[],cQ⟩
theorem akg:aI aqD af9 400 false 257=Yn:=by kernel_rfl
def PM:ab:=
 (jD cH gD 2 gD 4 dy 2 (oA 4 4 214 4 4 4 4 (yO (pQ (.mx true pR jI)) (oz 0 2 (pQ (.mx true pR jI))))) (.nr (vY 3)))
def Yo:ab:=
 (oA 4 0 206 0 0 0 0 (eZ 1 PM))
def af_:bj:=⟨cN,cO,cP,[⟨0,214,4,[(0,(3,0)),(0,(5,0))],[],[],[]⟩],cQ⟩
theorem akh:aI aqD af_ 400 false 214=Yo:=by kernel_rfl
def Yp:ab:=
 (pM (lM 3 0) pO (kB 49 (oW 0 1 0 2) (.nr dy)) (tv 9 0 1 (kC 199 pO 1 (vA lB dy lB (kB 107 yL (.nr dQ)) a_)) a_))
def aga:bj:=⟨cN,cO,cP,[],cQ⟩
theorem aki:aI aqD aga 400 false 152=Yp:=by kernel_rfl
def Yq:ab:=
 (oa bt .eql bt 1 v8 (yz 3 (.i 2) v8 (yz 3 (.i 11) (ru 1) (yz 3 (.i 12) (ru 1) (M4 .gtr 3 (.i 2) (M4 .lss 3 (.i 11) Bf Vh) Vh)))))
def agb:bj:=⟨cN,cO,cP,[],cQ⟩
theorem akj:aI aqD agb 400 false 199=Yq:=by kernel_rfl
def PN:ab:=
 (jD pR (kA 4) 5 (kA 4) 3 fz 5 (lO 3 7 (lP 4 56 6 (uN 7) (A4 5 8))) (gZ 108 (rq 6) (.nr s9)))
def PO:ab:=
 (jD sW gD 2 gD 2 dy 2 (lO 2 4 (lP 4 56 3 (i_ 4) (kQ 2 5))) (kC 151 (kN 0 0 0 2 0 3 0 4 0 5) 4 PN))
def Yr:ab:=
 (gi 6 0 150 (kN 0 0 0 2 0 3 0 4 0 5) (eZ 1 PO))
def agc:bj:=⟨cN,cO,cP,[⟨0,153,9,[(0,(3,0)),(0,(7,0))],[(1,3),(1,0)],[],[]⟩,⟨0,153,4,[(0,(3,0)),(0,(5,0))],[(1,3),(1,0)],[],[]⟩],cQ⟩
theorem akk:aI aqD agc 400 false 153=Yr:=by kernel_rfl
def PQ:ab:=
 (jD eW cj 1 cj 4 bt 1 (mw 4 3 (.rws nc) (uH 511 nc (kO 3 3 3 3) (kQ 1 4))) yG)
def IT:ab:=
 (s8 PQ)
def Ys:bj:=⟨cN,cO,cP,[⟨0,108,3,[(0,(3,0)),(0,(4,0))],[(0,0)],[],[]⟩],cQ⟩
theorem akl:aI aqD Ys 400 false 108=IT:=by kernel_rfl
def PR:ab:=
 (fA (kA 11) 12 (kA 11) 1 uJ 12 (uG 13 204 th (gL 13) (my 14 14 (ru 17) 4 12)) (dT 3 9))
def PS:ab:=
 (fA fy 9 fy 3 pL 9 (gi 3 10 93 (vW 10 0 10 1 10 2) (eZ 11 PR)) v8)
def PT:ab:=
 (fA tj 7 tj 3 vZ 7 (gi 3 8 202 (dR 8) (.nt jB (ru 10) (dT 2 7))) (kC 203 (kN 1 1 1 2 1 3 1 4 1 5) 8 PS))
def PU:ab:=
 (fA fy 6 fy 3 pL 6 (gi 3 7 202 (dR 7) (my 8 8 (lN 3 pL 6 (oa (lM 3 9) .neq (dR 9) 1 (ru 10) (dT 1 6))) 1 6)) PT)
def PX:ab:=
 (fA qq 3 qq 2 dQ 3 (lO 2 4 (lN 2 dQ 3 (mw 2 5 (l9 5) (uP 200 4 0 (l9 5) (yN jy 31 jy (.ret jy) yJ))))) (kC 151 (kN 1 1 1 2 1 3 1 4 1 5) 4 (sX 201 bt fz (yN jI 31 jI (.ret jI) PU))))
def Yt:ab:=
 (OE (lM 6 1) (kC 150 (kN 1 1 1 2 1 3 1 4 1 5) 2 PX))
def agd:bj:=⟨cN,cO,cP,[⟨0,154,23,[(0,(12,0))],[],[],[]⟩,⟨0,154,27,[(0,(14,0))],[],[],[]⟩,⟨0,154,17,[(0,(10,0))],[],[],[]⟩,⟨0,154,12,[(0,(9,0))],[],[],[]⟩,⟨0,154,3,[(0,(6,0))],[],[],[]⟩],cQ⟩
theorem akm:aI aqD agd 400 false 154=Yt:=by kernel_rfl
def PY:ab:=
 (jD (.i 7) cj 3 cj 2 bt 3 (tq 2 5 9 5 dy (GQ 0 3 (JW 9)) (kQ 3 4)) (sU 51 (M8 bt dy dQ) (.nt jI v8 (.ret q3))))
def Yu:ab:=
 (qT (eZ 2 PY))
def age:bj:=⟨cN,cO,cP,[⟨0,200,3,[(0,(7,0)),(0,(8,0))],[],[],[]⟩],cQ⟩
theorem akn:aI aqD age 400 false 200=Yu:=by kernel_rfl
def PZ:ab:=
 (fA gD 2 gD 3 dy 2 (we (lM 3 3) .neq (dR 3) ta (lN 3 dy 2 (lO 3 4 (lN 3 dy 2 (mw 3 5 (fB 5) (uP 200 4 1 (fB 5) (yN jy 31 jy (.ret jy) ta))))))) v8)
def Yv:ab:=
 (qT PZ)
def agf:bj:=⟨cN,cO,cP,[⟨0,201,2,[(0,(5,0))],[],[],[]⟩],cQ⟩
theorem ako:aI aqD agf 400 false 201=Yv:=by kernel_rfl
def Yw:ab:=
 (tx bt .geq bt 5 (.nr (q4 bt 12)))
def agh:bj:=⟨cN,cO,cP,[],cQ⟩
theorem akp:aI aqD agh 400 false 202=Yw:=by kernel_rfl
def P0:ab:=
 (jD sW gD 2 gD 2 dy 2 (lO 2 4 (lP 4 56 3 (i_ 4) (kQ 2 5))) (gZ 108 (rq 3) (.nr fz)))
def Yx:ab:=
 (gi 6 0 150 (kN 0 0 0 2 0 3 0 4 0 5) (eZ 1 P0))
def agi:bj:=⟨cN,cO,cP,[⟨0,203,4,[(0,(3,0)),(0,(5,0))],[(1,3),(1,0)],[],[]⟩],cQ⟩
theorem akq:aI aqD agi 400 false 203=Yx:=by kernel_rfl
def aco:ab:=
 (gi 3 0 108 yL (.nr dy))
def akr:bj:=⟨cN,cO,cP,[],cQ⟩
theorem aoo:aI aqD akr 400 false 93=aco:=by kernel_rfl
def P1:ab:=
 (fA cj 2 cj 1 bt 2 (vA g_ g_ dy uc ta) a_)
def Yy:ab:=
 (qT P1)
def agj:bj:=⟨cN,cO,cP,[⟨0,204,2,[(0,(5,0))],[],[],[]⟩],cQ⟩
theorem aks:aI aqD agj 400 false 204=Yy:=by kernel_rfl
def acp:ab:=
 (lO 6 0 (nb 2 40 (GS 2) ng (lP 2 40 1 yL yG)))
def akt:bj:=⟨cN,cO,cP,[],cQ⟩
theorem aop:aI aqD akt 400 false 91=acp:=by kernel_rfl
def acq:ab:=
 (gi 2 0 108 ng (.nr dy))
def aku:bj:=⟨cN,cO,cP,[],cQ⟩
theorem aoq:aI aqD aku 400 false 50=acq:=by kernel_rfl
def acr:ab:=
 (mw 4 0 (.rws eW) (uH 511 eW (kO 0 0 0 0) (.ret (.var 1))))
def akv:bj:=⟨cN,cO,cP,[],cQ⟩
theorem aor:aI aqD akv 400 false 95=acr:=by kernel_rfl
def Tb:ab:=
 (oB qq 3 qq 4 dQ 3 (oa (tz 4) .lss (dR 4) 1 a_ (OF .geq 4 0 pL a_ (.nt (s5 .gtr 3 3) (.aQ (vX 3) (DA 4 dQ (vX 3) (ov (tz 5) .leq (dR 4) (dR 5) (te 49 (oW 4 1 4 2) 6 6 (kC 50 (oW 4 1 4 2) 7 (ov (kA 7) .gtr (kA 7) cH (.aQ (fB 4) (Fc 51 (H6 0 4 (jf (fB 4))) 8 8 (pM uF uF a_ (te 99 (ju 4 3) 9 9 (wo 1 4 3 (oa Br .lss Br 1 a_ (dI uF (uB uF) (E7 1 4 3 (uB uF) (ov uJ .gtr uJ vZ yJ))))))))))))))) (te 49 (oW 4 1 4 2) 5 5 (kC 50 (oW 4 1 4 2) 6 (ov (kA 6) .gtr (kA 6) cH (.aQ (fB 4) (Fc 51 (H6 0 4 (jf (fB 4))) 7 7 (pM uF uF a_ (te 99 (ju 4 3) 8 8 (wo 1 4 3 (oa jB .lss jB 1 a_ (dI uF (uB uF) (E7 1 4 3 (uB uF) (ov Br .gtr Br vZ yJ))))))))))))))))
def VT:ab:=
 (Bl 5 (eZ 2 Tb))
def akw:bj:=⟨cN,cO,cP,[⟨0,39,2,[(0,(7,0))],[],[],[]⟩],cQ⟩
theorem aos:aI aqD akw 400 false 39=VT:=by kernel_rfl
def Tc:ab:=
 (oB cj 1 cj 1 bt 1 (oa dQ .lss dQ 1 a_ (lN 1 bt 1 (fe g_ g_ 64 (.nt (s5 .gtr 3 1) (lN 1 bt 1 (dI fz (vX 1) (DA 1 bt (vX 1) (ov jI .leq fz jI uD)))) uD)))))
def acu:ab:=
 (s8 Tc)
def akx:bj:=⟨cN,cO,cP,[⟨0,99,2,[(0,(3,0))],[],[],[]⟩],cQ⟩
theorem aot:aI aqD akx 400 false 99=acu:=by kernel_rfl
def Td:ab:=
 (oB ow 11 ow 1 (ju 2 3) 11 (uG 12 100 (uy 1 1 1 2 1 3 1 4) (gL 12) (yM (wq 4 13) (jC 13) (jC 13) a_ (sU 53 (ub (kP 13 3) 2 5 .an) (uL 14 14 2 11)))))
def Te:ab:=
 (fA wa 10 wa 1 (uN 2) 10 (uG 11 41 qW uJ (yM (wq 4 12) (jC 12) (jC 12) a_ (dT 1 10))) Td)
def Fs:ab:=
 (jD sW qY 6 qY 1 uE 6 (uG 8 100 (uy 1 1 1 2 1 3 1 4) th (yM (wq 4 9) (jC 9) (jC 9) a_ (uK uE lD (lN 1 uE 6 (eZ 11 (uH 94 iZ uJ (.nt (gL 12) a_ (s_ 4 72 7 4 (uM (kP 9 0) (kP 9 1) (kP 9 2) (kP 9 3)) (kQ 6 13))))))))) (gZ 101 (rq 7) (uG 8 53 (ju 2 5) th (AY 9 9 Te))))
def adN:ab:=
 (oB ow 11 ow 1 (ju 2 3) 11 (uG 12 100 (uy 1 1 1 2 1 3 1 4) (gL 12) (yM (wq 4 13) (jC 13) (jC 13) a_ (sU 53 (ub (kP 13 3) 2 5 .an) (uL 14 14 2 11)))))
def adO:ab:=
 (fA wa 10 wa 1 (uN 2) 10 (uG 11 41 qW uJ (yM (wq 4 12) (jC 12) (jC 12) a_ (dT 1 10))) adN)
def Tf:ab:=
 (jD sW qY 6 qY 1 uE 6 (uG 8 100 (uy 1 1 1 2 1 3 1 4) th (yM (wq 4 9) (jC 9) (jC 9) a_ (uK uE lD (lN 1 uE 6 (eZ 11 (uH 94 iZ uJ (.nt (gL 12) a_ (s_ 4 72 7 4 (uM (kP 9 0) (kP 9 1) (kP 9 2) (kP 9 3)) (kQ 6 13))))))))) (gZ 101 (rq 7) (uG 8 53 (ju 2 5) th (AY 9 9 adO))))
def VU:ab:=
 (Bl 5 (ov (lM 6 2) .lss (dR 2) cH (ov fc .geq (dR 2) fc (DA 6 ng (dR 2) (mw 6 3 qY (dI (l9 3) (fB 3) (M9 (qS (l9 3) (fB 3)) qY (qS (l9 3) (fB 3)) (.aQ (l9 3) (tf uE (l9 3) qY (uH 53 (uN 2) q3 (AY 5 5 (.test (ju 2 4) (ov ow .gtr ow cH (fe ow ow 12 Fs)) (fe ow ow 12 Tf)))))))))))))
def aky:bj:=⟨cN,cO,cP,[⟨0,40,8,[(0,(8,0)),(0,(9,0))],[(4,3),(4,0)],[],[]⟩,⟨0,40,23,[(0,(15,0))],[],[],[]⟩,⟨0,40,17,[(0,(12,0))],[],[],[]⟩],cQ⟩
theorem aou:aI aqD aky 400 false 40=VU:=by kernel_rfl
def Yz:ab:=
 (mw 5 0 dy (sX 41 pO dy (Xh (wq 4 2) (jC 2) (sY (uM (kP 2 0) (kP 2 1) (kP 2 2) (kP 2 3)) kZ) (sX 41 ng dy (dI (wq 4 3) (jC 3) (sY (uM (kP 3 0) (kP 3 1) (kP 3 2) (kP 3 3)) (jC 3)))))))
def agk:bj:=⟨cN,cO,cP,[],cQ⟩
theorem akz:aI aqD agk 400 false 100=Yz:=by kernel_rfl
def Tg:ab:=
 (fA cj 2 cj 4 bt 2 (vA (tz 3) (dR 3) dy (lN 4 bt 2 (q5 4 (sY (kO 4 4 4 4) kZ))) ta) (sY (uM cH yC sW eW) Dz))
def acv:ab:=
 (qT Tg)
def akA:bj:=⟨cN,cO,cP,[⟨0,41,2,[(0,(6,0))],[],[],[]⟩],cQ⟩
theorem aov:aI aqD akA 400 false 41=acv:=by kernel_rfl
def Th:ab:=
 (jD q3 (v7 6) 7 (v7 6) 1 (ju 6 3) 7 (vA jB jB dy (A5 8 (oz 1 7 (vY 8))) (A4 7 8)) (kQ 3 8))
def Ti:ab:=
 (jD q3 (fB 5) 6 (fB 5) 1 (uN 5) 6 (vA th th dy (A5 7 (oz 1 6 (vY 7))) (A4 6 7)) (kQ 3 7))
def Tj:ab:=
 (jD cH cj 3 cj 6 bt 3 (lO 6 5 (.test dQ (lN 6 bt 3 (lO 6 6 Th)) Ti)) (.ret q3))
def acw:ab:=
 (qT (eZ 2 Tj))
def akB:bj:=⟨cN,cO,cP,[⟨0,42,3,[(0,(7,0)),(0,(8,0))],[],[],[]⟩,⟨0,42,9,[(0,(7,0)),(0,(10,0))],[],[],[]⟩],cQ⟩
theorem aow:aI aqD akB 400 false 42=acw:=by kernel_rfl
def YA:List Nat:=[123,127,126,186,189,44,79,30,102,9,10,23,31,15,257,149,89,148,198,147,199,50,191,71,214,93,163,49,152,64,164,158,95,108,206,250,213,130,131,107,129,155,34,90,51,202,153,201,200,151,203,150,204,154,91,41,67,101,99,109,157,210,12,26,28,25,14,19,100,40,39,70,69,35,53,52,68,42,58,75,24,27,22,29,61,190,66,133,128,249,121,78,183]
def YB:List Nat:=[92,94,205]
def YC:List Nat:=[185,188,254]
def YD:List Nat:=[155]
def G5:ab:=
 (wb (.len wi) 3 2 (.len wi) (uI wi nc wi 2 qW (ti 0) (dT 1 2)) (AZ 0))
def G6:ab:=
 (jD pR (kA 4) 5 (kA 4) 4 fz 5 (mw 4 7 (.rws lD) (gZ 511 (yA 6 (kO 7 7 7 7)) (kQ 5 8))) (yH lD))
def G7:ab:=
 (jD wi tc 4 tc 4 g_ 4 (mw 4 6 (.rws dP) (uH 511 dP (kO 6 6 6 6) (kQ 4 7))) (yH dP))
def P2:ab:=
 (.kz G5 1 (uz nc (vy qW (lP 1 8 0 (oC 1 1) (kC 206 (kO 1 1 1 1) 4 G6))) (kC 206 (kO 1 1 1 1) 3 G7)))
def G8:ab:=
 (jD wi qq 3 qq 4 dQ 3 (mw 4 5 (.rws q3) (gZ 511 (yA 4 (kO 5 5 5 5)) (kQ 3 6))) (yH q3))
def YE:ab:=
 (oa (tz 1) .eql A6 1 P2 (kC 206 (kO 1 1 1 1) 2 G8))
def agl:bj:=⟨YA,YB,YC,[⟨0,155,5,[(0,(6,0))],[(0,3),(0,0)],[(0,21),(0,11)],[]⟩,⟨0,155,1000014,[(0,(14,0))],[],[],[]⟩,⟨1,155015,2,[(1,(5,0))],[],[],[]⟩],YD⟩
theorem akC:wO aqD agl 400 1 155=YE:=by kernel_rfl
def Tk:ab:=
 (wb jv 3 10 jv (uI dP iZ dP 10 jB (ti 4) (dT 5 10)) kM)
def adP:ab:=
 (.kz Tk 1 (uz iZ (AZ 2) (dT 3 8)))
def Tl:ab:=
 (fA (kA 7) 8 (kA 7) 1 s9 8 (eZ 9 adP) (ti 2))
def adQ:ab:=
 (wb jv 3 11 jv (uI dP jz dP 11 (i_ 10) (ti 2) (dT 3 11)) (AZ 2))
def adR:ab:=
 (wb jv 3 16 jv (uI dP (.var 16) dP 16 (gL 15) (ti 4) (dT 5 16)) kM)
def adS:ab:=
 (.kz adR 1 (Bc 16 (AZ 2) (dT 3 14)))
def adT:ab:=
 (fA (kA 13) 14 (kA 13) 1 (gL 13) 14 (eZ 15 adS) (ti 2))
def adU:ab:=
 (.kz adT 1 (uz pN a_ (wo 4 6 2 (mw 4 15 (.rw (i_ 15)) (nb 1 8 dP (oC 15 1) (qX 16))))))
def adV:ab:=
 (.kz adQ 1 (.test jz a_ (E7 4 6 2 (.i 1) (oA 4 12 95 12 12 12 12 (eZ 13 adU)))))
def adW:ab:=
 (.kz Tl 1 (uz jx a_ (q0 6 0 4 (wo 4 6 2 (oa (tz 9) .neq (dR 9) 1 a_ (wo 4 6 2 (q5 10 adV)))) Be)))
def P3:ab:=
 (wb jv 3 9 jv (uI dP qU dP 9 (i_ 8) (ti 2) (dT 3 9)) (AZ 2))
def P4:ab:=
 (wb jv 3 14 jv (uI dP pN dP 14 (gL 13) (ti 4) (dT 5 14)) kM)
def aa9:ab:=
 (.kz P4 1 (uz pN (AZ 2) (dT 3 12)))
def P5:ab:=
 (fA (kA 11) 12 (kA 11) 1 uJ 12 (eZ 13 aa9) (ti 2))
def aa_:ab:=
 (.kz P5 1 (Bc 12 a_ (wo 4 6 2 (mw 4 13 (.rw (i_ 13)) (nb 1 8 dP (oC 13 1) (qX 14))))))
def aba:ab:=
 (.kz P3 1 (.test qU a_ (E7 4 6 2 (.i 1) (oA 4 10 95 10 10 10 10 (eZ 11 aa_)))))
def P6:ab:=
 (jD pR (DG 4) 4 (DG 4) 3 (ju 0 4) 4 (oa (lM 3 6) .eql Ba 3 a_ (lE .eql 6 0 (kC 93 (vW 6 0 6 1 6 2) 7 adW) (q0 6 0 4 (wo 4 6 2 (oa (tz 7) .neq (dR 7) 1 a_ (wo 4 6 2 (q5 8 aba)))) Be))) uc)
def P7:ab:=
 (jD eW gD 2 gD 2 dy 2 (A8 2 4 50 4 4 (yO (.rws jI) (lP 1 8 3 jI (kQ 2 6)))) P6)
def acx:ab:=
 (gi 6 0 91 (kN 0 0 0 2 0 3 0 4 0 5) (eZ 1 P7))
def akD:bj:=⟨YA,YB,YC,[⟨0,35,8,[(0,(6,0))],[(1,0)],[],[]⟩,⟨1,35076,2,[(1,(5,0))],[],[],[]⟩,⟨1,35076,1000017,[(1,(17,0))],[],[],[]⟩,⟨2,35076018,2,[(2,(5,0))],[],[],[]⟩,⟨0,35,1000066,[(0,(66,0))],[],[],[]⟩,⟨1,35067,2,[(1,(5,0))],[],[],[]⟩,⟨1,35047,2,[(1,(5,0))],[],[],[]⟩,⟨1,35047,1000017,[(1,(17,0))],[],[],[]⟩,⟨2,35047018,2,[(2,(5,0))],[],[],[]⟩,⟨0,35,4,[(0,(3,0)),(0,(5,0))],[(1,0)],[],[]⟩,⟨0,35,1000075,[(0,(75,0))],[],[],[]⟩,⟨0,35,1000046,[(0,(46,0))],[],[],[]⟩],YD⟩
theorem aox:aI aqD akD 400 false 35=acx:=by kernel_rfl
end Go.Proofs.YtggffkaadeagbaaGreat
