/- A part of the proof, no condition: what the code of the checks of the reference computes. -/
import Derived.Test.YtggffkaadeagbaaGreatEvJ
import Derived.Test.YtggffkaadeagbaaGreatRuA
open Go.Proofs.Tryz renaming prog->ar3
set_option linter.all false
namespace Go.Proofs.YtggffkaadeagbaaGreat
open Go Go.Ev
def cD:List Nat:=[123,127,126,186,189,44,79,30,102,9,10,23,31,15,257,149,89,148,198,147,199,50,191,71,214,93,163,49,152,64,164,158,95,108,206,250,213,205,130,131,107,129,155,34,90,51,202,153,201,200,151,203,150,204,154,91,41,67,101,99,109,157,210,12,26,28,25,14,19,92,100,40,39,70,94,69,35,53,52,68,42,58,75,24,27,22,29,61,190,66,133,128,249,121,78,183]
def cE:List Nat:=[48,63,118,124,132,174,184,187,197,216,252,263,270,334]
def cF:List Nat:=[185,188,254]
def cG:List Nat:=[155]
def SG:af:=
 (ny kE 7 kE 4 qZ 7 (lD 8 (kU 42 (ot 1 2 8 0 (oH xV)) (xX gR .neq gR 1 (pd 4 qZ 7 (lD 10 (kU 42 (ot 1 2 10 0 (oH kX)) (fe ra ra 1 (gb 2 7)))))))))
def SH:af:=
 (fz uR 6 uR 4 th 6 (lD 7 (abW 41 1 1 7 0 (FN (H2 4 8 0) (gB 8) aQ (pd 4 th 6 (lD 9 (kU 42 (ot 1 2 9 0 (oH kX)) (fe q_ q_ 1 (gb 1 6)))))))) SG)
def SI:af:=
 (fz ie 5 ie 6 wK 5 (jy 6 6 (kU 40 (nj mh (rf 1 1 1 1 1 4) (jN 6 6 6 6 6 6)) (tv 7 7 0 5))) SH)
def VD:af:=
 (tx 5 (iC 12 mh (nb bU .neq 31 bU bz aQ (jq .lss 1 3 1 aQ (jq .gtr 1 3 2147483648 aQ (kJ .lss 1 4 aQ (jq .gtr 1 4 64 aQ (fe ie ie 5000 (cB uR kE (fe Bx Bx 5000 (kU 39 (nj mh (rf 1 1 1 1 1 4) th) (qW 3 3 (kU 39 (yY mh (rf 1 1 1 1 1 4) (qv 1 1)) (qW 4 4 SI))))))))))))))
def ak8:aL:=⟨cD,cE,cF,[⟨0,14,17,[(0,(9,0))],[],[],[]⟩,⟨0,14,11,[(0,(6,0))],[],[],[]⟩,⟨0,14,6,[(0,(5,0))],[],[],[]⟩],cG⟩
theorem apr:aA ar3 ak8 400 false 14=VD:=by kernel_rfl
def SJ:af:=
 (fz dS 2 dS 6 me 2 (kY 6 3 35 (jN 3 3 3 3 3 3) (lP 4 4 (qu 19) 0 2)) kD)
def VE:af:=
 (ve 0 34 mh (.aG (wQ 1) (rj (gB 1) (gB 1) wP SJ)))
def ak9:aL:=⟨cD,cE,cF,[⟨0,12,5,[(0,(5,0))],[],[],[]⟩],cG⟩
theorem aps:aA ar3 ak9 400 false 12=VE:=by kernel_rfl
def SK:af:=
 (fz dS 2 dS 6 me 2 (jy 6 3 (fV 90 jL (jN 3 3 3 3 3 3) (y6 dO .neq 31 dO bz (vS s6 dO) 1 2))) (vS bz bz))
def SL:af:=
 (fz pU 1 pU 2 jL 1 (ve 2 89 (cW 2) (kW 3 3 (E5 7) (kJ .lss 2 1 (E5 9) (jq .gtr 2 1 6 (E5 9) (ET 2 jL bz (.var 1) (ow 51 (zR q9 2 0 (qv 2 1)) (.nt dy (E5 8) E_))))))) (mE dS .gtr dS 40 (E5 6) SK))
def VF:af:=
 (jy 2 0 (mE pU .gtr pU 30 (E5 6) SL))
def ak_:aL:=⟨cD,cE,cF,[⟨0,34,16,[(0,(6,0))],[],[],[]⟩,⟨0,34,4,[(0,(4,0))],[],[],[]⟩],cG⟩
theorem apt:aA ar3 ak_ 400 false 34=VF:=by kernel_rfl
def acz:af:=
 (mc (iC 147 aY (vc bK (.aG (H0 bz) (iC 148 (H0 bz) (vc bU (fH 149 aY 3 (.nr (sV dz)))))))))
def ala:aL:=⟨cD,cE,cF,[],cG⟩
theorem apu:aA ar3 ala 400 false 89=acz:=by kernel_rfl
def Pv:af:=
 (sY pe s7 3 1 s7 (.aG q3 (iC 148 q3 (lP 2 2 (.aG q3 (iC 198 q3 (lP 3 3 (nb q3 .lss 5 q3 (mb 48) (y6 q3 .neq 5 q3 E4 aQ 0 1) (y6 q3 .gtr 5 q3 (mb 57) (y6 q3 .neq 5 q3 E4 aQ 0 1) 0 1)) 0 1))) 0 1))) (rm s7 .geq s7 1 (.aG s7 (.nr (q5 s7 40)))))
def YA:af:=
 (mc Pv)
def agM:aL:=⟨cD,cE,cF,[⟨0,147,2,[(0,(3,0))],[],[],[]⟩],cG⟩
theorem alb:aA ar3 agM 400 false 147=YA:=by kernel_rfl
def YB:af:=
 (nb aY .geq 5 aY (mb 97) (.nr (wO .leq 5 aY 122)) aQ)
def agN:aL:=⟨cD,cE,cF,[],cG⟩
theorem alc:aA ar3 agN 400 false 148=YB:=by kernel_rfl
def YC:af:=
 (nb aY .geq 5 aY (mb 65) (.nr (wO .leq 5 aY 90)) aQ)
def agO:aL:=⟨cD,cE,cF,[],cG⟩
theorem ald:aA ar3 agO 400 false 198=YC:=by kernel_rfl
def YD:af:=
 (nb aY .eql 9 aY (.s [99,111,110,115,116,114,97,105,110,116]) ja (Bw 9 (.s [116,114,117,101]) ja 9 (.s [102,97,105,108]) ja (Bw 9 (.s [105,115]) ja 9 (.s [105,110,116]) ja (.nr (KQ .eql 9 aY (.s [103,114,111,117,110,100]))))))
def agP:aL:=⟨cD,cE,cF,[],cG⟩
theorem ale:aA ar3 agP 400 false 149=YD:=by kernel_rfl
def SM:af:=
 (fz bI 3 bI 2 aY 3 (vf 2 4 .eql 9 4 bK (wS 2 3 (rl (kV 2 5) (gQ 5) bU ja 0 3)) 0 3) aQ)
def acA:af:=
 (kB (eI 2 SM))
def alf:aL:=⟨cD,cE,cF,[⟨0,51,2,[(0,(7,0))],[],[],[]⟩],cG⟩
theorem apv:aA ar3 alf 400 false 51=acA:=by kernel_rfl
def SN:af:=
 (fz (iA 6) 7 (iA 6) 1 eh 7 (wD kI .neq kI BJ wP 2 7) (fx (iA 6) .neq (EV 5) (iA 6) wP (ab0 .neq 9 1 0 (iC 89 th (kW 8 8 (qu 7) (fV 154 aY (jN 1 1 1 1 1 1) (.nr gR)))) (fV 154 aY (jN 1 1 1 1 1 1) (.nr kI)))))
def SO:af:=
 (fz s8 5 s8 3 dz 5 (kY 3 6 152 (ot 6 0 6 1 (qv 6 2)) (lP 7 7 wP 1 5)) (fH 153 (jN 1 1 1 1 1 1) 6 SN))
def SP:af:=
 (fz dE 4 dE 2 bU 4 (zl 5 49 5 5 (lP 6 6 wP 0 4)) SO)
def acB:af:=
 (HZ (kV 6 1) (fH 150 (jN 1 1 1 1 1 1) 2 (fH 151 (jN 1 1 1 1 1 1) 3 (ig dE dE (qu 6) (mE dE .gtr dE 4 (qu 6) (mE eE .gtr eE 12 (qu 6) (mE ti .gtr ti 12 (qu 6) SP)))))))
def alg:aL:=⟨cD,cE,cF,[⟨0,90,17,[(0,(10,0))],[],[],[]⟩,⟨0,90,11,[(0,(8,0))],[],[],[]⟩,⟨0,90,6,[(0,(7,0))],[],[],[]⟩],cG⟩
theorem apw:aA ar3 alg 400 false 90=acB:=by kernel_rfl
def YE:af:=
 (jy 6 0 (rE 2 40 (DN 2) me (vR 2 40 1 wL y_)))
def agQ:aL:=⟨cD,cE,cF,[],cG⟩
theorem alh:aA ar3 agQ 400 false 150=YE:=by kernel_rfl
def YF:af:=
 (jy 6 0 (rE 3 48 (DN 3) (oN 0) (vR 3 48 1 (qN 0 4) y_)))
def agR:aL:=⟨cD,cE,cF,[],cG⟩
theorem ali:aA ar3 agR 400 false 151=YF:=by kernel_rfl
def acC:af:=
 (ve 0 89 jL (vc bK (rm dS .leq dS 6 (iC 107 me (.nr bU)))))
def alj:aL:=⟨cD,cE,cF,[],cG⟩
theorem apx:aA ar3 alj 400 false 49=acC:=by kernel_rfl
def Pw:af:=
 (pX bz bI 3 1 bI 4 aY 1 (oM 4 3 163 3 3 3 3 (qW 4 4 (wS 4 1 (oM 4 5 158 5 5 5 5 (cB eh (EZ eh) (nw 0 1 (EZ eh))))))) (.nr (ni .leq 2 200)))
def YG:af:=
 (mc Pw)
def agS:aL:=⟨cD,cE,cF,[⟨0,107,3,[(0,(3,0)),(0,(4,0))],[],[],[]⟩],cG⟩
theorem alk:aA ar3 agS 400 false 107=YG:=by kernel_rfl
def YH:af:=
 (oM 4 0 213 0 0 0 0 (vc bK (iC 158 (fy 0 0 0 0) (rm bU .leq bU 200 (fH 214 (fy 0 0 0 0) 3 (.nr (q5 dz 20)))))))
def agT:aL:=⟨cD,cE,cF,[],cG⟩
theorem alm:aA ar3 agT 400 false 163=YH:=by kernel_rfl
def ym:af:=
 (ny iR 3 iR 4 (oN 0) 3 (oM 4 4 213 4 4 4 4 (tv 5 5 0 3)))
def GZ:af:=
 (ny iR 2 iR 4 (oN 0) 2 (oM 4 3 213 3 3 3 3 (tv 4 4 0 2)))
def Px:af:=
 (ny iR 3 iR 4 (oN 0) 3 (oM 4 4 213 4 4 4 4 (tv 5 5 0 3)))
def YI:af:=
 (ig (rp 0) jL (jq .geq 0 1 (-2147483648) (jq .leq 0 1 2147483648 (tq 9 0 2 (.aG iR (.nr (BG iR))) aQ) aQ) aQ) (pW 0 0 1 (kJ .geq 0 1 (jq .leq 0 1 1048576 (tq 9 0 2 (.aG iR (.nr (BG iR))) aQ) aQ) aQ) (pW 0 0 2 (iC 257 wL (.nt bK (.aG iR (rj (ES .eql iR 2) me aQ (.nt (sV (ES .eql iR 2)) (ta 89 wL 2 2 (fe iR iR 6 ym)) GZ))) (kJ .neq 0 1 aQ (ta 89 wL 2 2 (fe iR iR 6 Px))))) aQ)))
def agU:aL:=⟨cD,cE,cF,[⟨0,213,11,[(0,(4,0))],[],[],[]⟩],cG⟩
theorem aln:aA ar3 agU 400 false 213=YI:=by kernel_rfl
def YJ:af:=
 (nb aY .eql 9 aY (.s [43]) ja (Bw 9 (.s [45]) ja 9 (.s [42]) ja (wC 9 (.s [47]) ja (.nr (KQ .eql 9 aY (.s [37]))))))
def agV:aL:=⟨cD,cE,cF,[],cG⟩
theorem alo:aA ar3 agV 400 false 257=YJ:=by kernel_rfl
def Py:af:=
 (pX bz eg 3 2 eg 4 bK 2 (oM 4 4 214 4 4 4 4 (cB dy (pT (.mx true tf dy)) (nw 0 2 (pT (.mx true tf dy))))) (.nr (oI 3)))
def YK:af:=
 (oM 4 0 206 0 0 0 0 (eI 1 Py))
def agW:aL:=⟨cD,cE,cF,[⟨0,214,4,[(0,(3,0)),(0,(5,0))],[],[],[]⟩],cG⟩
theorem alp:aA ar3 agW 400 false 214=YK:=by kernel_rfl
def YL:af:=
 (ig (kV 3 0) jL (iC 49 (ov 0 1 0 2) (.nr bK)) (tq 9 0 1 (fH 199 jL 1 (fx jM .eql bK jM (iC 107 wL (.nr bU)) aQ)) aQ))
def agX:aL:=⟨cD,cE,cF,[],cG⟩
theorem alq:aA ar3 agX 400 false 152=YL:=by kernel_rfl
def YM:af:=
 (mE aY .eql aY 1 kD (Bw 3 (.i 2) kD 3 (.i 11) u9 (wC 3 (.i 12) u9 (uP .gtr 3 (.i 2) (uP .lss 3 (.i 11) wP wH) wH))))
def agY:aL:=⟨cD,cE,cF,[],cG⟩
theorem alr:aA ar3 agY 400 false 199=YM:=by kernel_rfl
def Pz:af:=
 (zT E8 BM 3 5 BM 3 dO 5 (jy 3 7 (jo 4 56 6 (q4 7) 1 5 8)) (ow 108 (ou 6) (.nr gy)))
def PA:af:=
 (pX oA eg 3 2 eg 2 bK 2 (jy 2 4 (jo 4 56 3 (gQ 4) 0 2 5)) (fH 151 (jN 0 0 0 0 0 0) 4 Pz))
def YN:af:=
 (kY 6 0 150 (jN 0 0 0 0 0 0) (eI 1 PA))
def agZ:aL:=⟨cD,cE,cF,[⟨0,153,9,[(0,(3,0)),(0,(7,0))],[(1,3),(1,0)],[],[]⟩,⟨0,153,4,[(0,(3,0)),(0,(5,0))],[(1,3),(1,0)],[],[]⟩],cG⟩
theorem als:aA ar3 agZ 400 false 153=YN:=by kernel_rfl
def PB:af:=
 (pX gx bI 3 1 bI 4 aY 1 (jJ 4 3 (.rws s6) (uQ 511 s6 (fy 3 3 3 3) (er 0 1 4))) y_)
def IN:af:=
 (mc PB)
def YO:aL:=⟨cD,cE,cF,[⟨0,108,3,[(0,(3,0)),(0,(4,0))],[(0,0)],[],[]⟩],cG⟩
theorem alu:aA ar3 YO 400 false 108=IN:=by kernel_rfl
def PC:af:=
 (fz (iA 11) 12 (iA 11) 1 ra 12 (va 13 204 kI (fF 13) (lP 14 14 (qu 17) 4 12)) (gb 3 9))
def PD:af:=
 (fz eE 9 eE 3 oK 9 (kY 3 10 93 (ot 10 0 10 1 (qv 10 2)) (eI 11 PC)) kD)
def PE:af:=
 (fz ti 7 ti 3 pR 7 (kY 3 8 202 (cW 8) (.nt gR (qu 10) (gb 2 7))) (fH 203 (jN 1 1 1 1 1 1) 8 PD))
def PF:af:=
 (fz eE 6 eE 3 oK 6 (kY 3 7 202 (cW 7) (lP 8 8 (pd 3 oK 6 (mE (kV 3 9) .neq (cW 9) 1 (qu 10) (gb 1 6))) 1 6)) PE)
def PG:af:=
 (fz dE 3 dE 2 bU 3 (jy 2 4 (pd 2 bU 3 (jJ 2 5 (kH 5) (vb 200 4 0 (kH 5) (y6 eh .neq 31 eh bz H5 0 3))))) (fH 151 (jN 1 1 1 1 1 1) 4 (fV 201 aY dO (nb dy .neq 31 dy bz (.ret dy) PF))))
def YP:af:=
 (HZ (kV 6 1) (fH 150 (jN 1 1 1 1 1 1) 2 PG))
def ag0:aL:=⟨cD,cE,cF,[⟨0,154,23,[(0,(12,0))],[],[],[]⟩,⟨0,154,27,[(0,(14,0))],[],[],[]⟩,⟨0,154,17,[(0,(10,0))],[],[],[]⟩,⟨0,154,12,[(0,(9,0))],[],[],[]⟩,⟨0,154,3,[(0,(6,0))],[],[],[]⟩],cG⟩
theorem alv:aA ar3 ag0 400 false 154=YP:=by kernel_rfl
def PH:af:=
 (pX (.i 7) bI 3 3 bI 2 aY 3 (nb (kV 2 5) .eql 9 (cW 5) bK (nw 0 3 (.i 9)) (er 0 3 4)) (kU 51 (nj aY bK bU) (.nt dy kD (.ret q9))))
def YQ:af:=
 (kB (eI 2 PH))
def ag1:aL:=⟨cD,cE,cF,[⟨0,200,3,[(0,(7,0)),(0,(8,0))],[],[],[]⟩],cG⟩
theorem alw:aA ar3 ag1 400 false 200=YQ:=by kernel_rfl
def PI:af:=
 (fz eg 2 eg 3 bK 2 (rj (kV 3 3) (cW 3) (BL 2) (pd 3 bK 2 (jy 3 4 (pd 3 bK 2 (jJ 3 5 Fb (vb 200 4 1 Fb (y6 eh .neq 31 eh bz H5 0 2))))))) kD)
def YR:af:=
 (kB PI)
def ag2:aL:=⟨cD,cE,cF,[⟨0,201,2,[(0,(5,0))],[],[],[]⟩],cG⟩
theorem alx:aA ar3 ag2 400 false 201=YR:=by kernel_rfl
def YS:af:=
 (rm aY .geq aY 5 (.nr (q5 aY 12)))
def ag3:aL:=⟨cD,cE,cF,[],cG⟩
theorem aly:aA ar3 ag3 400 false 202=YS:=by kernel_rfl
def PJ:af:=
 (pX oA eg 3 2 eg 2 bK 2 (jy 2 4 (jo 4 56 3 (gQ 4) 0 2 5)) (ow 108 (ou 3) (.nr dO)))
def YT:af:=
 (kY 6 0 150 (jN 0 0 0 0 0 0) (eI 1 PJ))
def ag4:aL:=⟨cD,cE,cF,[⟨0,203,4,[(0,(3,0)),(0,(5,0))],[(1,3),(1,0)],[],[]⟩],cG⟩
theorem alz:aA ar3 ag4 400 false 203=YT:=by kernel_rfl
def acD:af:=
 (kY 3 0 108 wL (.nr bK))
def alA:aL:=⟨cD,cE,cF,[],cG⟩
theorem apy:aA ar3 alA 400 false 93=acD:=by kernel_rfl
def PK:af:=
 (fz bI 2 bI 1 aY 2 (rl dz dz bK ja 0 2) aQ)
def YU:af:=
 (kB PK)
def ag5:aL:=⟨cD,cE,cF,[⟨0,204,2,[(0,(5,0))],[],[],[]⟩],cG⟩
theorem alB:aA ar3 ag5 400 false 204=YU:=by kernel_rfl
def acE:af:=
 (jy 6 0 (rE 2 40 (DN 2) me (vR 2 40 1 wL y_)))
def alC:aL:=⟨cD,cE,cF,[],cG⟩
theorem apz:aA ar3 alC 400 false 91=acE:=by kernel_rfl
def acF:af:=
 (ve 0 108 me (.nr bK))
def alD:aL:=⟨cD,cE,cF,[],cG⟩
theorem apA:aA ar3 alD 400 false 50=acF:=by kernel_rfl
def acG:af:=
 (jJ 4 0 (.rws gx) (uQ 511 gx (fy 0 0 0 0) (.ret (.var 1))))
def alE:aL:=⟨cD,cE,cF,[],cG⟩
theorem apB:aA ar3 alE 400 false 95=acG:=by kernel_rfl
def SQ:af:=
 (ny dE 3 dE 4 bU 3 (xX (rp 4) .lss (cW 4) 1 (JE .geq 3 4 0 oK aQ (.nt (ni .gtr 3 0) (.aG (uA 3) (vP 4 bU (uA 3) (fx (rp 5) .leq (cW 4) (cW 5) aQ (ta 49 (ov 4 1 4 2) 6 6 (fH 50 (ov 4 1 4 2) 7 (oz (iA 7) .gtr (iA 7) aQ (.aG (gA 4) (kU 51 (ot 0 0 4 1 (oH (gA 4))) (qW 8 8 (ig u6 u6 aQ (ta 99 Fc 9 9 (vP 1 Fc bz (xX q_ .lss q_ 1 (cB u6 (uX u6) (vP 1 Fc (uX u6) (wD ra .gtr ra pR aQ 0 3)))))))))))))))) (ta 49 (ov 4 1 4 2) 5 5 (fH 50 (ov 4 1 4 2) 6 (oz (iA 6) .gtr (iA 6) aQ (.aG (gA 4) (kU 51 (ot 0 0 4 1 (oH (gA 4))) (qW 7 7 (ig u6 u6 aQ (ta 99 Fc 8 8 (vP 1 Fc bz (xX gR .lss gR 1 (cB u6 (uX u6) (vP 1 Fc (uX u6) (wD q_ .gtr q_ pR aQ 0 3)))))))))))))))))
def VG:af:=
 (tx 5 (eI 2 SQ))
def alF:aL:=⟨cD,cE,cF,[⟨0,39,2,[(0,(7,0))],[],[],[]⟩],cG⟩
theorem apC:aA ar3 alF 400 false 39=VG:=by kernel_rfl
def SR:af:=
 (ny bI 1 bI 1 aY 1 (xX bU .lss bU 1 (wS 1 1 (fe dz dz 64 (.nt (ni .gtr 1 0) (wS 1 1 (cB dO (uA 1) (vP 1 aY (uA 1) (wD dy .leq dO dy aQ 0 1)))) E_)))))
def acH:af:=
 (mc SR)
def alG:aL:=⟨cD,cE,cF,[⟨0,99,2,[(0,(3,0))],[],[],[]⟩],cG⟩
theorem apD:aA ar3 alG 400 false 99=acH:=by kernel_rfl
def SU:af:=
 (ny oL 11 oL 1 (oN 2) 11 (va 12 100 (rf 1 1 1 1 1 4) (fF 12) (BE 4 13 0 (sW (gB 13) (gB 13) aQ (kU 53 (zR (ej 13 3) 2 5 .an) (tv 14 14 2 11))))))
def SV:af:=
 (fz wM 10 wM 1 (q4 2) 10 (va 11 41 qZ ra (BE 4 12 0 (sW (gB 12) (gB 12) aQ (gb 1 10)))) SU)
def Fl:af:=
 (pX oA q0 3 6 q0 1 uZ 6 (va 8 100 (rf 1 1 1 1 1 4) kI (BE 4 9 0 (sW (gB 9) (gB 9) aQ (ET 1 uZ bz pV (pd 1 uZ 6 (eI 11 (uQ 94 eX ra (.nt (fF 12) aQ (jo 4 72 7 (sZ 4 (np (ej 9 0) (ej 9 1) (ej 9 2) (ej 9 3))) 0 6 13))))))))) (ow 101 (ou 7) (va 8 53 (qN 2 5) kI (qW 9 9 SV))))
def ad8:af:=
 (ny oL 11 oL 1 (oN 2) 11 (va 12 100 (rf 1 1 1 1 1 4) (fF 12) (BE 4 13 0 (sW (gB 13) (gB 13) aQ (kU 53 (zR (ej 13 3) 2 5 .an) (tv 14 14 2 11))))))
def ad9:af:=
 (fz wM 10 wM 1 (q4 2) 10 (va 11 41 qZ ra (BE 4 12 0 (sW (gB 12) (gB 12) aQ (gb 1 10)))) ad8)
def SX:af:=
 (pX oA q0 3 6 q0 1 uZ 6 (va 8 100 (rf 1 1 1 1 1 4) kI (BE 4 9 0 (sW (gB 9) (gB 9) aQ (ET 1 uZ bz pV (pd 1 uZ 6 (eI 11 (uQ 94 eX ra (.nt (fF 12) aQ (jo 4 72 7 (sZ 4 (np (ej 9 0) (ej 9 1) (ej 9 2) (ej 9 3))) 0 6 13))))))))) (ow 101 (ou 7) (va 8 53 (qN 2 5) kI (qW 9 9 ad9))))
def VH:af:=
 (tx 5 (oz (kV 6 2) .lss (cW 2) aQ (fx dS .geq (cW 2) dS aQ (vP 6 me (cW 2) (jJ 6 3 q0 (cB (kH 3) (gA 3) (fx (kC (kH 3) (gA 3)) .neq q0 (kC (kH 3) (gA 3)) aQ (.aG (kH 3) (ET 1 uZ (kH 3) q0 (ow 53 (Bu (q4 2) 4) (qW 5 5 (.test (qN 2 4) (oz oL .gtr oL aQ (fe oL oL 12 Fl)) (fe oL oL 12 SX)))))))))))))
def alH:aL:=⟨cD,cE,cF,[⟨0,40,8,[(0,(8,0)),(0,(9,0))],[(4,3),(4,0)],[],[]⟩,⟨0,40,23,[(0,(15,0))],[],[],[]⟩,⟨0,40,17,[(0,(12,0))],[],[],[]⟩],cG⟩
theorem apE:aA ar3 alH 400 false 40=VH:=by kernel_rfl
def YV:af:=
 (jJ 5 0 bK (fV 41 jL bK (FN (H2 4 2 0) (gB 2) (vS (np (ej 2 0) (ej 2 1) (ej 2 2) (ej 2 3)) kX) (fV 41 me bK (cB (H2 4 3 0) (gB 3) (vS (np (ej 3 0) (ej 3 1) (ej 3 2) (ej 3 3)) (gB 3)))))))
def ag6:aL:=⟨cD,cE,cF,[],cG⟩
theorem alI:aA ar3 ag6 400 false 100=YV:=by kernel_rfl
def SY:af:=
 (fz bI 2 bI 4 aY 2 (rl (rp 3) (cW 3) bK (wS 4 2 (lD 4 (vS (fy 4 4 4 4) kX))) 0 2) (vS zi xV))
def acI:af:=
 (kB SY)
def alJ:aL:=⟨cD,cE,cF,[⟨0,41,2,[(0,(6,0))],[],[],[]⟩],cG⟩
theorem apF:aA ar3 alJ 400 false 41=acI:=by kernel_rfl
def SZ:af:=
 (zT (qX 4) (wE 6) 3 7 (wE 6) 1 (oN 6) 7 (fx gR .eql gR bK (oJ 8 (nw 1 7 (oI 8))) (er 1 7 8)) (er 0 3 8))
def S0:af:=
 (zT (qX 4) Fb 3 6 Fb 1 (q4 5) 6 (fx kI .eql kI bK (oJ 7 (nw 1 6 (oI 7))) (er 1 6 7)) (er 0 3 7))
def S1:af:=
 (pX bz bI 3 3 bI 6 aY 3 (jy 6 5 (.test bU (wS 6 3 (jy 6 6 SZ)) S0)) (.ret q9))
def acJ:af:=
 (kB (eI 2 S1))
def alK:aL:=⟨cD,cE,cF,[⟨0,42,3,[(0,(7,0)),(0,(8,0))],[],[],[]⟩,⟨0,42,9,[(0,(7,0)),(0,(10,0))],[],[],[]⟩],cG⟩
theorem apG:aA ar3 alK 400 false 42=acJ:=by kernel_rfl
def YW:List Nat:=[123,127,126,186,189,44,79,30,102,9,10,23,31,15,257,149,89,148,198,147,199,50,191,71,214,93,163,49,152,64,164,158,95,108,206,250,213,130,131,107,129,155,34,90,51,202,153,201,200,151,203,150,204,154,91,41,67,101,99,109,157,210,12,26,28,25,14,19,100,40,39,70,69,35,53,52,68,42,58,75,24,27,22,29,61,190,66,133,128,249,121,78,183]
def YX:List Nat:=[92,94,205]
def YY:List Nat:=[185,188,254]
def YZ:List Nat:=[155]
def G0:af:=
 (sY pe (jz 0) 3 2 (jz 0) (rl (mq 0 2) (gz 0 2) qZ (tc 0) 1 2) (Bv 0))
def G1:af:=
 (zT E8 BM 3 5 BM 4 dO 5 (jJ 4 7 (.rws pV) (uQ 511 pV (fy 7 7 7 7) (er 0 5 8))) (za pV))
def G2:af:=
 (zT (qX 0) s8 3 4 s8 4 dz 4 (jJ 4 6 (.rws q8) (uQ 511 q8 (fy 6 6 6 6) (er 0 4 7))) (za q8))
def PL:af:=
 (BD G0 2 (uz qZ (vR 1 8 0 (u7 1 1 1) (fH 206 (fy 1 1 1 1) 4 G1))) (fH 206 (fy 1 1 1 1) 3 G2))
def G3:af:=
 (zT (qX 0) dE 3 3 dE 4 bU 3 (jJ 4 5 (.rws q9) (uQ 511 q9 (fy 5 5 5 5) (er 0 3 6))) (za q9))
def Y0:af:=
 (mE (rp 1) .eql th 1 PL (fH 206 (fy 1 1 1 1) 2 G3))
def ag7:aL:=⟨YW,YX,YY,[⟨0,155,5,[(0,(6,0))],[(0,3),(0,0)],[(0,21),(0,11)],[]⟩,⟨0,155,1000014,[(0,(14,0))],[],[],[]⟩,⟨1,155015,2,[(1,(5,0))],[],[],[]⟩],YZ⟩
theorem alL:AR ar3 ag7 400 1 155=Y0:=by kernel_rfl
def S2:af:=
 (sY pe jr 3 10 jr (rl (mq 5 10) (gz 5 10) gR (tc 4) 5 10) kG)
def ad_:af:=
 (tj S2 (.nt (sV eX) (Bv 2) (gb 3 8)))
def S3:af:=
 (fz (iA 7) 8 (iA 7) 1 gy 8 (eI 9 ad_) (tc 2))
def aea:af:=
 (sY pe jr 3 11 jr (rl (mq 5 11) (gz 5 11) (gQ 10) (tc 2) 3 11) (Bv 2))
def aeb:af:=
 (sY pe jr 3 16 jr (rl (mq 5 16) (gz 5 16) (fF 15) (tc 4) 5 16) kG)
def aec:af:=
 (BD aeb 16 (Bv 2) (gb 3 14))
def aed:af:=
 (fz (iA 13) 14 (iA 13) 1 (fF 13) 14 (eI 15 aec) (tc 2))
def aee:af:=
 (BD aed 14 aQ (uV 4 6 bz (jJ 4 15 (.rw (gQ 15)) (jo 1 8 5 (u7 1 15 1) 1 4 16))))
def aef:af:=
 (tj aea (.test s9 aQ (uV 4 6 (.i 1) (oM 4 12 95 12 12 12 12 (eI 13 aee)))))
def aeg:af:=
 (BD S3 8 aQ (pW 6 0 4 (uV 4 6 bz (xX (rp 9) .neq (cW 9) 1 (uV 4 6 bz (lD 10 aef)))) (er 1 4 5)))
def PM:af:=
 (sY pe jr 3 9 jr (rl (mq 5 9) (gz 5 9) (gQ 8) (tc 2) 3 9) (Bv 2))
def PN:af:=
 (sY pe jr 3 14 jr (rl (mq 5 14) (gz 5 14) (fF 13) (tc 4) 5 14) kG)
def abh:af:=
 (BD PN 14 (Bv 2) (gb 3 12))
def PO:af:=
 (fz (iA 11) 12 (iA 11) 1 ra 12 (eI 13 abh) (tc 2))
def abi:af:=
 (BD PO 12 aQ (uV 4 6 bz (jJ 4 13 (.rw (gQ 13)) (jo 1 8 5 (u7 1 13 1) 1 4 14))))
def abj:af:=
 (tj PM (.test jK aQ (uV 4 6 (.i 1) (oM 4 10 95 10 10 10 10 (eI 11 abi)))))
def PQ:af:=
 (zT E8 (DO 4) 3 4 (DO 4) 3 (qN 0 4) 4 (xX (kV 3 6) .eql BI 3 (kJ .eql 6 0 (fH 93 (ot 6 0 6 1 (qv 6 2)) 7 aeg) (pW 6 0 4 (uV 4 6 bz (xX (rp 7) .neq (cW 7) 1 (uV 4 6 bz (lD 8 abj)))) (er 1 4 5)))) ja)
def PR:af:=
 (pX gx eg 3 2 eg 2 bK 2 (zl 4 50 4 4 (cB dy (.rws dy) (jo 1 8 3 dy 0 2 6))) PQ)
def acK:af:=
 (kY 6 0 91 (jN 0 0 0 0 0 0) (eI 1 PR))
def alM:aL:=⟨YW,YX,YY,[⟨0,35,8,[(0,(6,0))],[(1,0)],[],[]⟩,⟨1,35076,2,[(1,(5,0))],[],[],[]⟩,⟨1,35076,1000017,[(1,(17,0))],[],[],[]⟩,⟨2,35076018,2,[(2,(5,0))],[],[],[]⟩,⟨0,35,1000066,[(0,(66,0))],[],[],[]⟩,⟨1,35067,2,[(1,(5,0))],[],[],[]⟩,⟨1,35047,2,[(1,(5,0))],[],[],[]⟩,⟨1,35047,1000017,[(1,(17,0))],[],[],[]⟩,⟨2,35047018,2,[(2,(5,0))],[],[],[]⟩,⟨0,35,4,[(0,(3,0)),(0,(5,0))],[(1,0)],[],[]⟩,⟨0,35,1000075,[(0,(75,0))],[],[],[]⟩,⟨0,35,1000046,[(0,(46,0))],[],[],[]⟩],YZ⟩
theorem apH:aA ar3 alM 400 false 35=acK:=by kernel_rfl
end Go.Proofs.YtggffkaadeagbaaGreat
