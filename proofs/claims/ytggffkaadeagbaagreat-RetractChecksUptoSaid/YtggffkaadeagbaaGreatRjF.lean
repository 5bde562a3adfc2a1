/- A part of the proof, no condition: what the code of the law and of the checks of the program computes. -/
import Derived.Test.YtggffkaadeagbaaGreatEvJ
import Derived.Test.YtggffkaadeagbaaGreatRuA
import Derived.Test.YtggffkaadeagbaaGreatEvP
open Go.Proofs.Tryz renaming prog->aqD
set_option linter.all false
namespace Go.Proofs.YtggffkaadeagbaaGreat
open Go Go.Ev
def Ed:List Nat:=[123,127,126,186,189,44,79,30,102,9,10,23,31,15,257,149,89,148,198,147,199,50,191,71,214,93,163,49,152,64,164,158,95,108,206,250,213,130,131,107,129,155,34,90,51,202,153,201,200,151,203,150,204,154,91,41,67,101,99,109,157,210,12,26,28,25,14,19,100,40,39,70,69,35,53,52,68,42,58,98,96,75,211,136,83,192,85,11,24,27,22,13,29,61,36,33,32,84,47,143,46,190,66,87,45,138,133,88,128,249,121,78,183,256,156,16,17]
def Ee:List Nat:=[48,118,216]
def Ef:List Nat:=[185,188,254]
def Eg:List Nat:=[155,159,103,173000080,500139,500140,500097,600086]
def acI:ab:=
 (mw 6 0 fc (dI lB (qS fc lB) (.aQ (.dec 7 (qS fc lB) kZ) (nb 2 40 (GS 2) ng (lP 2 40 1 yL yG)))))
def alc:bj:=⟨Ed,Ee,Ef,[⟨999999,0,0,[],[],[],[]⟩],Eg⟩
theorem aoT:aI aqD alc 400 false 85=acI:=by kernel_rfl
def Tw:ab:=
 (ni 1 1 1 (oa dQ .lss dQ 1 a_ (n_ .gtr 3 dQ (.i 64) a_ (.nt (s5 .gtr 3 1) (.aQ (vX 1) (DA 1 bt (vX 1) (ov g_ .geq g_ dQ uD))) uD))) uc)
def acJ:ab:=
 (wh Tw)
def ald:bj:=⟨Ed,Ee,Ef,[⟨0,96,2,[(0,(7,0))],[],[],[]⟩,⟨999999,0,0,[],[],[],[]⟩],Eg⟩
theorem aoU:aI aqD ald 400 false 96=acJ:=by kernel_rfl
def Y9:ab:=
 (tx bt .geq bt 5 (.nr (q4 bt 12)))
def agQ:bj:=⟨Ed,Ee,Ef,[⟨999999,0,0,[],[],[],[]⟩],Eg⟩
theorem ale:aI aqD agQ 400 false 143=Y9:=by kernel_rfl
def Tx:ab:=
 (qT (sX 183 bt dy (dI dQ (DH .geq dQ cH) (Vc (DH .geq dQ cH)))))
def aeb:bj:=⟨Ed,Ee,Ef,[⟨999999,0,0,[],[],[],[]⟩],Eg⟩
theorem agR:aI aqD aeb 400 true 121=Tx:=by kernel_rfl
def Qm:ab:=
 (ni 2 1 2 (eZ 3 (lN 1 dy 2 (rp fz .neq g_ fz A7 ta))) E9)
def Y_:ab:=
 (M7 (rp gD .neq cj gD A7 (yE Qm)))
def agS:bj:=⟨Ed,Ee,Ef,[⟨0,78,4,[(0,(13,0))],[],[],[]⟩,⟨999999,0,0,[],[],[],[]⟩],Eg⟩
theorem alf:aI aqD agS 400 true 78=Y_:=by kernel_rfl
end Go.Proofs.YtggffkaadeagbaaGreat
namespace Go.Proofs.YtggffkaadeagbaaGreat
open Go Go.Ev
def pq:List Nat:=[123,127,126,186,189,44,79,30,102,9,10,23,31,15,257,149,89,148,198,147,199,50,191,71,214,93,163,49,152,64,164,158,95,108,206,250,213,130,131,107,129,155,34,90,51,202,153,201,200,151,203,150,204,154,91,41,67,101,99,109,157,210,12,26,28,25,14,19,100,40,39,70,69,35,53,52,68,42,58,98,96,75,211,136,83,192,85,11,24,27,22,13,29,61,36,33,32,84,47,143,46,190,66,87,45,138,133,88,128,249,121,78,183,256,156]
def pw:List Nat:=[38,48,80,118,134,216]
def px:List Nat:=[185,188,254]
def py:List Nat:=[155,159,103,173000080,500139,500140,500097,600086]
def Mg:ab:=
 (gE nc 4 tc 2 g_ 4 (A8 2 6 46 6 6 (dI s9 (.rws s9) (nb 1 8 dP s9 (qX 8)))) (kQ 1 5))
def Mh:ab:=
 (gE eW 1 cj 1 bt 1 (dI g_ tc Mg) (yH nc))
def Kp:ab:=
 (wh Mh)
def aec:bj:=⟨pq,pw,px,[⟨0,139,3,[(0,(3,0)),(0,(10,0))],[(0,0)],[],[]⟩,⟨0,139,6,[(0,(3,0)),(0,(16,0))],[(0,0)],[],[]⟩,⟨999999,0,0,[],[],[],[]⟩],py⟩
theorem agT:pd aqD aec 400 false 139=Kp:=by kernel_rfl
def Mi:ab:=
 (s7 3 qq 2 dQ 3 (A8 2 4 46 4 4 (yO (.sub 1 jI (kA 5) cH) (dT 1 3))) uD)
def Mj:ab:=
 (ni 1 1 1 (dI dQ qq Mi) (.ret eW))
def Kq:ab:=
 (wh Mj)
def aed:bj:=⟨pq,pw,px,[⟨0,139,3,[(0,(10,0))],[],[],[]⟩,⟨0,139,6,[(0,(16,0))],[],[],[]⟩,⟨999999,0,0,[],[],[],[]⟩,⟨999998,0,0,[],[],[],[]⟩],py⟩
theorem agU:pd aqD aed 400 true 139=Kq:=by kernel_rfl
def Mk:ab:=
 (gE nc 4 tc 3 g_ 4 (gi 3 6 87 (vW 6 0 6 1 6 2) (dI s9 (.rws s9) (nb 1 8 dP s9 (qX 8)))) (kQ 1 5))
def Ml:ab:=
 (gE eW 1 cj 1 bt 1 (dI g_ tc Mk) (yH nc))
def Kr:ab:=
 (wh Ml)
def aee:bj:=⟨pq,pw,px,[⟨0,140,3,[(0,(3,0)),(0,(10,0))],[(0,0)],[],[]⟩,⟨0,140,6,[(0,(3,0)),(0,(16,0))],[(0,0)],[],[]⟩,⟨999999,0,0,[],[],[],[]⟩],py⟩
theorem agV:pd aqD aee 400 false 140=Kr:=by kernel_rfl
def Mm:ab:=
 (s7 3 qq 3 dQ 3 (gi 3 4 87 (vW 4 0 4 1 4 2) (yO (.sub 1 jI (kA 5) cH) (dT 1 3))) uD)
def Mn:ab:=
 (ni 1 1 1 (dI dQ qq Mm) (.ret eW))
def Ks:ab:=
 (wh Mn)
def aef:bj:=⟨pq,pw,px,[⟨0,140,3,[(0,(10,0))],[],[],[]⟩,⟨0,140,6,[(0,(16,0))],[],[],[]⟩,⟨999999,0,0,[],[],[],[]⟩,⟨999998,0,0,[],[],[],[]⟩],py⟩
theorem agW:pd aqD aef 400 true 140=Ks:=by kernel_rfl
def Ty:ab:=
 (ni 3 2 3 (abX 2 4 86 (vw dy dQ) (H5 4 4) (.nr (E5 3)) yJ) a_)
def acK:ab:=
 (qT (dI dQ cj Ty))
def alg:bj:=⟨pq,pw,px,[⟨2,47012008,2,[(2,(8,0))],[],[],[]⟩,⟨999999,0,0,[],[],[],[]⟩],py⟩
theorem aoV:aI aqD alg 400 false 47=acK:=by kernel_rfl
def Tz:ab:=
 (gE Bb 2 tl 2 pO 2 (gi 2 4 83 (dR 4) (qp 5 5 (vy (.i 7) (DE 0 (.i 7))) (lE .geq 4 1 (GP (q4 (i_ 4) 6) (q4 (i_ 4) 6) (vy (.i 9) (DE 0 (.i 9))) (.bind (pQ (.get 86 pR (H5 4 4) Dz)) (GP (sV lD) (sV lD) (vy (.i 8) (DE 0 (.i 8))) (wg 86 pR (H5 4 4) kZ (A4 2 7))))) (vy (.i 9) (DE 0 (.i 9)))))) (yM fc (q4 fc 40) (q4 fc 40) (vy (.i 6) (DE 0 (.i 6))) (.next 0 aad)))
def TA:ab:=
 (s7 2 fc 6 ng 2 (lO 6 3 (sX 84 pO (kN 3 3 3 2 3 3 3 4 3 5) (yN fz 31 fz (sY nc fz) ta))) (sY cH cH))
def TB:ab:=
 (.kz (gZ 1148 (JW 172) (yM tl (q4 tl 30) (q4 tl 30) (vy (.i 6) (DE 0 (.i 6))) (.aQ tl Tz))) 1 (.nt (s5 .neq 31 1) (Bj (.var 1)) (.aQ fc TA)))
def Wb:ab:=
 (lO 2 0 TB)
def alh:bj:=⟨pq,pw,px,[⟨0,32,5,[(0,(15,0))],[],[],[]⟩,⟨2,32010000,3,[(2,(13,0))],[(2,0)],[],[]⟩,⟨0,32,1000008,[(0,(8,0))],[],[],[]⟩,⟨999999,0,0,[],[],[],[]⟩],py⟩
theorem aoW:aI aqD alh 400 false 32=Wb:=by kernel_rfl
def TC:ab:=
 (s7 2 fc 6 ng 2 (gi 6 3 33 (kN 3 3 3 2 3 3 3 4 3 5) (my 4 4 (ru 19) 0 2)) v8)
def acL:ab:=
 (gi 2 0 32 nf (.aQ (wj 1) (yN (jC 1) 31 (jC 1) Bf (.aQ fc TC))))
def ali:bj:=⟨pq,pw,px,[⟨0,11,5,[(0,(17,0))],[],[],[]⟩,⟨999999,0,0,[],[],[],[]⟩],py⟩
theorem aoX:aI aqD ali 400 false 11=acL:=by kernel_rfl
def TD:ab:=
 (gE pR 6 (kA 5) 1 jI 6 (eZ 8 (wg 3 Bo th .an (A4 6 9))) (kQ 2 7))
def TE:ab:=
 (JU dP (DC 3 12 (.len (oC 7 1)) (Ff (oC 7 1) (.var 12) (wg 3 uC (tb (oC 7 1) 12) .an (AV 2 12 14))) (qX 13)))
def TF:ab:=
 (gE pR 4 (DG 4) 3 (ju 0 4) 4 (oa (lM 3 6) .eql Ba 1 Be (q0 6 0 2 Be (lE .eql 6 0 (kC 87 (vW 6 0 6 1 6 2) 7 (uH 2222 dP s9 (uz jx a_ Be))) (q0 6 0 4 (wo 4 6 2 (oa (tz 7) .neq (dR 7) 1 a_ (.aQ (.rM 0 (.get 3 dP (i_ 7) .an)) (Bm 3 dP (i_ 7) (.test jx a_ (E7 4 6 2 (.i 1) (oA 4 9 88 9 9 9 9 (eZ 10 (uH 2222 dP Br (uz jz a_ (dI (.rw (i_ 7)) (.len (oC 7 1)) TE))))))))))) a_)))) uc)
def TG:ab:=
 (gE Bb 2 gD 2 dy 2 (A8 2 4 46 4 4 (yO (kA 5) TD)) (.aQ (DG 4) TF))
def acM:ab:=
 (gi 6 0 85 (kN 0 0 0 2 0 3 0 4 0 5) (dI dy gD TG))
def alj:bj:=⟨pq,pw,px,[⟨0,33,8,[(0,(25,0))],[(1,0)],[],[]⟩,⟨0,33,3,[(0,(13,0))],[(1,0)],[],[]⟩,⟨1,33071,1,[(1,(8,0))],[(1,0)],[],[]⟩,⟨1,33021,1,[(1,(8,0))],[(1,0)],[],[]⟩,⟨999999,0,0,[],[],[],[]⟩],py⟩
theorem aoY:aI aqD alj 400 false 33=acM:=by kernel_rfl
def acN:ab:=
 (Bl 4 (dI dQ fy (kB 45 (oW 1 1 1 2) (wk g_ (kC 46 (oW 1 1 1 2) 4 (pM (kA 4) (kA 4) (sZ 2 (sU 47 (H6 0 1 (jf jA)) (wk jI (n_ .gtr 3 fy cH (kB 96 pL (wk jy (.aQ (uB fy) (DA 1 pL (uB fy) (eZ 7 (.nr (DH .leq s9 dQ))))))) a_)))) a_))))))
def alk:bj:=⟨pq,pw,px,[⟨999999,0,0,[],[],[],[]⟩],py⟩
theorem aoZ:aI aqD alk 400 false 36=acN:=by kernel_rfl
def Qn:ab:=
 (gE Bb 1 cj 1 bt 1 (eZ 3 (wg 3 nc g_ .an (kQ 1 4))) yG)
def Za:ab:=
 (wh Qn)
def agX:bj:=⟨pq,pw,px,[⟨1,97008,1,[(1,(8,0))],[(0,0)],[(0,2)],[]⟩,⟨999999,0,0,[],[],[],[]⟩],py⟩
theorem alm:BM aqD agX 400 97=Za:=by kernel_rfl
def Qo:ab:=
 (s7 2 gD 1 dy 2 (dI g_ (.rM 0 (.get 3 wi g_ .an)) (Bm 3 wi g_ (uz q3 (dI (E5 2) (sV (E5 2)) (Vc (sV (E5 2)))) ta))) E9)
def Qp:ab:=
 (dI dy gD Qo)
def agY:bj:=⟨pq,pw,px,[⟨3,86008008,2,[(3,(8,0))],[],[],[]⟩,⟨999999,0,0,[],[],[],[]⟩],py⟩
theorem aln:G2 aqD agY 400 86=Qp:=by kernel_rfl
end Go.Proofs.YtggffkaadeagbaaGreat
