/- A part of the proof, no condition: what functions of the program and of the reference compute. -/
import Derived.Test.YtabefplkfkfdfaaGreatPAf
import Derived.Test.YtabefplkfkfdfaaGreatPAh
import Derived.Test.YtabefplkfkfdfaaGreatPAg
import Derived.ProofKit
import Derived.OpenShut
import Derived.Test.YtabefplkfkfdfaaGreatRows
import Derived.LaidMore
import Derived.Stop.Joined
import Derived.SevenTiedAt
import Derived.Lib.SmallJoins
import Derived.WideKeyArgs
import Derived.Below
import Derived.JoinedCond
open Go.Proofs.Tryz renaming prog->ayu,checked->aCw,f3->aBz,func3->aD6
open List renaming map_cons->azs,getElem?_eq_some_iff->ayw,getElem?_eq_getElem->ayv,cons_append->azv,nil_append->azl,append_assoc->ayJ,length_append->ayC,range->azR,range_succ->aDq,append_nil->ayO,eq_nil_of_length_eq_zero->ayZ,getD_eq_getElem?_getD->azo,length_cons->ay6,length_take->azq,mem_cons->ayN,mem_map->azb,getElem_mem->ayy,mem_singleton->ayQ,drop_of_length_le->ay3,take_length->aAr,length_flatten->azS,replicate->ayX,mem_cons_of_mem->azA,mem_of_mem_take->azI,mem_of_getElem?->ayM,mem_append->ayS,take_of_length_le->ayF,mem_append_left->ay9,mem_flatMap->azJ,ofFn->aBj,mem_ofFn->aDM,getElem?_map->ayR,getElem?_ofFn->aCU,length_eq_one_iff->aBp
open Option.some renaming inj->aBe,injEq->ayB
open Nat renaming add_zero->aBu,le_refl->ayA,le_trans->ayU,mod_lt->aDa,zero_le->azi,add_assoc->aBY,div_lt_of_lt_mul->aCN,mul_comm->aBZ,div_add_mod->aDE
open Option renaming bind_some->ayx,getD_some->azh,bind_eq_some_iff->ayV,map_some->ay_,map_eq_some_iff->ayG
open Go.IntKind renaming i64->ay1,u64->aBn
open Bool renaming false_and->aAf,false_eq_true->ayW,not_false->aBv,and_true->aBF,not_true->az4,and_false->aBw,and_eq_true->ayz,eq_iff_iff->aAy,not_eq_true->aA0
open Go.Op renaming bytesLess->aAF,intDiv->aCD
open Go.Addr renaming add->aDD
open Go.DataW renaming trod->azw,trod_slice->aDb,trod_struct->aCV,trod_int->aDr,TrodAll->aCk
open List.cons renaming inj->aAp
open Classical renaming axiomOfChoice->aCd
open Go.World renaming cell?_spot->aDc
open Prod.mk renaming injEq->ay7
open Array renaming getElem?_eq_some_iff->azj,length_toList->aA2
open Go.Proofs.YtabefplkfkfdfaaGreat.Rows renaming uptoBulkAll->azX,compileBlocksSpec->aAb,uptoSmall->aDF,compileBlocksUptoRow->az5
open Go.Proofs.YtabefplkfkfdfaaGreat.Rows.OpenSpec renaming upto->aAi
open Go.Value renaming agg->aD7
open Go.WideElems renaming Trod_stays->aBm
open Go.Proofs.YtabefplkfkfdfaaGreat.Tryz renaming pinned->aB9
open Go.OpenClaim renaming holds_of_cond->aEh
open Option renaming some->aa,none->ah
open Bool renaming true->ab,false->af
set_option linter.all false
namespace Go.Proofs.YtabefplkfkfdfaaGreat
open Go Go.Ev
def anW:ak:=
 (mT 23 24 3 5 4 24 (mS 3 26 25 9 26 0 26 1 26 2 2 3 24 1 27) 2 0 5 5 25 10 2 0 5 5 (rO 26 26 200 7 6 2 0 2 1 26))
def anX:ak:=
 (mT 22 23 3 5 4 23 (mS 3 25 24 9 25 0 25 1 25 2 2 3 23 1 26) 2 0 5 5 24 10 2 0 5 5 (rO 25 25 200 7 6 2 0 2 1 25))
def anY:ak:=
 (mT 22 23 3 5 4 23 (mS 3 25 24 9 25 0 25 1 25 2 2 3 23 1 26) 2 0 5 5 24 10 2 0 5 5 (rO 25 25 200 7 6 2 0 2 1 25))
def anZ:ak:=
 (mT 20 22 3 5 4 22 (mS 3 24 23 9 24 0 24 1 24 2 2 3 22 1 25) 2 0 5 5 23 10 2 0 5 5 (rO 24 24 200 7 6 2 0 2 1 24))
def an0:ak:=
 (mT 21 22 3 5 4 22 (mS 3 24 23 9 24 0 24 1 24 2 2 3 22 1 25) 2 0 5 5 23 10 2 0 5 5 (rO 24 24 200 7 6 2 0 2 1 24))
def an1:ak:=
 (mT 20 21 3 5 4 21 (mS 3 23 22 9 23 0 23 1 23 2 2 3 21 1 24) 2 0 5 5 22 10 2 0 5 5 (rO 23 23 200 7 6 2 0 2 1 23))
def V7:ak:=
 (zH (ko xL 18) ek 19 6 (MA 19 (qx 20 (tq v8 19 xy) (ew 19 21))) (.test FO (xN 45 (d_ 5 5 5 5 5 5) 21 21 (Mu 20 (.i 7) xy (tz mR (F8 2 0 (BO 22 v7 2 0 ek (rG anW))) anX)) (tz mR (F8 2 0 (BO 20 v7 2 0 ek (rG anY))) anZ)) (tz mR (F8 2 0 (BO 20 v7 2 0 ek (rG an0))) an1)))
def an2:ak:=
 (mT 22 23 3 5 4 23 (mS 3 25 24 9 25 0 25 1 25 2 2 3 23 1 26) 2 0 5 5 24 10 2 0 5 5 (rO 25 25 200 7 6 2 0 2 1 25))
def an3:ak:=
 (mT 21 22 3 5 4 22 (mS 3 24 23 9 24 0 24 1 24 2 2 3 22 1 25) 2 0 5 5 23 10 2 0 5 5 (rO 24 24 200 7 6 2 0 2 1 24))
def an4:ak:=
 (mT 21 22 3 5 4 22 (mS 3 24 23 9 24 0 24 1 24 2 2 3 22 1 25) 2 0 5 5 23 10 2 0 5 5 (rO 24 24 200 7 6 2 0 2 1 24))
def ajN:ak:=
 (mT 19 21 3 5 4 21 (mS 3 23 22 9 23 0 23 1 23 2 2 3 21 1 24) 2 0 5 5 22 10 2 0 5 5 (rO 23 23 200 7 6 2 0 2 1 23))
def ajO:ak:=
 (mT 20 21 3 5 4 21 (mS 3 23 22 9 23 0 23 1 23 2 2 3 21 1 24) 2 0 5 5 22 10 2 0 5 5 (rO 23 23 200 7 6 2 0 2 1 23))
def ajP:ak:=
 (mT 19 20 3 5 4 20 (mS 3 22 21 9 22 0 22 1 22 2 2 3 20 1 23) 2 0 5 5 21 10 2 0 5 5 (rO 22 22 200 7 6 2 0 2 1 22))
def O_:ak:=
 (zH (ko xL 16) ek 18 6 (MA 18 (qx 19 (tq v8 18 xy) (ew 18 20))) (.test FO (xN 45 (d_ 5 5 5 5 5 5) 20 20 (Mu 19 (.i 7) xy (tz mR (F8 2 0 (BO 21 v7 2 0 ek (rG an2))) an3)) (tz mR (F8 2 0 (BO 19 v7 2 0 ek (rG an4))) ajN)) (tz mR (F8 2 0 (BO 19 v7 2 0 ek (rG ajO))) ajP)))
def Pa:ak:=
 (sF (ik 14) (mc 2 3) (BP 15 2 3) (n_ 42 (j2 ij bo (ko nJ 15)) (pJ mR mR (IS 7 13) (n_ 2185 (j2 ij bo (ko nJ 15)) (lU 7 96 16 (.var 18) (js 15 19))))) (iP 44 (d_ 5 5 5 5 5 5) (.nt mR (F8 2 0 (BO 16 (.i 5) 2 0 ek (qy 5 1 V7))) (qy 5 1 O_))))
def abm:ak:=
 (xQ (jq 6 2 9 ij (RC (xK 3) 3 (rE .neq zy aY (IS 7 2) (eL 38 ij nJ (mD 4 4 (IS 7 2) (tN 6 1 zx (qD 6 5 39 5 5 5 5 5 5 (dY 6 (lY bV xu 7 (aaI 2182 (vQ 7 7) 2 1 oZ (rN 1 2 5 aY 9 (eL 2183 (d_ 5 5 5 5 5 5) rR (lU 7 96 8 rH (rN 1 2 5 eB 12 (eL 2183 (d_ 5 5 5 5 5 5) F5 (lU 7 96 11 xz Pa)))))))))))))))))
theorem an5:aE ayu (cB [⟨0,12,27,[(0,(16,0))],[(4,0)],[(0,65),(0,98),(0,124),(0,134)],[]⟩,⟨0,12,19,[(0,(15,0))],[(4,0)],[(0,65),(0,98)],[]⟩,⟨0,12,10,[(0,(13,0))],[(4,0)],[(0,65)],[]⟩]) 400 af 12=abm:=by kernel_rfl
def cf3:ak:=
 (xQ (jq 7 2 7 ij (mD 3 3 dZ (xN 8 bo 4 4 dZ (nD (mc 2 3) (mc 2 3) 6 dZ (nD (mc 2 4) (mc 2 4) 6 dZ (nD (mc 2 5) (mc 2 5) 9 dZ (iP 9 ij (RC (xK 5) 5 (sC (uU .rem 33 (mY 2 6) (.k .u64 3)) .gtr 33 (uU .rem 33 (mY 2 6) (.k .u64 3)) (.k .u64 0) (mU (pB 5) aY (iP 10 ij (gi 6 ek (rE .gtr ek aY (gh (uU .quo 33 (mY 2 6) (.k .u64 3)) ek (gh (xR ek) (uU .rem 33 (uU .quo 33 (mY 2 6) (.k .u64 3)) (xR ek)) (.aV (MD 33 3 (uU .rem 33 (uU .quo 33 (mY 2 6) (.k .u64 3)) (xR ek))) (RA 6 bV (MD 33 3 (uU .rem 33 (uU .quo 33 (mY 2 6) (.k .u64 3)) (xR ek))) 6 7 (tF 11 bo (d_ 7 7 7 7 7 7) 4 8 0 8 (tF 12 bo (d_ 7 7 7 7 7 7) 4 9 0 9 (mU (pB 8) (pB 9) (eL 13 (Ct 8 0 8 8 2 8 3) (Ct 9 0 9 9 2 9 3) (rS F7 (FP 14 .an rM))) bT))))))) (tF 11 bo nJ 4 7 0 7 (tF 12 bo nJ 4 8 0 8 (mU (pB 7) (pB 8) (eL 13 (Ct 7 0 7 7 2 7 3) (Ct 8 0 8 8 2 8 3) (rS rR (FP 14 .an F7))) bT)))))) (tF 11 bo nJ 4 6 0 6 (tF 12 bo nJ 4 7 0 7 (mU (pB 6) (pB 7) (eL 13 (Ct 6 0 6 6 2 6 3) (Ct 7 0 7 7 2 7 3) (rS jR (FP 14 .an rR))) bT)))) (tF 11 bo nJ 4 6 0 6 (tF 12 bo nJ 4 7 0 7 (mU (pB 6) (pB 7) (eL 13 (Ct 6 0 6 6 2 6 3) (Ct 7 0 7 7 2 7 3) (rS jR (FP 14 .an rR))) bT)))))))))))))
theorem cx3:aE ayu (cB []) 400 af 3=cf3:=by kernel_rfl
section
def Gt(g:Gl):In:=⟨9,0,0,g,[]⟩
def DA(n v:Int):In:=⟨10,n,v,jw,[]⟩
def Gu(n m:Int):In:=⟨8,n,m,jw,[]⟩
def zO:In:=⟨7,0,0,jw,[]⟩
def wj(gs:List Gl):List In:=(gs.map Gt).reverse
def iK(gs:List Gl)(m:Nat):List In:=wj (gs.drop m)
theorem Jk(gs:List Gl):iK gs 0=wj gs:=rfl
theorem CS(gs:List Gl):iK gs gs.length=[]:=by simp[iK,wj]
theorem zP{gs:List Gl}{m:Nat}(h:m<gs.length):iK gs m=iK gs (m+1)++[Gt gs[m]]:=by
 unfold iK wj;rw[List.drop_eq_getElem_cons h,azs,List.reverse_cons]
theorem ph(gs:List Gl)(m:Nat):(iK gs m).length<=gs.length:=by
 unfold iK wj;simp
def nN:IV:=.agg [iI 0,iI 0,iB af,bL []]
def xh(o:Oc)(c:List In):IV:=.agg [iI o.r,iI o.h,iB o.k,bL c]
def wk(o:Oc)(c:List In):IV:=if 200<c.length then .aL [nN,iI 6]else .aL [xh o c,iI 0]
section
variable{Q:IV->Prop}{k0 k1 k2:List IV->Prop}{hs:List At}{x0 x1 x2 x3 x4 x5 x6 x7 x8 x9 bN bW cT cG cV gp dP eT g_ gj iZ ow wG wF:IV}
theorem Ey{G I:List IV}{i:Nat}{z:IV}(h:G[i]?=aa z):(G++I)[i]?=aa z:=by
 rw[List.getElem?_append_left (ayw.1 h).1,h]
theorem QY{l:List IV}{i:Nat}{z:IV}(h:i<l.length)(e:l[i]?=aa z):l[i]=z:=by
 rw[ayv h]at e;exact aBe e
theorem u7{G I l:List IV}{n k:Nat}{z:IV}(hn:G.length=n)(h:l[k]?=aa z):(G++(l++I))[n+k]?=aa z:=by
 subst hn;rw[List.getElem?_append_right ai,Nat.add_sub_cancel_left];exact Ey h
def ahK(c n:Nat):ak:=
 (.loop (.ac (.ok (.bin .sub 3 (.len (.bC (.var 5) 4)) (.i 1))) (.ac (.var c) .an))
 (.aV (.ok (.bin .geq 3 (.var n) (.i 0)))
 (.test (.ok (.bin .geq 3 (.var n) (.i 0)))
 (.bind (.idx 3 (.bC (.var 5) 4) (.var n))
 (.aV (.uM 3 (.var (n+2)))
 (.bind (.cat 7 96 (.var (n+1)) (.tr 7 (.ac (.ac (.i 9) (.ac (.i 0) (.ac (.i 0) (.ac (.bC (.var (n+2)) 0) (.ac (.bC (.var (n+2)) 1) (.ac (.bC (.var (n+2)) 2) (.ac (.tr 4 .an) .an))))))) .an)))
 (.aV (.ok (.bin .sub 3 (.var n) (.i 1)))
 (.next 2 (.ac (.ok (.bin .sub 3 (.var n) (.i 1))) (.ac (.var (n+3)) .an)))))))
 (.aV (.rw (.bC (.var 2) 0))
 (.aV (.rw (.bC (.var 5) 5))
 (.bind (.cat 7 96 (.var (n+1)) (.tr 7 (.ac (.ac (.i 10) (.ac (.bC (.var 2) 0) (.ac (.bC (.var 5) 5) (.ac (.i 0) (.ac (.s []) (.ac (.tr 4 .an) (.ac (.tr 4 .an) .an))))))) .an)))
 (.aV (.len (.var (n+2)))
 (.aV (.ok (.bin .gtr 3 (.len (.var (n+2))) (.i 200)))
 (.test (.ok (.bin .gtr 3 (.len (.var (n+2))) (.i 200)))
 (.ret (.tp (.ac (.ac (.i 0) (.ac (.i 0) (.ac (.b af) (.ac (.tr 7 .an) .an)))) (.ac (.i 6) .an))))
 (.ret (.tp (.ac (.ac (.bC (.var 2) 0) (.ac (.bC (.var 2) 1) (.ac (.bC (.var 2) 2) (.ac (.var (n+2)) .an)))) (.ac (.i 0) .an)))))))))))))
theorem xi{c n:Nat}{G:List IV}{u0 u1 u2 u3:IV}(x:Pn)(r:Rl)(hb:r.aI.length<=6)(code:List In)(hl:code.length<=5000)(h2:G[2]?=aa (aZ x))(h5:G[5]?=aa (.agg [u0,u1,u2,u3,iX r.aI,iI r.vars]))(hc:G[c]?=aa (bL code))(hn:G.length=n)(hQ:Q (wk x.o (code++wj r.aI++[DA x.o.r r.vars]))):
 (ahK c n).sat ayu CC Q [k0,k1] G:=by
 rw[show aZ x=.agg [iI x.o.r,iI x.o.h,iB x.o.k,iL x.aH,bg x.cM,bg x.cj]from rfl]at h2;have a2:=λI=>Ey (I:=I) h2;have a5:=λI=>Ey (I:=I) h5;have ac:=λI=>Ey (I:=I) hc;have g2:=λI (h:2<(G++I).length)=>QY h (a2 I);have g5:=λI (h:5<(G++I).length)=>QY h (a5 I);have b0:=λa I=>u7 (k:=0) (I:=I) hn (l:=[a]) rfl;have b1:=λa b I=>u7 (k:=1) (I:=I) hn (l:=[a,b]) rfl;have b2:=λa b c I=>u7 (k:=2) (I:=I) hn (l:=[a,b,c]) rfl;have b3:=λa b c d I=>u7 (k:=3) (I:=I) hn (l:=[a,b,c,d]) rfl;have b4:=λa b c d e I=>u7 (k:=4) (I:=I) hn (l:=[a,b,c,d,e]) rfl;simp only[azv,azl,aBu]at b0 b1 b2 b3 b4;unfold ahK;refine eM (λ(m:Nat)=>[iI ((m:Int) - 1),bL (code++iK r.aI m)]) (λm=>m<=r.aI.length) (λm=>m) r.aI.length ?_ (ayA _) λm hm=>?_
 .simp[-ayx,dC,h5,hc,CI (show r.aI.length<=1000 by omega),CS]
 rcases m with _|m
 .have hz:¬((0:Nat):Int) - 1≥0:=ai;simp[-ayx,dC,a2,a5,g2,b0,b1,b2,b3,ayJ,aF,cellsOf];refine⟨_,dQ (a:=code++iK r.aI 0) (i:=DA x.o.r r.vars) (by have:=ph r.aI 0;rw[ayC];omega),?_⟩;rw[Jk];generalize code++wj r.aI++[DA x.o.r r.vars]=C at*
  unfold wk at hQ;by_cases e:200<C.length
  .rw[if_pos e]at hQ;simp[-ayx,dC];left;exact⟨by omega,hQ⟩
  .rw[if_neg e]at hQ;simp[-ayx,dC];right;exact⟨by omega,hQ⟩
 .have Im:m<r.aI.length:=ai;have hG:=gJ Im;have hw:ay1.wrap ((m:Int) - 1)=(m:Int) - 1:=dD ai ai;have Ip:=dQ (a:=code++iK r.aI (m+1)) (i:=Gt r.aI[m]) (by have:=ph r.aI (m+1);rw[ayC];omega);rw[ayJ,<-zP Im]at Ip;have om:((m+1:Nat):Int) - 1=(m:Int):=ai;simp only[om];generalize code++iK r.aI (m+1)=C1 at*
  simp[-ayx,dC,a2,a5,g2,b0,b1,b2,b3,ayJ,hG,hw,ao,cellsOf];exact⟨_,Ip,.mk m rfl ai ai⟩
def ahL(c n:Nat):ak:=
 (.loop (.ac (.ok (.bin .sub 3 (.len (.bC (.var 5) 4)) (.i 1))) (.ac (.var c) .an))
 (.aV (.ok (.bin .geq 3 (.var n) (.i 0)))
 (.test (.ok (.bin .geq 3 (.var n) (.i 0)))
 (.bind (.idx 3 (.bC (.var 5) 4) (.var n))
 (.aV (.uM 3 (.var (n+2)))
 (.bind (.cat 7 96 (.var (n+1)) (.tr 7 (.ac (.ac (.i 9) (.ac (.i 0) (.ac (.i 0) (.ac (.bC (.var (n+2)) 0) (.ac (.bC (.var (n+2)) 1) (.ac (.bC (.var (n+2)) 2) (.ac (.tr 4 .an) .an))))))) .an)))
 (.aV (.ok (.bin .sub 3 (.var n) (.i 1)))
 (.next 3 (.ac (.ok (.bin .sub 3 (.var n) (.i 1))) (.ac (.var (n+3)) .an)))))))
 (.aV (.rw (.bC (.var 2) 0))
 (.aV (.rw (.bC (.var 5) 5))
 (.bind (.cat 7 96 (.var (n+1)) (.tr 7 (.ac (.ac (.i 10) (.ac (.bC (.var 2) 0) (.ac (.bC (.var 5) 5) (.ac (.i 0) (.ac (.s []) (.ac (.tr 4 .an) (.ac (.tr 4 .an) .an))))))) .an)))
 (.next 1 (.ac (.var (n+2)) .an))))))))
theorem Lm{c n:Nat}{G:List IV}{u0 u1 u2 u3:IV}(x:Pn)(r:Rl)(hb:r.aI.length<=6)(code:List In)(hl:code.length<=5000)(h2:G[2]?=aa (aZ x))(h5:G[5]?=aa (.agg [u0,u1,u2,u3,iX r.aI,iI r.vars]))(hc:G[c]?=aa (bL code))(hn:G.length=n)(hQ:k1 [bL (code++wj r.aI++[DA x.o.r r.vars])]):
 (ahL c n).sat ayu CC Q [k0,k1,k2] G:=by
 rw[show aZ x=.agg [iI x.o.r,iI x.o.h,iB x.o.k,iL x.aH,bg x.cM,bg x.cj]from rfl]at h2;have a2:=λI=>Ey (I:=I) h2;have a5:=λI=>Ey (I:=I) h5;have ac:=λI=>Ey (I:=I) hc;have g2:=λI (h:2<(G++I).length)=>QY h (a2 I);have g5:=λI (h:5<(G++I).length)=>QY h (a5 I);have b0:=λa I=>u7 (k:=0) (I:=I) hn (l:=[a]) rfl;have b1:=λa b I=>u7 (k:=1) (I:=I) hn (l:=[a,b]) rfl;have b2:=λa b c I=>u7 (k:=2) (I:=I) hn (l:=[a,b,c]) rfl;have b3:=λa b c d I=>u7 (k:=3) (I:=I) hn (l:=[a,b,c,d]) rfl;have b4:=λa b c d e I=>u7 (k:=4) (I:=I) hn (l:=[a,b,c,d,e]) rfl;simp only[azv,azl,aBu]at b0 b1 b2 b3 b4;unfold ahL;refine eM (λ(m:Nat)=>[iI ((m:Int) - 1),bL (code++iK r.aI m)]) (λm=>m<=r.aI.length) (λm=>m) r.aI.length ?_ (ayA _) λm hm=>?_
 .simp[-ayx,dC,h5,hc,CI (show r.aI.length<=1000 by omega),CS]
 rcases m with _|m
 .have hz:¬((0:Nat):Int) - 1≥0:=ai;simp[-ayx,dC,a2,a5,b0,b1,b2,b3,ayJ,aF,cellsOf];refine⟨_,dQ (a:=code++iK r.aI 0) (i:=DA x.o.r r.vars) (by have:=ph r.aI 0;rw[ayC];omega),?_⟩;rw[Jk];simp;simpa using hQ
 .have Im:m<r.aI.length:=ai;have hG:=gJ Im;have hw:ay1.wrap ((m:Int) - 1)=(m:Int) - 1:=dD ai ai;have Ip:=dQ (a:=code++iK r.aI (m+1)) (i:=Gt r.aI[m]) (by have:=ph r.aI (m+1);rw[ayC];omega);rw[ayJ,<-zP Im]at Ip;have om:((m+1:Nat):Int) - 1=(m:Int):=ai;simp only[om];generalize code++iK r.aI (m+1)=C1 at*
  simp[-ayx,dC,a2,a5,b0,b1,b2,b3,ayJ,hG,hw,ao,cellsOf];exact⟨_,Ip,.mk m rfl ai ai⟩
def ahM(c n:Nat):ak:=
 (.loop (.ac (.ok (.bin .sub 3 (.len (.bC (.var 5) 4)) (.i 1))) (.ac (.var c) (.ac (.bC (.var 5) 4) .an)))
 (.aV (.ok (.bin .geq 3 (.var n) (.i 0)))
 (.test (.ok (.bin .geq 3 (.var n) (.i 0)))
 (.bind (.idx 3 (.var (n+2)) (.var n))
 (.aV (.uM 3 (.var (n+3)))
 (.bind (.cat 7 96 (.var (n+1)) (.tr 7 (.ac (.ac (.i 9) (.ac (.i 0) (.ac (.i 0) (.ac (.bC (.var (n+3)) 0) (.ac (.bC (.var (n+3)) 1) (.ac (.bC (.var (n+3)) 2) (.ac (.tr 4 .an) .an))))))) .an)))
 (.aV (.ok (.bin .sub 3 (.var n) (.i 1)))
 (.next 3 (.ac (.ok (.bin .sub 3 (.var n) (.i 1))) (.ac (.var (n+4)) (.ac (.var (n+2)) .an))))))))
 (.aV (.rw (.bC (.var 2) 0))
 (.aV (.rw (.bC (.var 5) 5))
 (.bind (.cat 7 96 (.var (n+1)) (.tr 7 (.ac (.ac (.i 10) (.ac (.bC (.var 2) 0) (.ac (.bC (.var 5) 5) (.ac (.i 0) (.ac (.s []) (.ac (.tr 4 .an) (.ac (.tr 4 .an) .an))))))) .an)))
 (.next 1 (.ac (.var (n+3)) .an))))))))
theorem V8{c n:Nat}{G:List IV}{u0 u1 u2 u3:IV}(x:Pn)(r:Rl)(hb:r.aI.length<=6)(code:List In)(hl:code.length<=5000)(h2:G[2]?=aa (aZ x))(h5:G[5]?=aa (.agg [u0,u1,u2,u3,iX r.aI,iI r.vars]))(hc:G[c]?=aa (bL code))(hn:G.length=n)(hQ:k1 [bL (code++wj r.aI++[DA x.o.r r.vars])]):
 (ahM c n).sat ayu CC Q [k0,k1,k2] G:=by
 rw[show aZ x=.agg [iI x.o.r,iI x.o.h,iB x.o.k,iL x.aH,bg x.cM,bg x.cj]from rfl]at h2;have a2:=λI=>Ey (I:=I) h2;have a5:=λI=>Ey (I:=I) h5;have ac:=λI=>Ey (I:=I) hc;have g2:=λI (h:2<(G++I).length)=>QY h (a2 I);have g5:=λI (h:5<(G++I).length)=>QY h (a5 I);have b0:=λa I=>u7 (k:=0) (I:=I) hn (l:=[a]) rfl;have b1:=λa b I=>u7 (k:=1) (I:=I) hn (l:=[a,b]) rfl;have b2:=λa b c I=>u7 (k:=2) (I:=I) hn (l:=[a,b,c]) rfl;have b3:=λa b c d I=>u7 (k:=3) (I:=I) hn (l:=[a,b,c,d]) rfl;have b4:=λa b c d e I=>u7 (k:=4) (I:=I) hn (l:=[a,b,c,d,e]) rfl;simp only[azv,azl,aBu]at b0 b1 b2 b3 b4;unfold ahM;refine eM (λ(m:Nat)=>[iI ((m:Int) - 1),bL (code++iK r.aI m),iX r.aI]) (λm=>m<=r.aI.length) (λm=>m) r.aI.length ?_ (ayA _) λm hm=>?_
 .simp[-ayx,dC,h5,hc,CI (show r.aI.length<=1000 by omega),CS]
 rcases m with _|m
 .have hz:¬((0:Nat):Int) - 1≥0:=ai;simp[-ayx,dC,a5,g2,b0,b1,b2,b3,b4,ayJ,aF,cellsOf];refine⟨_,dQ (a:=code++iK r.aI 0) (i:=DA x.o.r r.vars) (by have:=ph r.aI 0;rw[ayC];omega),?_⟩;rw[Jk];simp;simpa using hQ
 .have Im:m<r.aI.length:=ai;have hG:=gJ Im;have hw:ay1.wrap ((m:Int) - 1)=(m:Int) - 1:=dD ai ai;have Ip:=dQ (a:=code++iK r.aI (m+1)) (i:=Gt r.aI[m]) (by have:=ph r.aI (m+1);rw[ayC];omega);rw[ayJ,<-zP Im]at Ip;have om:((m+1:Nat):Int) - 1=(m:Int):=ai;simp only[om];generalize code++iK r.aI (m+1)=C1 at*
  simp[-ayx,dC,a5,g2,b0,b1,b2,b3,b4,ayJ,hG,hw,ao,cellsOf];exact⟨_,Ip,.mk m rfl ai ai⟩
def ahN(c n:Nat):ak:=
 (.loop (.ac (.ok (.bin .sub 3 (.len (.bC (.var 5) 4)) (.i 1))) (.ac (.var c) (.ac (.tr 7 (.ac (.ac (.i 7) (.ac (.i 0) (.ac (.i 0) (.ac (.i 0) (.ac (.s []) (.ac (.tr 4 .an) (.ac (.tr 4 .an) .an))))))) .an)) .an)))
 (.aV (.ok (.bin .geq 3 (.var n) (.i 0)))
 (.test (.ok (.bin .geq 3 (.var n) (.i 0)))
 (.bind (.idx 3 (.bC (.var 5) 4) (.var n))
 (.aV (.uM 3 (.var (n+3)))
 (.bind (.cat 7 96 (.var (n+1)) (.tr 7 (.ac (.ac (.i 9) (.ac (.i 0) (.ac (.i 0) (.ac (.bC (.var (n+3)) 0) (.ac (.bC (.var (n+3)) 1) (.ac (.bC (.var (n+3)) 2) (.ac (.tr 4 .an) .an))))))) .an)))
 (.aV (.ok (.bin .sub 3 (.var n) (.i 1)))
 (.next 3 (.ac (.ok (.bin .sub 3 (.var n) (.i 1))) (.ac (.var (n+4)) (.ac (.var (n+2)) .an))))))))
 (.aV (.rw (.bC (.var 2) 0))
 (.aV (.rw (.bC (.var 5) 5))
 (.bind (.cat 7 96 (.var (n+1)) (.tr 7 (.ac (.ac (.i 10) (.ac (.bC (.var 2) 0) (.ac (.bC (.var 5) 5) (.ac (.i 0) (.ac (.s []) (.ac (.tr 4 .an) (.ac (.tr 4 .an) .an))))))) .an)))
 (.next 1 (.ac (.var (n+3)) .an))))))))
theorem aga{c n:Nat}{G:List IV}{u0 u1 u2 u3:IV}(x:Pn)(r:Rl)(hb:r.aI.length<=6)(code:List In)(hl:code.length<=5000)(h2:G[2]?=aa (aZ x))(h5:G[5]?=aa (.agg [u0,u1,u2,u3,iX r.aI,iI r.vars]))(hc:G[c]?=aa (bL code))(hn:G.length=n)(hQ:k1 [bL (code++wj r.aI++[DA x.o.r r.vars])]):
 (ahN c n).sat ayu CC Q [k0,k1,k2] G:=by
 rw[show aZ x=.agg [iI x.o.r,iI x.o.h,iB x.o.k,iL x.aH,bg x.cM,bg x.cj]from rfl]at h2;have a2:=λI=>Ey (I:=I) h2;have a5:=λI=>Ey (I:=I) h5;have ac:=λI=>Ey (I:=I) hc;have g2:=λI (h:2<(G++I).length)=>QY h (a2 I);have g5:=λI (h:5<(G++I).length)=>QY h (a5 I);have b0:=λa I=>u7 (k:=0) (I:=I) hn (l:=[a]) rfl;have b1:=λa b I=>u7 (k:=1) (I:=I) hn (l:=[a,b]) rfl;have b2:=λa b c I=>u7 (k:=2) (I:=I) hn (l:=[a,b,c]) rfl;have b3:=λa b c d I=>u7 (k:=3) (I:=I) hn (l:=[a,b,c,d]) rfl;have b4:=λa b c d e I=>u7 (k:=4) (I:=I) hn (l:=[a,b,c,d,e]) rfl;simp only[azv,azl,aBu]at b0 b1 b2 b3 b4;unfold ahN;refine eM (λ(m:Nat)=>[iI ((m:Int) - 1),bL (code++iK r.aI m),bL [zO]]) (λm=>m<=r.aI.length) (λm=>m) r.aI.length ?_ (ayA _) λm hm=>?_
 .simp[-ayx,dC,h5,hc,CI (show r.aI.length<=1000 by omega),CS,cellsOf,zO,jw,qp]
 rcases m with _|m
 .have hz:¬((0:Nat):Int) - 1≥0:=ai;simp[-ayx,dC,a5,g2,b0,b1,b2,b3,b4,ayJ,aF,cellsOf];refine⟨_,dQ (a:=code++iK r.aI 0) (i:=DA x.o.r r.vars) (by have:=ph r.aI 0;rw[ayC];omega),?_⟩;rw[Jk];simp;simpa using hQ
 .have Im:m<r.aI.length:=ai;have hG:=gJ Im;have hw:ay1.wrap ((m:Int) - 1)=(m:Int) - 1:=dD ai ai;have Ip:=dQ (a:=code++iK r.aI (m+1)) (i:=Gt r.aI[m]) (by have:=ph r.aI (m+1);rw[ayC];omega);rw[ayJ,<-zP Im]at Ip;have om:((m+1:Nat):Int) - 1=(m:Int):=ai;simp only[om];generalize code++iK r.aI (m+1)=C1 at*
  simp[-ayx,dC,a5,g2,b0,b1,b2,b3,b4,ayJ,hG,hw,ao,cellsOf];exact⟨_,Ip,.mk m rfl ai ai⟩
end
end
section
def Pb(n:Int):In:=⟨6,n,0,jw,[]⟩
def Ez(n m:Int):In:=⟨5,n,m,jw,[]⟩
def jM(kl m:Nat):List In:=(azR (m- kl)).map λ(j:Nat)=>Pb ((kl+j:Nat):Int)
theorem M1(kl:Nat):jM kl kl=[]:=by simp[jM]
theorem Gv(kl m:Nat):(jM kl m).length=m- kl:=by simp[jM]
theorem CT{kl m:Nat}(h:kl<=m):jM kl (m+1)=jM kl m++[Pb m]:=by
 unfold jM;rw[show m+1- kl=(m- kl)+1 by omega,aDq,List.map_append];simp only[azs,List.map_nil];rw[show kl+(m- kl)=m by omega]
def rZ(b:Bool):List In:=if b then[zO]else[]
def r7(b:Bool)(n m:Int):List In:=if b then[Gu n m]else[]
def nO(x:Pn)(r:Rl)(code:List In):List In:=
 code++jM r.aq.length (r.aq++r.av).length++rZ (x.o.k&& !iD (nL r) r.aI)++r7 (decide (r.av=[])) x.o.r (r.aq++r.av).length++wj r.aI++[DA x.o.r r.vars]
section
variable{Q:IV->Prop}{k0 k1 k2:List IV->Prop}{hs:List At}{x0 x1 x2 x3 x4 x5 x6 x7 x8 x9 bN bW cT cG cV gp dP eT g_ gj iZ ow wG wF:IV}
theorem asj(x:Pn)(r:Rl)(h:iY r)(hn:qG r)(hf:fY r)(hz:zd r)(mW:r.av=[])(code:List In)(hl:code.length<=1000)(hQ:Q (wk x.o (nO x r code))):
 V7.sat ayu CC Q [k0] [x0,x1,aZ x,x3,x4,bP r,dr (r.aq++r.av),x7,x8,x9,bN,bW,cT,cG,cV,gp,dP,iB ab,bL code]:=by
 obtain⟨⟨o1,o2,o3⟩,od,kn,te⟩:=x;have hN:aZ ⟨⟨o1,o2,o3⟩,od,kn,te⟩=.agg [iI o1,iI o2,iB o3,iL od,bg kn,bg te]:=rfl;have sN:=k45 r h hn hf hz;have hb:=h.b;have DV:=h.h;have hlen:(r.aq++r.av).length=r.aq.length+r.av.length:=ayC
 have GF:(r.av.length:Int)=0:=by
  rw[mW];rfl
 unfold nO at hQ;rw[decide_eq_true mW]at hQ;rw[bx]at sN;rw[hN,bx];generalize iD (nL r) r.aI=ib at*
 generalize r.aq++r.av=hs at*
 unfold V7;refine eM (λ(m:Nat)=>[iI m,bL (code++jM r.aq.length m)]) (λm=>r.aq.length<=m/\m<=hs.length) (λm=>hs.length- m) r.aq.length ?_ ⟨ayA _,by omega⟩ λm hm=>?_
 .simp[-ayx,dC,M1]
 obtain⟨om,Lx⟩:=hm;have o9:=Gv r.aq.length m;by_cases aj:m<hs.length
 .have hw:=aD aj ai;have hc:=dQ (a:=code++jM r.aq.length m) (i:=Pb m) (by rw[ayC];omega);rw[ayJ,<-CT om]at hc;generalize code++jM r.aq.length m=C1 at*
  simp[-ayx,dC,aj,hw,aF,cellsOf];exact⟨_,hc,.mk (m+1) rfl ⟨by omega,by omega⟩ ai⟩
 .have qt:m=hs.length:=ai;subst qt;have J3:(code++jM r.aq.length hs.length).length<=2000:=by rw[ayC];omega
  generalize code++jM r.aq.length hs.length=C at*
  cases o3 with
  |false=>
   simp[-ayx,dC,mW,aF,cellsOf];refine⟨_,dQ (a:=C) (i:=Gu o1 hs.length) (by first|omega|(simp;omega)),?_⟩;simp only[rZ,r7,aAf,if_true,if_false,ayO,ayW]at hQ;exact xi (c:=21) (n:=22) ⟨⟨o1,o2,af⟩,od,kn,te⟩ r hb _ (by first|omega|(simp;omega)) rfl rfl rfl rfl hQ
  |true=>
   simp[-ayx,dC];refine⟨_,sN,?_⟩;cases ib with
   |false=>
    simp[-ayx,dC,mW,aF,cellsOf];refine⟨_,dQ (a:=C) (i:=zO) (by first|omega|(simp;omega)),?_⟩;have l8:C.length+1<=2001:=ai;generalize rh:C++[zO]=C1 at*
    have awC:C1.length<=2001:=by rw[<-rh];simp;omega
    refine⟨_,dQ (a:=C1) (i:=Gu o1 hs.length) (by first|omega|(simp;omega)),?_⟩;simp only[rZ,r7,aBv,aBF,if_true,rh]at hQ;exact xi (c:=23) (n:=24) ⟨⟨o1,o2,ab⟩,od,kn,te⟩ r hb _ (by first|omega|(simp;omega)) rfl rfl rfl rfl hQ
   |true=>
    simp[-ayx,dC,mW,aF,cellsOf];refine⟨_,dQ (a:=C) (i:=Gu o1 hs.length) (by first|omega|(simp;omega)),?_⟩;simp only[rZ,r7,az4,aBw,if_true,if_false,ayO,ayW]at hQ;exact xi (c:=22) (n:=23) ⟨⟨o1,o2,ab⟩,od,kn,te⟩ r hb _ (by first|omega|(simp;omega)) rfl rfl rfl rfl hQ
theorem an6(x:Pn)(r:Rl)(h:iY r)(hn:qG r)(hf:fY r)(hz:zd r)(mW:r.av≠[])(code:List In)(hl:code.length<=1000)(hQ:Q (wk x.o (nO x r code))):
 O_.sat ayu CC Q [k0] [x0,x1,aZ x,x3,x4,bP r,dr (r.aq++r.av),x7,x8,x9,bN,bW,cT,cG,cV,gp,bL code,iB af]:=by
 obtain⟨⟨o1,o2,o3⟩,od,kn,te⟩:=x;have hN:aZ ⟨⟨o1,o2,o3⟩,od,kn,te⟩=.agg [iI o1,iI o2,iB o3,iL od,bg kn,bg te]:=rfl;have sN:=k45 r h hn hf hz;have hb:=h.b;have DV:=h.h;have hlen:(r.aq++r.av).length=r.aq.length+r.av.length:=ayC
 have GF:¬(r.av.length:Int)=0:=by
  intro h0;exact mW (ayZ ai)
 unfold nO at hQ;rw[decide_eq_false mW]at hQ;rw[bx]at sN;rw[hN,bx];generalize iD (nL r) r.aI=ib at*
 generalize r.aq++r.av=hs at*
 unfold O_;refine eM (λ(m:Nat)=>[iI m,bL (code++jM r.aq.length m)]) (λm=>r.aq.length<=m/\m<=hs.length) (λm=>hs.length- m) r.aq.length ?_ ⟨ayA _,by omega⟩ λm hm=>?_
 .simp[-ayx,dC,M1]
 obtain⟨om,Lx⟩:=hm;have o9:=Gv r.aq.length m;by_cases aj:m<hs.length
 .have hw:=aD aj ai;have hc:=dQ (a:=code++jM r.aq.length m) (i:=Pb m) (by rw[ayC];omega);rw[ayJ,<-CT om]at hc;generalize code++jM r.aq.length m=C1 at*
  simp[-ayx,dC,aj,hw,aF,cellsOf];exact⟨_,hc,.mk (m+1) rfl ⟨by omega,by omega⟩ ai⟩
 .have qt:m=hs.length:=ai;subst qt;have J3:(code++jM r.aq.length hs.length).length<=2000:=by rw[ayC];omega
  generalize code++jM r.aq.length hs.length=C at*
  cases o3 with
  |false=>
   simp[-ayx,dC,aF,cellsOf];simp only[rZ,r7,aAf,if_false,ayO,ayW]at hQ;exact xi (c:=19) (n:=20) ⟨⟨o1,o2,af⟩,od,kn,te⟩ r hb _ (by first|omega|(simp;omega)) rfl rfl rfl rfl hQ
  |true=>
   simp[-ayx,dC];refine⟨_,sN,?_⟩;cases ib with
   |false=>
    simp[-ayx,dC,cellsOf];refine⟨_,dQ (a:=C) (i:=zO) (by first|omega|(simp;omega)),?_⟩;simp only[rZ,r7,aBv,aBF,if_true,if_false,ayO,ayW]at hQ;exact xi (c:=21) (n:=22) ⟨⟨o1,o2,ab⟩,od,kn,te⟩ r hb _ (by first|omega|(simp;omega)) rfl rfl rfl rfl hQ
   |true=>
    simp[-ayx,dC,cellsOf];simp only[rZ,r7,az4,aBw,if_false,ayO,ayW]at hQ;exact xi (c:=19) (n:=21) ⟨⟨o1,o2,ab⟩,od,kn,te⟩ r hb _ (by first|omega|(simp;omega)) rfl rfl rfl rfl hQ
theorem an7(x:Pn)(r:Rl)(h:iY r)(hn:qG r)(hf:fY r)(hz:zd r)(mW:r.av=[])(code:List In)(hl:code.length<=1000)(hQ:k1 [bL (nO x r code)]):
 O3.sat ayu CC Q [k0,k1] [x0,x1,aZ x,x3,x4,bP r,dr (r.aq++r.av),x7,x8,x9,bN,bW,cT,cG,cV,bL code]:=by
 obtain⟨⟨o1,o2,o3⟩,od,kn,te⟩:=x;have hN:aZ ⟨⟨o1,o2,o3⟩,od,kn,te⟩=.agg [iI o1,iI o2,iB o3,iL od,bg kn,bg te]:=rfl;have sN:=am8 r h hn hf;have hb:=h.b;have DV:=h.h;have hlen:(r.aq++r.av).length=r.aq.length+r.av.length:=ayC
 have GF:(r.av.length:Int)=0:=by
  rw[mW];rfl
 unfold nO at hQ;rw[decide_eq_true mW]at hQ;rw[bx]at sN;rw[hN,bx];generalize iD (nL r) r.aI=ib at*
 generalize r.aq++r.av=hs at*
 unfold O3;refine eM (λ(m:Nat)=>[iI m,bL (code++jM r.aq.length m)]) (λm=>r.aq.length<=m/\m<=hs.length) (λm=>hs.length- m) r.aq.length ?_ ⟨ayA _,by omega⟩ λm hm=>?_
 .simp[-ayx,dC,M1]
 obtain⟨om,Lx⟩:=hm;have o9:=Gv r.aq.length m;by_cases aj:m<hs.length
 .have hw:=aD aj ai;have hc:=dQ (a:=code++jM r.aq.length m) (i:=Pb m) (by rw[ayC];omega);rw[ayJ,<-CT om]at hc;generalize code++jM r.aq.length m=C1 at*
  simp[-ayx,dC,aj,hw,aF,cellsOf];exact⟨_,hc,.mk (m+1) rfl ⟨by omega,by omega⟩ ai⟩
 .have qt:m=hs.length:=ai;subst qt;have J3:(code++jM r.aq.length hs.length).length<=2000:=by rw[ayC];omega
  generalize code++jM r.aq.length hs.length=C at*
  cases o3 with
  |false=>
   simp[-ayx,dC,mW,aF,cellsOf];refine⟨_,dQ (a:=C) (i:=Gu o1 hs.length) (by first|omega|(simp;omega)),?_⟩;simp only[rZ,r7,aAf,if_true,if_false,ayO,ayW]at hQ;exact Lm (c:=18) (n:=19) ⟨⟨o1,o2,af⟩,od,kn,te⟩ r hb _ (by first|omega|(simp;omega)) rfl rfl rfl rfl hQ
  |true=>
   simp[-ayx,dC];refine⟨_,sN,?_⟩;cases ib with
   |false=>
    simp[-ayx,dC,mW,aF,cellsOf];refine⟨_,dQ (a:=C) (i:=zO) (by first|omega|(simp;omega)),?_⟩;have l8:C.length+1<=2001:=ai;generalize rh:C++[zO]=C1 at*
    have awC:C1.length<=2001:=by rw[<-rh];simp;omega
    refine⟨_,dQ (a:=C1) (i:=Gu o1 hs.length) (by first|omega|(simp;omega)),?_⟩;simp only[rZ,r7,aBv,aBF,if_true,rh]at hQ;exact Lm (c:=20) (n:=21) ⟨⟨o1,o2,ab⟩,od,kn,te⟩ r hb _ (by first|omega|(simp;omega)) rfl rfl rfl rfl hQ
   |true=>
    simp[-ayx,dC,mW,aF,cellsOf];refine⟨_,dQ (a:=C) (i:=Gu o1 hs.length) (by first|omega|(simp;omega)),?_⟩;simp only[rZ,r7,az4,aBw,if_true,if_false,ayO,ayW]at hQ;exact Lm (c:=19) (n:=20) ⟨⟨o1,o2,ab⟩,od,kn,te⟩ r hb _ (by first|omega|(simp;omega)) rfl rfl rfl rfl hQ
theorem an8(x:Pn)(r:Rl)(h:iY r)(hn:qG r)(hf:fY r)(hz:zd r)(mW:r.av≠[])(code:List In)(hl:code.length<=1000)(hQ:k1 [bL (nO x r code)]):
 O4.sat ayu CC Q [k0,k1] [x0,x1,aZ x,x3,x4,bP r,dr (r.aq++r.av),x7,x8,x9,bN,bW,cT,cG,bL code]:=by
 obtain⟨⟨o1,o2,o3⟩,od,kn,te⟩:=x;have hN:aZ ⟨⟨o1,o2,o3⟩,od,kn,te⟩=.agg [iI o1,iI o2,iB o3,iL od,bg kn,bg te]:=rfl;have sN:=am8 r h hn hf;have hb:=h.b;have DV:=h.h;have hlen:(r.aq++r.av).length=r.aq.length+r.av.length:=ayC
 have GF:¬(r.av.length:Int)=0:=by
  intro h0;exact mW (ayZ ai)
 unfold nO at hQ;rw[decide_eq_false mW]at hQ;rw[bx]at sN;rw[hN,bx];generalize iD (nL r) r.aI=ib at*
 generalize r.aq++r.av=hs at*
 unfold O4;refine eM (λ(m:Nat)=>[iI m,bL (code++jM r.aq.length m)]) (λm=>r.aq.length<=m/\m<=hs.length) (λm=>hs.length- m) r.aq.length ?_ ⟨ayA _,by omega⟩ λm hm=>?_
 .simp[-ayx,dC,M1]
 obtain⟨om,Lx⟩:=hm;have o9:=Gv r.aq.length m;by_cases aj:m<hs.length
 .have hw:=aD aj ai;have hc:=dQ (a:=code++jM r.aq.length m) (i:=Pb m) (by rw[ayC];omega);rw[ayJ,<-CT om]at hc;generalize code++jM r.aq.length m=C1 at*
  simp[-ayx,dC,aj,hw,aF,cellsOf];exact⟨_,hc,.mk (m+1) rfl ⟨by omega,by omega⟩ ai⟩
 .have qt:m=hs.length:=ai;subst qt;have J3:(code++jM r.aq.length hs.length).length<=2000:=by rw[ayC];omega
  generalize code++jM r.aq.length hs.length=C at*
  cases o3 with
  |false=>
   simp[-ayx,dC,mW,aF,cellsOf];simp only[rZ,r7,aAf,if_false,ayO,ayW]at hQ;exact V8 (c:=16) (n:=17) ⟨⟨o1,o2,af⟩,od,kn,te⟩ r hb _ (by first|omega|(simp;omega)) rfl rfl rfl rfl hQ
  |true=>
   simp[-ayx,dC];refine⟨_,sN,?_⟩;cases ib with
   |false=>
    simp[-ayx,dC,mW,aF,cellsOf];refine⟨_,dQ (a:=C) (i:=zO) (by first|omega|(simp;omega)),?_⟩;simp only[rZ,r7,aBv,aBF,if_true,if_false,ayO,ayW]at hQ;exact aga (c:=18) (n:=19) ⟨⟨o1,o2,ab⟩,od,kn,te⟩ r hb _ (by first|omega|(simp;omega)) rfl rfl rfl rfl hQ
   |true=>
    simp[-ayx,dC,mW,aF,cellsOf];simp only[rZ,r7,az4,aBw,if_false,ayO,ayW]at hQ;exact V8 (c:=16) (n:=18) ⟨⟨o1,o2,ab⟩,od,kn,te⟩ r hb _ (by first|omega|(simp;omega)) rfl rfl rfl rfl hQ
end
end
def YY(hs:List At)(x:Pn)(k:Nat):At:=((x.aH[k]?).bind λv=>hs[v.toNat]?).getD ⟨[],[]⟩
def CU(hs:List At)(acc:List Ac)(x:Pn)(k:Nat):Int:=ux acc ⟨(YY hs x k).s,(YY hs x k).ts.length,x.cM.getD k []⟩
def zQ(hs:List At)(gs:List Gl)(acc:List Ac)(x:Pn)(k:Nat):List In:=jx hs gs acc x k (x.aH.getD k 0) (YY hs x k) (x.cM.getD k []) (x.cj.getD (k+2) [])
def gx(hs:List At)(gs:List Gl)(acc:List Ac)(x:Pn)(base:List In):Nat->List In
 |0=>base
 |k+1=>gx hs gs acc x base k++zQ hs gs acc x k
def tT(r:Rl)(x:Pn):List In:=bM x.o.h [] (gw (r.aq++r.av) x.o.h) 0++bA r.aw (x.cj.getD 0 [])++bA r.aw (x.cj.getD 1 [])
def Ba(x:Pn)(r:Rl)(code:List In):List In:=if r.av=[]then code++[Ez x.o.r (r.aq++r.av).length]else code
def M3(r:Rl)(acc:List Ac)(x:Pn):List In:=nO x r (Ba x r (gx (r.aq++r.av) r.aw acc x (tT r x) x.aH.length))
def jT(hs:List At)(acc:List Ac)(x:Pn)(n:Nat):Bool:=(azR n).any λk=>decide (CU hs acc x k<0)
theorem M4(hs:List At)(acc:List Ac)(x:Pn)(n:Nat):jT hs acc x (n+1)=(jT hs acc x n||decide (CU hs acc x n<0)):=by
 unfold jT;rw[aDq,List.any_append];simp
theorem abn{hs:List At}{acc:List Ac}{x:Pn}{n m:Nat}(h:n<=m)(hn:jT hs acc x n=ab):jT hs acc x m=ab:=by
 unfold jT at*
 rw[List.any_eq_true]at*
 obtain⟨k,h1,h2⟩:=hn;exact⟨k,by rw[List.mem_range]at*;omega,h2⟩
def nP(r:Rl)(acc:List Ac)(x:Pn):IV:=if jT (r.aq++r.av) acc x x.aH.length=ab then .aL [nN,iI 13]else wk x.o (M3 r acc x)
structure Good(p:Pg)(x:Pn)(i m:Nat)(r:Rl):Prop where
 oc:Lk p x.o i m r
 part:∀k<x.aH.length,∃n a ps te,CQ p x k i n r a ps te/\a.ts.length<=8/\te.length<=6
 t:∃t0 t1,x.cj[0]?=aa t0/\x.cj[1]?=aa t1/\t0.length<=6/\t1.length<=6/\pQ r.aw.length t0/\pQ r.aw.length t1
 ol:x.aH.length<=3
theorem YZ{p:Pg}{x:Pn}{k i n:Nat}{r:Rl}{a:At}{ps te:List Int}(h:CQ p x k i n r a ps te):
 YY (r.aq++r.av) x k=a/\x.aH.getD k 0=n/\x.cM.getD k []=ps/\x.cj.getD (k+2) []=te:=by
 have h1:=h.h.od;have h2:=h.h.hd;have h3:=h.h.kn;have h4:=h.t;refine⟨?_,?_,?_,?_⟩
 .unfold YY;rw[h1,ayx,show((n:Int)).toNat=n from rfl,h2];rfl
 .rw[azo,h1];rfl
 .rw[azo,h3];rfl
 .rw[azo,h4];rfl
theorem QZ{p:Pg}{x:Pn}{k i n:Nat}{r:Rl}{a:At}{ps te:List Int}(h:CQ p x k i n r a ps te)(acc:List Ac):
 CU (r.aq++r.av) acc x k=ux acc ⟨a.s,a.ts.length,ps⟩:=by
 obtain⟨h1,h2,h3,h4⟩:=YZ h;unfold CU;rw[h1,h3]
theorem CV{p:Pg}{x:Pn}{k i n:Nat}{r:Rl}{a:At}{ps te:List Int}(h:CQ p x k i n r a ps te)(acc:List Ac):
 zQ (r.aq++r.av) r.aw acc x k=jx (r.aq++r.av) r.aw acc x k n a ps te:=by
 obtain⟨h1,h2,h3,h4⟩:=YZ h;unfold zQ;rw[h1,h2,h3,h4]
theorem J4{hs:List At}{gs:List Gl}{acc:List Ac}{x:Pn}{k:Nat}{n:Int}{a:At}{ps te:List Int}:(jx hs gs acc x k n a ps te).length<=2+x.aH.length+a.ts.length+te.length:=by
 unfold jx;have h1:=pR hs n a (x.o.h::x.aH.take k);have h2:=pP n ps a.ts 0;rw[ay6,ayC,ayC];have h3:(bA gs te).length=te.length:=by simp[bA]
 rw[ay6,azq]at h1;omega
theorem Iq{p:Pg}{x:Pn}{i m:Nat}{r:Rl}(hg:Good p x i m r)(acc:List Ac)(base:List In):∀k,k<=x.aH.length->(gx (r.aq++r.av) r.aw acc x base k).length<=base.length+30*k
 |0,_=>by simp[gx]
 |k+1,hk=>by
  have ih:=Iq hg acc base k ai;obtain⟨n,a,ps,te,h1,h2,h3⟩:=hg.part k ai;have hl:=hg.ol;rw[gx,ayC,CV h1 acc];have:=J4 (hs:=r.aq++r.av) (gs:=r.aw) (acc:=acc) (x:=x) (k:=k) (n:=n) (a:=a) (ps:=ps) (te:=te);omega
theorem Ln(vs:List Int):∀(ts:List Tm) (i:Nat),(sI vs ts i).length<=ts.length
 |[],_=>by simp[sI]
 |t::ts,i=>by
  have:=Ln vs ts (i+1);rw[sI,ayC,ay6];unfold VK;split<;>simp<;>omega
theorem Q0{hs:List At}(h:∀a∈hs,a.ts.length<=8):∀(vs done:List Int),∀l∈hZ hs done vs,l.length<=8
 |[],_,l,hl=>by simp[hZ]at hl
 |v::vs,done,l,hl=>by
  rw[hZ]at hl;rcases ayN.1 hl with rfl|hl
  .unfold lM;exact ayU (Ln _ _ _) (afX h)
  .exact Q0 h vs _ l hl
theorem adU{hs:List At}{gs:List Gl}{done:List Int}:∀l∈eQ hs gs done,l.length<=gs.length/\pQ gs.length l:=by
 intro l hl
 have an9:∀p:Gl->Bool,(gM p gs 0).length<=gs.length/\pQ gs.length (gM p gs 0):=λp=>⟨Lh p gs 0,λv hv=>by
  have:=VL gs 0 hv;omega⟩
 unfold eQ at hl;rcases ayN.1 hl with rfl|hl
 .exact an9 _
 .obtain⟨k,_,rfl⟩:=azb.1 hl;exact an9 _
theorem Y0{p:Pg}(hp:jG p){x:Pn}{i m:Nat}{r:Rl}(h:Lk p x.o i m r)(hr:nM p x=ab):Good p x i m r:=by
 rw[Ih h,ayz,decide_eq_true_eq]at hr;obtain⟨h1,h2⟩:=hr;obtain⟨h3,h4⟩:=OK h1;obtain⟨hi,gS⟩:=ayw.1 h.ru;have dt:r∈p.bc:=gS▸ayy hi;have hs:=hp.rs r dt;have wv:=hs.h;rw[<-ayC]at wv;have hg6:=hs.g;have sK:x.cM=hZ (r.aq++r.av) [x.o.h] x.aH:=by rw[h2];rfl
 have WR:x.cj=eQ (r.aq++r.av) r.aw (x.o.h::x.aH):=by rw[h2];rfl
 have lH:x.cM.length=x.aH.length:=by rw[sK,MY]
 have vN:x.cj.length=x.aH.length+2:=by rw[WR,pN];simp
 have agb:∀l∈x.cj,l.length<=r.aw.length/\pQ r.aw.length l:=by rw[WR];exact adU
 have ov:rY (r.aq++r.av).length (x.o.h::x.aH):=by
  intro v hv;rcases ayN.1 hv with rfl|hv
  .have:=h.lt;rw[h.oh];omega
  .exact h3 v hv
 refine⟨h,λk hk=>?_,?_,by omega⟩
 .obtain⟨v0,v1⟩:=h3 _ (ayy hk);have aj:x.aH[k].toNat<(r.aq++r.av).length:=ai;have mq:k<x.cM.length:=ai;have UZ:k+2<x.cj.length:=ai;have hto:=agb _ (ayy UZ);have hko:x.cM[k].length<=8:=Q0 hs.hs _ _ _ (by rw[<-sK];exact ayy mq);refine⟨x.aH[k].toNat,_,_,_,⟨⟨h.or,h.ru,?_,ayv aj,ayv mq⟩,ayv UZ,by omega,by omega,hto.2,ov,by omega⟩,hs.hs _ (ayy aj),by omega⟩;rw[ayv hk]
  congr 1;omega
 .have h0:0<x.cj.length:=ai;have h1:1<x.cj.length:=ai;have a0:=agb _ (ayy h0);have a1:=agb _ (ayy h1);exact⟨_,_,ayv h0,ayv h1,by omega,by omega,a0.2,a1.2⟩
def an_:List Nat:=[266,24,25,7,69,257,72,26,71,137,70,139,225,145,183,75,76,136,186,140,184,224,138,185,9,28,27,143,77,142,141,74,144,73,146,78,39,44,268,192,154,227,33,212,85,155,233,199,164,230,194,166,204,95,93,162,280]
def aoa:List Nat:=[251,172,178,231,269,214,217,259]
def aob:List Nat:=[201]
def aoc:List Nat:=[185,247,209,500195,500196]
def asl(l:List Hint):eS:=⟨an_,aoa,aob,l++[],aoc⟩
def adV:ak:=
 (xp 6 0 0 2 (.nr (pE 0 2)))
theorem asm:aE ayu (asl []) 400 af 44=adV:=by kernel_rfl
theorem awD(r:Rl):CC 44 af [bP r] (iB (decide (r.av=[]))):=by
 refine CC.of asm kr kr (by simpa using fv r) ax ?_;simp[adV,SE.den,bP,ao];rw[aAy];simp
section
theorem yB.form{ds:List De}{r:Rl}(h:yB ds r)(hn:qG r):fY r:=
 ⟨λa ha t ht=>⟨ou.wf t ((hn.hs a ha).2.2 t ht),uu (h.hs a ha) t ht⟩,λg hg=>⟨(re (h.gs g hg)).1,λt ht=>⟨ou.wf t ((hn.gs g hg).2.2 t ht),(re (h.gs g hg)).2 t ht⟩⟩⟩
def j8(p:Pg)(acc:List Ac)(x:Pn):IV:=if nM p x=ab then(match p.bc[x.o.r.toNat]? with
 |some r=>nP r acc x
 |none=>.aL [nN,iI 2])else .aL [nN,iI 2]
theorem adW(o:Oc)(c:List In):Pure (wk o c):=by
 unfold wk;split
 .exact .aL _ (by simp[nN];exact .agg _ ax)
 .exact .aL _ (by simp[xh];exact .agg _ ax)
theorem WD(r:Rl)(acc:List Ac)(x:Pn):Pure (nP r acc x):=by
 unfold nP;split
 .exact .aL _ (by simp[nN];exact .agg _ ax)
 .exact adW _ _
theorem Jl(n:Int):Pure (.aL [nN,iI n]):=.aL _ (by simp[nN];exact .agg _ ax)
theorem J5(p:Pg)(acc:List Ac)(x:Pn):Pure (j8 p acc x):=by
 unfold j8;split
 .split
  .exact WD _ _ _
  .exact Jl 2
 .exact Jl 2
section
variable{Q:IV->Prop}{k0:List IV->Prop}{x3 x4 x7 x8 x9 bN bW cT cG:IV}
theorem aod{p:Pg}(hp:jG p){x:Pn}{i m:Nat}{r:Rl}(hg:Good p x i m r)(h:iY r)(hn:qG r)(hf:fY r)(hz:zd r)(acc:List Ac)(hc:Eu acc)(base:List In)(hbl:base.length<=100)
 (hQ:Q (if jT (r.aq++r.av) acc x x.aH.length=ab then .aL [nN,iI 13]else wk x.o (nO x r (Ba x r (gx (r.aq++r.av) r.aw acc x base x.aH.length))))):
 Pa.sat ayu CC Q [] [aW p,fL acc,aZ x,x3,x4,bP r,dr (r.aq++r.av),x7,x8,x9,bN,bW,cT,cG,bL base]:=by
 have pV:=hg.ol;have HQ:=hg.part;have h44:=awD r;have hN:aZ x=.agg [iI x.o.r,iI x.o.h,iB x.o.k,iL x.aH,bg x.cM,bg x.cj]:=rfl;have hP:aW p=.agg [dO p.eN,jF p.bc]:=rfl;unfold Pa;refine az x.aH.length (λk (_:Unit)=>[iI k,bL (gx (r.aq++r.av) r.aw acc x base k)]) (λk _=>jT (r.aq++r.av) acc x k=af) () ?_ (by simp[jT]) λk _ hk hI=>?_
 .simp[Gs,gH,gx]
 have pW:=Iq hg acc base k ai;by_cases aj:k<x.aH.length
 .have hw:=aD aj ai;obtain⟨n,a,ps,te,kR,fF,vN⟩:=HQ k aj;have h42:=k42 hp kR.h acc hc;have ahO:=asb af hp kR acc hc;rw[<-QZ kR acc]at h42;rw[<-CV kR acc]at ahO;have PT:=M4 (r.aq++r.av) acc x k;rw[hI,Bool.false_or]at PT;have uR:gx (r.aq++r.av) r.aw acc x base (k+1)=gx (r.aq++r.av) r.aw acc x base k++zQ (r.aq++r.av) r.aw acc x k:=rfl
  have su:(zQ (r.aq++r.av) r.aw acc x k).length<=30:=by
   rw[CV kR acc];have:=J4 (hs:=r.aq++r.av) (gs:=r.aw) (acc:=acc) (x:=x) (k:=k) (n:=n) (a:=a) (ps:=ps) (te:=te);omega
  have vi:=Ji (a:=gx (r.aq++r.av) r.aw acc x base k) (b:=zQ (r.aq++r.av) r.aw acc x k) ai;rw[<-uR]at vi;have hmo:=abn (hs:=r.aq++r.av) (acc:=acc) (x:=x) (n:=k+1) (m:=x.aH.length) aj;rw[hN,hP]at*
  generalize rh:gx (r.aq++r.av) r.aw acc x base (k+1)=C1 at*
  generalize gx (r.aq++r.av) r.aw acc x base k=C0 at*
  generalize zQ (r.aq++r.av) r.aw acc x k=S at*
  generalize CU (r.aq++r.av) acc x k=pk at*
  simp[-ayx,dC,aj,hw,cellsOf];refine⟨_,h42,?_⟩;simp[-ayx,cI];by_cases e:pk<0
  .left;refine⟨e,?_⟩;rw[if_pos (hmo (by rw[PT];simp[e]))]at hQ;exact hQ
  .right;refine⟨by omega,_,ahO,_,vi,.mk () ?_ ai (by rw[PT];simp[e])⟩;rw[<-rh];rfl
 .have sK:k=x.aH.length:=ai;subst sK;rw[hI,if_neg ax]at hQ;unfold Ba at hQ;generalize gx (r.aq++r.av) r.aw acc x base x.aH.length=C at*
  by_cases e:r.av=[]
  .rw[if_pos e]at hQ;rw[decide_eq_true e]at h44;have hy:=λdP gp k1=>asj (Q:=Q) (k0:=k1) (x0:=aW p) (x1:=fL acc) (x3:=x3) (x4:=x4) (x7:=x7) (x8:=x8) (x9:=x9) (bN:=bN) (bW:=bW) (cT:=cT) (cG:=cG) (cV:=bL base) (gp:=gp) (dP:=dP) x r h hn hf hz e (C++[Ez x.o.r (r.aq++r.av).length]) (by simp;omega) hQ;rw[bx]at*
   rw[hN,hP]at*
   generalize r.aq++r.av=hs at*
   simp[-ayx,dC,cellsOf,aF];refine⟨_,h44,?_⟩;simp[-ayx];exact⟨_,dQ (a:=C) (i:=Ez x.o.r hs.length) ai,hy _ _ _⟩
  .rw[if_neg e]at hQ;rw[decide_eq_false e]at h44;have hy:=λgp k1=>an6 (Q:=Q) (k0:=k1) (x0:=aW p) (x1:=fL acc) (x3:=x3) (x4:=x4) (x7:=x7) (x8:=x8) (x9:=x9) (bN:=bN) (bW:=bW) (cT:=cT) (cG:=cG) (cV:=bL base) (gp:=gp) x r h hn hf hz e C ai hQ;rw[bx]at*
   rw[hN,hP]at*
   generalize r.aq++r.av=hs at*
   simp[-ayx,dC,cellsOf,aF];refine⟨_,h44,?_⟩;simp[-ayx];exact hy _ _
end
theorem Gw(p:Pg)(acc:List Ac)(x:Pn):∀y∈[aW p,fL acc,aZ x],Pure y:=by
 intro y hy;rcases ayN.1 hy with rfl|hy
 .exact eO p
 rcases ayN.1 hy with rfl|hy
 .simp
 obtain rfl:=ayQ.1 hy;exact pe x
theorem xj:nN=.agg [iI 0,iI 0,iB af,.tree 7 []]:=rfl
theorem asn{p:Pg}{acc:List Ac}{x:Pn}:mK ayu 12 (j8 p acc x)=ab:=by
 unfold j8 nP wk;split
 .split
  .split
   .exact kr
   .split<;>exact kr
  .exact kr
 .exact kr
theorem awE(p:Pg)(hp:jG p)(hz:∀r∈p.bc,zd r)(cS:¬wH p)(acc:List Ac)(x:Pn):CC 12 af [aW p,fL acc,aZ x] (.aL [nN,iI 2]):=by
 refine CC.of an5 kr kr (Gw p acc x) (Jl 2) ?_;obtain⟨a,n,h1,h2⟩:=v34 p hp hz;have kM:n≠0:=λh=>cS (h1.1 h);have hN:aZ x=.agg [iI x.o.r,iI x.o.h,iB x.o.k,iL x.aH,bg x.cM,bg x.cj]:=rfl;have hP:aW p=.agg [dO p.eN,jF p.bc]:=rfl;rw[hP]at h2;rw[hN,hP,xj];simp[abm,SE.den,ao];refine⟨_,h2,?_⟩;simp[kM]
theorem JW(p:Pg)(hp:jG p)(hz:∀r∈p.bc,zd r)(bu:wH p)(acc:List Ac)(hc:Eu acc)(x:Pn)(hx:wE x):CC 12 af [aW p,fL acc,aZ x] (j8 p acc x):=by
 refine CC.of an5 kr asn (Gw p acc x) (J5 p acc x) ?_;obtain⟨a,n,h1,h2⟩:=v34 p hp hz;have kM:n=0:=h1.2 bu;subst kM;have hfo:∀r∈p.bc,fY r:=λr hr=>(bu.r r hr).form (hp.rn r hr);have h38:=k38 p hp hfo x hx;have hN:aZ x=.agg [iI x.o.r,iI x.o.h,iB x.o.k,iL x.aH,bg x.cM,bg x.cj]:=rfl;have hP:aW p=.agg [dO p.eN,jF p.bc]:=rfl;by_cases hr:nM p x=ab
 rotate_left
 .have hb:j8 p acc x=.aL [nN,iI 2]:=by unfold j8;rw[if_neg hr]
  rw[aA0]at hr;rw[hr]at h38;rw[hb,xj];rw[hN,hP]at*
  simp[abm,SE.den,ao];refine⟨_,h2,?_⟩;simp;exact⟨_,h38,by simp⟩
 have hm:x.o∈occs p.bc:=by
  unfold nM at hr;rw[ayz,decide_eq_true_eq]at hr;exact hr.1
 obtain⟨i,m,r,h⟩:=xg.1 hm;have hg:=Y0 hp h hr;have gS:=h.ru;obtain⟨hi,gS⟩:=ayw.1 gS;have dt:r∈p.bc:=gS▸ayy hi;have lL:=hp.rs r dt;have hR:=q8 hi;rw[gS]at hR;have vo:cz 6 (jF p.bc) (iI x.o.r)=aa (.agg [iS r.name,dr r.aq,dr r.av,iX r.aw,iX r.aI,iI r.vars]):=by rw[h.or];exact hR
 have hb:j8 p acc x=nP r acc x:=by
  unfold j8;rw[if_pos hr,show p.bc[x.o.r.toNat]?=aa r by rw[h.or];exact h.ru]
 rw[hr]at h38;have GV:=Qp r (by have:=lL.h;omega);have GG:m<(r.aq++r.av).length:=h.lt;have hA:=gK GG;rw[<-h.oh]at hA;obtain⟨t0,t1,g0,g1,g2,g3,g4,g5⟩:=hg.t;obtain⟨l0,e0⟩:=ayw.1 g0;obtain⟨l1,e1⟩:=ayw.1 g1
 have hT0:cz 1 (bg x.cj) (iI 0)=aa (iL t0):=by
  have:=mV l0;rw[e0]at this;exact this
 have hT1:cz 1 (bg x.cj) (iI 1)=aa (iL t1):=by
  have:=mV l1;rw[e1]at this;exact this
 have fF:=lL.hs _ (ayy GG);have abk:=ahJ af (r.aq++r.av)[m].s (r.aq++r.av)[m].ts ai x.o.h [] ax;have h0:=abi af r t0 ai g4;have dk:=abi af r t1 ai g5;have Bk:=pP x.o.h [] (r.aq++r.av)[m].ts 0;have vN:∀l,(bA r.aw l).length=l.length:=λl=>by simp[bA]
 have Ly:=vN t0;have htb:=vN t1;have cd:=Ji (a:=bM x.o.h [] (r.aq++r.av)[m].ts 0) (b:=bA r.aw t0) ai;have lE:=Ji (a:=bM x.o.h [] (r.aq++r.av)[m].ts 0++bA r.aw t0) (b:=bA r.aw t1) (by rw[ayC];omega)
 have vn:tT r x=bM x.o.h [] (r.aq++r.av)[m].ts 0++bA r.aw t0++bA r.aw t1:=by
  unfold tT;rw[azo,azo,g0,g1]
  have:gw (r.aq++r.av) x.o.h=(r.aq++r.av)[m].ts:=by
   unfold gw;rw[if_pos (by rw[h.oh];omega),h.oh,show((m:Int)).toNat=m from rfl,ayv GG]
  rw[this];rfl
 have hbl:(tT r x).length<=100:=by rw[vn,ayC,ayC];omega
 have hy:=λx7 x8 x9 bN bW cT cG=>aod (Q:=(·=nP r acc x)) (x3:=.aL [iI a,iI 0]) (x4:=iB ab) (x7:=x7) (x8:=x8) (x9:=x9) (bN:=bN) (bW:=bW) (cT:=cT) (cG:=cG) hp hg lL (hp.rn r dt) (hfo r dt) (hz r dt) acc hc (tT r x) hbl (by unfold nP M3;rfl);rw[vn]at hy;rw[hb];generalize nP r acc x=res at*
 generalize bM x.o.h [] (r.aq++r.av)[m].ts 0++bA r.aw t0++bA r.aw t1=B2 at*
 generalize bM x.o.h [] (r.aq++r.av)[m].ts 0++bA r.aw t0=B1 at*
 generalize bM x.o.h [] (r.aq++r.av)[m].ts 0=B0 at*
 generalize bA r.aw t0=T0 at*
 generalize bA r.aw t1=T1 at*
 generalize(r.aq++r.av)[m]=am at*
 generalize r.aq++r.av=hs at*
 rw[bx]at*
 rw[hN,hP]at*
 simp[abm, -ayx,dC,SE.den,ao];refine⟨_,h2,?_⟩;simp[-ayx,cI];refine⟨_,h38,?_⟩;simp[-ayx,cI,vo];refine⟨_,GV,?_⟩;simp[-ayx,cI,hA];refine⟨_,abk,?_⟩;simp[-ayx,cI,hT0];refine⟨_,h0,_,cd,?_⟩;simp[-ayx,cI,hT1];exact⟨_,dk,_,lE,hy _ _ _ _ _ _ _⟩
end
def aso:List Nat:=[203,160,216,175,240,266,11,31,24,25,7,69,8,13,14,257,72,26,71,137,70,139,210,225,145,183,75,76,111,65,112,136,186,140,184,248,224,211,170,138,249,185,9,28,27,143,77,142,141,74,144,73,146,78,18,39,16,82,44,150,188,189,29,79,80,149,187,147,10,148,30,38,104,83,84,81,168,103,62,108,42,169,107,106,45,64,63,135,110,46,66,21,12,20,23,105,40,43,41,113,171,215,174,161,48,98,97,116,115,268,192,154,227,87,33,51,212,94,47,114,32,85,155,233,199,101,50,49,164,230,194,166,204,202,99,86,95,93,156,162,280]
def awF:List Nat:=[34,35,36,37,89,100,109,151,190,234]
def awG:List Nat:=[235,236,237,238,239,241,242]
def awH:List Nat:=[185,247,209,173000151,500195,500196,500040,500041,500043,500082,500140]
def asp(l:List Hint):eS:=⟨aso,awF,awG,l++[⟨999997,0,0,[],[],[],[]⟩,⟨999999,0,0,[],[],[],[]⟩],awH⟩
def Pc:ak:=
 (IX mN 4 0 1 4 (gi 6 (.rws bV) (lU 1 8 5 bV (ew 4 7))) (lW 5))
def ajQ:ak:=
 (IX mN 3 0 1 3 (gi 5 (.rws dp) (lU 1 8 4 dp (ew 3 6))) (lW 4))
def Y1:ak:=
 (IX MH 1 0 1 1 (ig 3 3 (pJ (s7 .add 3 2 (fU 3)) (s7 .add 3 2 (fU 3)) (.fail 146) (lr 0 1 (s7 .add 3 2 (fU 3))))) (.nt (sD 3 2 aY) (.fail 146) (oF (zq .sub 3 2) .gtr (zq .sub 3 2) (.bind (.dec 8 (zq .sub 3 2) (.k .i64 0)) (gh (AU 1 3 aY) kq Pc)) (Cc ajQ))))
def abo:ak:=
 (F2 Y1)
theorem asq:aE ayu (asp [⟨0,99,11,[(0,(6,0)),(0,(27,0))],[(0,0)],[(0,24)],[]⟩,⟨0,99,3,[(0,(3,0)),(0,(11,0))],[],[],[]⟩]) 400 ab 99=abo:=by kernel_rfl
section
section
variable{Q:IV->Prop}{k0 k1 k2 k3:List IV->Prop}{hs:List At}{x0 x1 x2 x3 x4 x5 x6 x7 x8 x9 bN bW cT cG cV gp dP eT g_ gj iZ ow wG wF:IV}
theorem asr(x:Pn)(n:Int)(a:At)(fF:a.ts.length<=8)(hk:k0 [bL (bM x.o.h [] a.ts 0)]):
 VW.sat ayu CC Q [k0] [x0,x1,aZ x,x3,x4,x5,x6,.agg [iS a.s,iT a.ts]]:=by
 have hN:aZ x=.agg [iI x.o.r,iI x.o.h,iB x.o.k,iL x.aH,bg x.cM,bg x.cj]:=rfl;rw[hN];unfold VW;refine az a.ts.length (λi (q:List In)=>[iI i,bL (q)]) (λi q=>q++bM x.o.h [] (a.ts.drop i) i=bM x.o.h [] a.ts 0/\q.length<=i) [] ?_ ax λi q hi hI=>?_
 .simp[-ayx,dC]
 obtain⟨hI,yC⟩:=hI;by_cases aj:i<a.ts.length
 .have hw:=aD aj ai;have YM:=(RQ [] (i:Int) ax).aba (s8 rfl);rw[yE aj]at hI;have hc:=dQ (a:=q) (i:=⟨1,x.o.h,i,jw,[a.ts[i]]⟩) (by first|omega|(simp;omega));have hT:=ku aj;rw[bp]at hT
  have jh:dz 7 96 (bL (q)) (.tree 7 [.agg [iI 1,iI x.o.h,iI i,iI 0,iS [],iT [],.tree 4 [.agg [iI a.ts[i].k,iI a.ts[i].n,iS a.ts[i].s,iT a.ts[i].ts]]]])=aa (bL ((q++[⟨1,x.o.h,i,jw,[a.ts[i]]⟩]))):=by
   rw[<-hc,<-bp];rfl
  clear hc;generalize rh:(q++[(⟨1,x.o.h,i,jw,[a.ts[i]]⟩:In)])=C1 at*
  simp[-ayx,dC,aj,hw,hT,cellsOf,ao];refine⟨_,YM,?_⟩;by_cases e:(i:Int)∈([]:List Int)
  .rw[if_pos e,azl]at hI;simp[-ayx,cI,e];exact .mk q rfl ai ⟨hI,by omega⟩
  .rw[if_neg e]at hI;simp[-ayx,cI,e];exact⟨_,jh,.mk (q++[⟨1,x.o.h,i,jw,[a.ts[i]]⟩]) (by rw[rh];rfl) ai ⟨by rw[<-hI];simp,by simp;omega⟩⟩
 .rw[ay3 ai,bM,ayO]at hI;subst hI;generalize bM x.o.h [] a.ts 0=C at*
  simp[-ayx,dC,aj,cellsOf];exact hk
theorem ahP(x:Pn)(n:Int)(a:At)(fF:a.ts.length<=8)(code:List In)(hl:code.length<=1000)(ps:List Int)(lG:Sm ps)(hk:k3 [bL (code++bM n ps a.ts 0)]):
 V3.sat ayu CC Q [k0,k1,k2,k3] [x0,x1,x2,x3,x4,x5,x6,x7,x8,x9,bN,bW,cT,cG,cV,iI n,dP,eT,g_,gj,iZ,ow,bL code,iL ps,.agg [iS a.s,iT a.ts]]:=by
 have hN:aZ x=.agg [iI x.o.r,iI x.o.h,iB x.o.k,iL x.aH,bg x.cM,bg x.cj]:=rfl;clear hN;unfold V3;refine az a.ts.length (λi (q:List In)=>[iI i,bL (code++q)]) (λi q=>q++bM n ps (a.ts.drop i) i=bM n ps a.ts 0/\q.length<=i) [] ?_ ax λi q hi hI=>?_
 .simp[-ayx,dC]
 obtain⟨hI,yC⟩:=hI;by_cases aj:i<a.ts.length
 .have hw:=aD aj ai;have YM:=(RQ ps (i:Int) lG).aba (s8 rfl);rw[yE aj]at hI;have hc:=dQ (a:=code++q) (i:=⟨1,n,i,jw,[a.ts[i]]⟩) (by first|omega|(simp;omega));have hT:=ku aj;rw[bp]at hT
  have jh:dz 7 96 (bL (code++q)) (.tree 7 [.agg [iI 1,iI n,iI i,iI 0,iS [],iT [],.tree 4 [.agg [iI a.ts[i].k,iI a.ts[i].n,iS a.ts[i].s,iT a.ts[i].ts]]]])=aa (bL (code++(q++[⟨1,n,i,jw,[a.ts[i]]⟩]))):=by
   rw[<-ayJ];rw[<-hc,<-bp];rfl
  clear hc;generalize rh:code++(q++[(⟨1,n,i,jw,[a.ts[i]]⟩:In)])=C1 at*
  generalize hC0:code++q=C0 at*
  simp[-ayx,dC,aj,hw,hT,cellsOf,ao];refine⟨_,YM,?_⟩;by_cases e:(i:Int)∈(ps:List Int)
  .rw[if_pos e,azl]at hI;simp[-ayx,cI,e];exact .mk q (by rw[hC0];rfl) ai ⟨hI,by omega⟩
  .rw[if_neg e]at hI;simp[-ayx,cI,e];exact⟨_,jh,.mk (q++[⟨1,n,i,jw,[a.ts[i]]⟩]) (by rw[rh];rfl) ai ⟨by rw[<-hI];simp,by simp;omega⟩⟩
 .rw[ay3 ai,bM,ayO]at hI;subst hI;generalize code++bM n ps a.ts 0=C at*
  simp[-ayx,dC,aj,cellsOf];exact hk
theorem ass(r:Rl)(l:List Int)(QK:l.length<=1000)(hv:pQ r.aw.length l)(code:List In)(hl:code.length<=1000)(hk:k0 [bL (code++bA r.aw l)]):
 VX.sat ayu CC Q [k0] [x0,x1,x2,x3,x4,bP r,x6,bL code,iL l]:=by
 rw[bx];unfold VX;refine az l.length (λi (_:Unit)=>[iI i,bL (code++bA r.aw (l.take i))]) (λ_ _=>True) () ?_ trivial λi _ hi _=>?_
 .simp[-ayx,dC,bA]
 have yC:(bA r.aw (l.take i)).length<=1000:=by simp[bA];omega
 by_cases aj:i<l.length
 .have hw:=aD aj ai;obtain⟨v0,v1⟩:=hv _ (ayy aj);have jv:l[i]=((l[i].toNat:Nat):Int):=ai;have bJ:l[i].toNat<r.aw.length:=ai;have hG:=gJ bJ;rw[<-jv]at hG;have bI:=zN (gs:=r.aw) aj;rw[ayv bJ,azh]at bI;have hc:=dQ (a:=code++bA r.aw (l.take i)) (i:=⟨2,0,0,r.aw[l[i].toNat],[]⟩) (by rw[ayC];omega);rw[ayJ,<-bI]at hc;generalize rh:code++bA r.aw (l.take (i+1))=C1 at*
  generalize code++bA r.aw (l.take i)=C0 at*
  have hL:=eF aj;generalize l[i]=v at*
  simp[-ayx,dC,aj,hw,hL,hG,cellsOf,ao];exact⟨_,hc,.mk () (by rw[rh];rfl) ai trivial⟩
 .have wz:i=l.length:=ai;rw[wz,aAr];generalize code++bA r.aw l=C at*
  simp[-ayx,dC,cellsOf];exact hk
theorem ast(r:Rl)(l:List Int)(QK:l.length<=1000)(hv:pQ r.aw.length l)(code:List In)(hl:code.length<=1000)(hk:k0 [bL (code++bA r.aw l)]):
 VY.sat ayu CC Q [k0] [x0,x1,x2,x3,x4,bP r,x6,x7,x8,bL code,iL l]:=by
 rw[bx];unfold VY;refine az l.length (λi (_:Unit)=>[iI i,bL (code++bA r.aw (l.take i))]) (λ_ _=>True) () ?_ trivial λi _ hi _=>?_
 .simp[-ayx,dC,bA]
 have yC:(bA r.aw (l.take i)).length<=1000:=by simp[bA];omega
 by_cases aj:i<l.length
 .have hw:=aD aj ai;obtain⟨v0,v1⟩:=hv _ (ayy aj);have jv:l[i]=((l[i].toNat:Nat):Int):=ai;have bJ:l[i].toNat<r.aw.length:=ai;have hG:=gJ bJ;rw[<-jv]at hG;have bI:=zN (gs:=r.aw) aj;rw[ayv bJ,azh]at bI;have hc:=dQ (a:=code++bA r.aw (l.take i)) (i:=⟨2,0,0,r.aw[l[i].toNat],[]⟩) (by rw[ayC];omega);rw[ayJ,<-bI]at hc;generalize rh:code++bA r.aw (l.take (i+1))=C1 at*
  generalize code++bA r.aw (l.take i)=C0 at*
  have hL:=eF aj;generalize l[i]=v at*
  simp[-ayx,dC,aj,hw,hL,hG,cellsOf,ao];exact⟨_,hc,.mk () (by rw[rh];rfl) ai trivial⟩
 .have wz:i=l.length:=ai;rw[wz,aAr];generalize code++bA r.aw l=C at*
  simp[-ayx,dC,cellsOf];exact hk
theorem ahQ(r:Rl)(l:List Int)(QK:l.length<=1000)(hv:pQ r.aw.length l)(code:List In)(hl:code.length<=1000)(hk:k3 [bL (code++bA r.aw l)]):
 V4.sat ayu CC Q [k0,k1,k2,k3] [x0,x1,x2,x3,x4,bP r,x6,x7,x8,x9,bN,bW,cT,cG,cV,gp,dP,eT,g_,gj,iZ,ow,wG,wF,bL code,iL l]:=by
 rw[bx];unfold V4;refine az l.length (λi (_:Unit)=>[iI i,bL (code++bA r.aw (l.take i))]) (λ_ _=>True) () ?_ trivial λi _ hi _=>?_
 .simp[-ayx,dC,bA]
 have yC:(bA r.aw (l.take i)).length<=1000:=by simp[bA];omega
 by_cases aj:i<l.length
 .have hw:=aD aj ai;obtain⟨v0,v1⟩:=hv _ (ayy aj);have jv:l[i]=((l[i].toNat:Nat):Int):=ai;have bJ:l[i].toNat<r.aw.length:=ai;have hG:=gJ bJ;rw[<-jv]at hG;have bI:=zN (gs:=r.aw) aj;rw[ayv bJ,azh]at bI;have hc:=dQ (a:=code++bA r.aw (l.take i)) (i:=⟨2,0,0,r.aw[l[i].toNat],[]⟩) (by rw[ayC];omega);rw[ayJ,<-bI]at hc;generalize rh:code++bA r.aw (l.take (i+1))=C1 at*
  generalize code++bA r.aw (l.take i)=C0 at*
  have hL:=eF aj;generalize l[i]=v at*
  simp[-ayx,dC,aj,hw,hL,hG,cellsOf,ao];exact⟨_,hc,.mk () (by rw[rh];rfl) ai trivial⟩
 .have wz:i=l.length:=ai;rw[wz,aAr];generalize code++bA r.aw l=C at*
  simp[-ayx,dC,cellsOf];exact hk
end
end
section
theorem asu{k0:List IV->Prop}(ls:List (List Int))(hl:ls.length<=1000)(hf:ls.flatten.length<=100000){x1 x2 x3:IV}:
 Pc.sat ayu CC (w9 (·=ls.flatten)) [k0] [bg ls,x1,x2,x3]:=by
 unfold Pc;refine az ls.length (λi (a:List Int)=>[iI i,iL a]) (λi a=>a=(ls.take i).flatten) [] ?_ ax λi a hi hI=>?_
 .simp[SE.den]
 by_cases aj:i<ls.length
 .have hw:=aD aj ai;have afm:=Ov ls (i+1);have ht:=Qq aj;rw[ht,<-hI,ayC]at afm;rw[<-hI]at ht;have hc:=yz (a:=a) (b:=ls[i]) ai;simp[SE.den,aj,hw,adt aj,hc, -azS];exact⟨λ_ _ x hx=>by simp[cellsOf]at hx;subst hx;rfl,.mk _ rfl ai ht.symm⟩
 .have he:i=ls.length:=ai;subst he;rw[aAr]at hI;subst hI;generalize ls.flatten=q at*
  simp[SE.den]
theorem aoe(ls:List (List Int))(hl:ls.length<=1000)(hf:ls.flatten.length<=100000)(hp:ls.flatten≠[]):abo.sat ayu CC (w9 (·=ls.flatten)) [] [bg ls]:=by
 simp only[abo,ui,SE.den,List.getElem?_cons_zero,ayx,AW];refine⟨⟨_,rfl⟩,⟨_,rfl⟩,?_⟩;unfold Y1;refine az ls.length (λi (a:Int)=>[iI i,iI a]) (λi a=>a=((ls.take i).flatten.length:Int)) 0 ?_ ax λi a hi hI=>?_
 .simp[SE.den]
 have hle:=Ov ls i;by_cases aj:i<ls.length
 .have hw:=aD aj ai;have afm:=Ov ls (i+1)
  have ht:((ls.take (i+1)).flatten.length:Int)=a+(ls[i].length:Int):=by
   rw[Qq aj,ayC,hI];omega
  have Jt:ay1.wrap (a+(ls[i].length:Int))=a+(ls[i].length:Int):=dD ai ai;have Xp:¬a+(ls[i].length:Int)<0:=ai;simp[SE.den,aj,hw,adt aj,Jt,Xp, -azS];exact .mk _ rfl ai ht.symm
 .have he:i=ls.length:=ai;subst he;rw[aAr]at hI;have tX:0<ls.flatten.length:=List.length_pos_iff.2 hp;have Xp:¬a<0:=ai;have hw:ay1.wrap a=a:=dD ai ai;have Se:0<a:=ai
  have awI:(ayX a.toNat (IV.raw (Value.int ay1 0)))[0]?=aa (iI 0):=by
   rw[List.getElem?_replicate,if_pos ai]
  have wq:cz 1 (.tree 1 (ayX a.toNat (iI 0))) (iI 0)=aa (iI 0):=ef (i:=0) awI rfl;simp[SE.den,hw,Xp,Se,iO, -azS];exact⟨_,⟨⟨by omega,by omega,rfl⟩,rfl⟩,⟨_,wq⟩,asu ls hl hf⟩
theorem k99(ls:List (List Int))(hl:ls.length<=1000)(hf:ls.flatten.length<=100000)(hp:ls.flatten≠[]):CC 99 ab [bg ls] (iL ls.flatten):=
 CC.tS asq kr (λ_=>kr) (by simpa using AZ ls) (by rfl) (aoe ls hl hf hp)
section
variable{Q:IV->Prop}{k0 k1 k2 k3:List IV->Prop}{hs:List At}{x0 x1 x2 x3 x4 x5 x6 x7 x8 x9 bN bW cT cG cV gp dP eT g_ gj iZ ow wG wF:IV}
theorem ahR(n j:Nat)(hj:j<1000)(a:At)(ha:hs[n]?=aa a)(e:Int)(he:0<=e/\e<hs.length)(C:List In)(J3:C.length<=1000)(hk:k2 [iI (j+1:Nat),bL (C++ta hs n a e)]):
 VZ.sat ayu CC Q [k0,k1,k2] [x0,x1,x2,x3,x4,x5,dr hs,x7,x8,x9,bN,bW,cT,cG,cV,iI n,dP,eT,g_,gj,iZ,iI j,bL C,iI e]:=by
 obtain⟨hn,zf⟩:=ayw.1 ha;have hA:=gK hn;rw[zf]at hA;have jv:e=((e.toNat:Nat):Int):=ai;have bJ:e.toNat<hs.length:=ai;have hB:=gK bJ;rw[<-jv]at hB;have hw:=aD hj ai
 have YW:ta hs n a e=if hs[e.toNat].s=a.s/\hs[e.toNat].ts.length=a.ts.length then[⟨4,n,e,jw,[]⟩]else[]:=by
  unfold ta;rw[ayv bJ]
 have hc:=dQ (a:=C) (i:=⟨4,n,e,jw,[]⟩) ai;rw[YW]at hk;generalize hs[e.toNat]=b at*
 unfold VZ;refine fA (λvs=>vs=[iB (decide (a.s=b.s)&&decide (a.ts.length=b.ts.length))]) ?_ λvs db=>?_
 .simp[-ayx,dC,hA,hB,ao];by_cases e1:a.s=b.s
  .left;refine⟨e1,?_⟩;show _=_;simp[e1];rw[aAy];simp;omega
  .right;refine⟨e1,?_⟩;show _=_;simp[e1]
 .subst db;refine⟨rfl,?_⟩;by_cases e1:a.s=b.s/\a.ts.length=b.ts.length
  .rw[if_pos ⟨e1.1.symm,e1.2.symm⟩]at hk;rw[decide_eq_true e1.1,decide_eq_true e1.2];simp[-ayx,dC,hw,aF,cellsOf];exact⟨_,hc,hk⟩
  .rw[if_neg (λh=>e1 ⟨h.1.symm,h.2.symm⟩),ayO]at hk
   have:(decide (a.s=b.s)&&decide (a.ts.length=b.ts.length))=af:=by
    rw[Bool.and_eq_false_iff,decide_eq_false_iff_not,decide_eq_false_iff_not];by_cases q:a.s=b.s
    .exact .inr λw=>e1 ⟨q,w⟩
    .exact .inl q
   rw[this];simp[-ayx,dC,hw];exact hk
theorem asv(x:Pn)(r:Rl)(k n:Nat)(mq:k<=1000)(a:At)(ha:hs[n]?=aa a)(fF:a.ts.length<=8)(ps te:List Int)(lG:Sm ps)(ht:x.cj[k+2]?=aa te)(vN:te.length<=100)(hv:pQ r.aw.length te)(C:List In)(J3:C.length<=500)
 (hk:k1 [iI 13,bL (C++bM n ps a.ts 0++bA r.aw te)]):
 V5.sat ayu CC Q [k0,k1,k2] [x0,x1,aZ x,x3,x4,bP r,dr hs,x7,x8,x9,bN,bW,iI k,cG,cV,iI n,dP,eT,g_,gj,iZ,ow,bL C,iL ps]:=by
 obtain⟨hn,zf⟩:=ayw.1 ha;have hA:=gK hn;rw[zf]at hA;obtain⟨oV,HQ⟩:=ayw.1 ht;have hT:cz 1 (bg x.cj) (iI ((k:Int)+2))=aa (iL x.cj[k+2]):=mV oV;rw[HQ]at hT;have VU:ay1.wrap ((k:Int)+2)=(k:Int)+2:=dD ai ai;have Bk:=pP n ps a.ts 0;have hN:aZ x=.agg [iI x.o.r,iI x.o.h,iB x.o.k,iL x.aH,bg x.cM,bg x.cj]:=rfl;have Tg:=λV9=>ahP (Q:=Q) (k0:=k0) (k1:=k1) (k2:=k2) (k3:=V9) (x0:=x0) (x1:=x1) (x2:=aZ x) (x3:=x3) (x4:=x4) (x5:=bP r) (x6:=dr hs) (x7:=x7) (x8:=x8) (x9:=x9) (bN:=bN) (bW:=bW) (cT:=iI k) (cG:=cG) (cV:=cV) (dP:=dP) (eT:=eT) (g_:=g_) (gj:=gj) (iZ:=iZ) (ow:=ow) x n a fF C ai ps lG;unfold V5;refine fA (λvs=>vs=[bL (C++bM n ps a.ts 0)]) ?_ λvs db=>?_
 .simp[-ayx,dC,hA,ao];exact Tg _ rfl
 .subst db;refine⟨rfl,?_⟩;have abp:(C++bM n ps a.ts 0).length<=600:=by rw[ayC];omega
  generalize C++bM n ps a.ts 0=C1 at*
  have Y2:=λV9=>ahQ (Q:=Q) (k0:=k0) (k1:=k1) (k2:=k2) (k3:=V9) (x0:=x0) (x1:=x1) (x2:=aZ x) (x3:=x3) (x4:=x4) (x6:=dr hs) (x7:=x7) (x8:=x8) (x9:=x9) (bN:=bN) (bW:=bW) (cT:=iI k) (cG:=cG) (cV:=cV) (gp:=iI n) (dP:=dP) (eT:=eT) (g_:=g_) (gj:=gj) (iZ:=iZ) (ow:=ow) (wG:=bL C) (wF:=iL ps) r te ai hv C1 ai;rw[hN]at*
  simp[-ayx,dC,VU,hT];unfold adT;refine fA (λvs=>vs=[bL (C1++bA r.aw te)]) ?_ λvs db=>?_
  .simp[-ayx,cI,gH,pS,o6];exact Y2 _ rfl
  .subst db;refine⟨rfl,?_⟩;generalize C1++bA r.aw te=C2 at*
   simp[-ayx,cI,gH,Gs];exact hk
theorem aof(x:Pn)(r:Rl)(k n:Nat)(mq:k<=1000)(a:At)(ha:hs[n]?=aa a)(fF:a.ts.length<=8)(ps te:List Int)(lG:Sm ps)(ht:x.cj[k+2]?=aa te)(vN:te.length<=100)(hv:pQ r.aw.length te)(C:List In)(J3:C.length<=500)
 (hk:k1 [cG,bL (C++bM n ps a.ts 0++bA r.aw te)]):
 O0.sat ayu CC Q [k0,k1,k2] [x0,x1,aZ x,x3,x4,bP r,dr hs,x7,x8,x9,bN,bW,iI k,cG,cV,iI n,dP,eT,g_,gj,iZ,ow,bL C,iL ps]:=by
 obtain⟨hn,zf⟩:=ayw.1 ha;have hA:=gK hn;rw[zf]at hA;obtain⟨oV,HQ⟩:=ayw.1 ht;have hT:cz 1 (bg x.cj) (iI ((k:Int)+2))=aa (iL x.cj[k+2]):=mV oV;rw[HQ]at hT;have VU:ay1.wrap ((k:Int)+2)=(k:Int)+2:=dD ai ai;have Bk:=pP n ps a.ts 0;have hN:aZ x=.agg [iI x.o.r,iI x.o.h,iB x.o.k,iL x.aH,bg x.cM,bg x.cj]:=rfl;have Tg:=λV9=>ahP (Q:=Q) (k0:=k0) (k1:=k1) (k2:=k2) (k3:=V9) (x0:=x0) (x1:=x1) (x2:=aZ x) (x3:=x3) (x4:=x4) (x5:=bP r) (x6:=dr hs) (x7:=x7) (x8:=x8) (x9:=x9) (bN:=bN) (bW:=bW) (cT:=iI k) (cG:=cG) (cV:=cV) (dP:=dP) (eT:=eT) (g_:=g_) (gj:=gj) (iZ:=iZ) (ow:=ow) x n a fF C ai ps lG;unfold O0;refine fA (λvs=>vs=[bL (C++bM n ps a.ts 0)]) ?_ λvs db=>?_
 .simp[-ayx,dC,hA,ao];exact Tg _ rfl
 .subst db;refine⟨rfl,?_⟩;have abp:(C++bM n ps a.ts 0).length<=600:=by rw[ayC];omega
  generalize C++bM n ps a.ts 0=C1 at*
  have Y2:=λV9=>ahQ (Q:=Q) (k0:=k0) (k1:=k1) (k2:=k2) (k3:=V9) (x0:=x0) (x1:=x1) (x2:=aZ x) (x3:=x3) (x4:=x4) (x6:=dr hs) (x7:=x7) (x8:=x8) (x9:=x9) (bN:=bN) (bW:=bW) (cT:=iI k) (cG:=cG) (cV:=cV) (gp:=iI n) (dP:=dP) (eT:=eT) (g_:=g_) (gj:=gj) (iZ:=iZ) (ow:=ow) (wG:=bL C) (wF:=iL ps) r te ai hv C1 ai;rw[hN]at*
  simp[-ayx,dC,VU,hT];unfold YX;refine fA (λvs=>vs=[bL (C1++bA r.aw te)]) ?_ λvs db=>?_
  .simp[-ayx,cI,gH,pS,o6];exact Y2 _ rfl
  .subst db;refine⟨rfl,?_⟩;generalize C1++bA r.aw te=C2 at*
   simp[-ayx,cI,gH];exact hk
end
end
section
section
variable{Q:IV->Prop}{k0 k1 k2 k3:List IV->Prop}{hs:List At}{x0 x1 x2 x3 x4 x5 x6 x7 x8 x9 bN bW cT cG cV gp dP eT g_ gj iZ ow wG wF:IV}
theorem asw(x:Pn)(r:Rl)(k n:Nat)(mq:k<=1000)(a:At)(ha:hs[n]?=aa a)(fF:a.ts.length<=8)(ps te:List Int)(lG:Sm ps)(sK:x.cM[k]?=aa ps)(ht:x.cj[k+2]?=aa te)(vN:te.length<=100)(hv:pQ r.aw.length te)(es:List Int)(jV:es.length<=50)(jJ:rY hs.length es)(C:List In)(J3:C.length<=300)
 (hk:k1 [iI 13,bL (C++er hs n a es++bM n ps a.ts 0++bA r.aw te)]):
 V6.sat ayu CC Q [k0,k1] [x0,x1,aZ x,x3,x4,bP r,dr hs,x7,x8,x9,bN,bW,iI k,cG,cV,iI n,dP,eT,bL C,gj,iL es]:=by
 obtain⟨qu,y_⟩:=ayw.1 sK;have hK:=mV qu;rw[y_]at hK;have hN:aZ x=.agg [iI x.o.r,iI x.o.h,iB x.o.k,iL x.aH,bg x.cM,bg x.cj]:=rfl;unfold V6;refine az es.length (λj (_:Unit)=>[iI j,bL (C++er hs n a (es.take j))]) (λ_ _=>True) () ?_ trivial λj _ hj _=>?_
 .simp[Gs,gH,er]
 have yC:=pR hs n a (es.take j);rw[azq]at yC;by_cases aj:j<es.length
 .have bI:=Dz (hs:=hs) (h:=n) (a:=a) aj;have hy:=λkk=>ahR (Q:=Q) (k0:=k0) (k1:=k1) (k2:=kk) (x0:=x0) (x1:=x1) (x2:=aZ x) (x3:=x3) (x4:=x4) (x5:=bP r) (x7:=x7) (x8:=x8) (x9:=x9) (bN:=bN) (bW:=bW) (cT:=iI k) (cG:=cG) (cV:=cV) (dP:=dP) (eT:=eT) (g_:=bL C) (gj:=gj) (iZ:=iL es) n j ai a ha es[j] (jJ _ (ayy aj)) (C++er hs n a (es.take j)) (by rw[ayC];omega);rw[ayJ,<-bI]at hy;generalize rh:C++er hs n a (es.take (j+1))=C1 at*
  generalize C++er hs n a (es.take j)=C0 at*
  simp[-ayx,cI,gH,pS,o6,yF,yG,aj,eF aj];exact hy _ (.mk () (by rw[rh]) ai trivial)
 .have VO:j=es.length:=ai;rw[VO,aAr]
  have hCA:(C++er hs n a es).length<=400:=by
   have:=pR hs n a es;rw[ayC];omega
  generalize C++er hs n a es=C1 at*
  have hy:=λkk=>asv (Q:=Q) (k0:=k0) (k1:=k1) (k2:=kk) (x0:=x0) (x1:=x1) (x3:=x3) (x4:=x4) (x7:=x7) (x8:=x8) (x9:=x9) (bN:=bN) (bW:=bW) (cG:=cG) (cV:=cV) (dP:=dP) (eT:=eT) (g_:=bL C) (gj:=gj) (iZ:=iL es) (ow:=iI es.length) x r k n mq a ha fF ps te lG ht vN hv C1 ai hk;rw[hN]at*
  simp[-ayx,cI,gH,pS,o6,yF,yG,wi,oj,hK];exact hy _
theorem aog(x:Pn)(r:Rl)(k n:Nat)(mq:k<=1000)(a:At)(ha:hs[n]?=aa a)(fF:a.ts.length<=8)(ps te:List Int)(lG:Sm ps)(sK:x.cM[k]?=aa ps)(ht:x.cj[k+2]?=aa te)(vN:te.length<=100)(hv:pQ r.aw.length te)(es:List Int)(jV:es.length<=50)(jJ:rY hs.length es)(C:List In)(J3:C.length<=300)
 (hk:k1 [cG,bL (C++er hs n a es++bM n ps a.ts 0++bA r.aw te)]):
 O1.sat ayu CC Q [k0,k1] [x0,x1,aZ x,x3,x4,bP r,dr hs,x7,x8,x9,bN,bW,iI k,cG,cV,iI n,dP,eT,bL C,gj,iL es]:=by
 obtain⟨qu,y_⟩:=ayw.1 sK;have hK:=mV qu;rw[y_]at hK;have hN:aZ x=.agg [iI x.o.r,iI x.o.h,iB x.o.k,iL x.aH,bg x.cM,bg x.cj]:=rfl;unfold O1;refine az es.length (λj (_:Unit)=>[iI j,bL (C++er hs n a (es.take j))]) (λ_ _=>True) () ?_ trivial λj _ hj _=>?_
 .simp[Gs,gH,er]
 have yC:=pR hs n a (es.take j);rw[azq]at yC;by_cases aj:j<es.length
 .have bI:=Dz (hs:=hs) (h:=n) (a:=a) aj;have hy:=λkk=>ahR (Q:=Q) (k0:=k0) (k1:=k1) (k2:=kk) (x0:=x0) (x1:=x1) (x2:=aZ x) (x3:=x3) (x4:=x4) (x5:=bP r) (x7:=x7) (x8:=x8) (x9:=x9) (bN:=bN) (bW:=bW) (cT:=iI k) (cG:=cG) (cV:=cV) (dP:=dP) (eT:=eT) (g_:=bL C) (gj:=gj) (iZ:=iL es) n j ai a ha es[j] (jJ _ (ayy aj)) (C++er hs n a (es.take j)) (by rw[ayC];omega);rw[ayJ,<-bI]at hy;generalize rh:C++er hs n a (es.take (j+1))=C1 at*
  generalize C++er hs n a (es.take j)=C0 at*
  simp[-ayx,cI,gH,pS,o6,yF,yG,aj,eF aj];exact hy _ (.mk () (by rw[rh]) ai trivial)
 .have VO:j=es.length:=ai;rw[VO,aAr]
  have hCA:(C++er hs n a es).length<=400:=by
   have:=pR hs n a es;rw[ayC];omega
  generalize C++er hs n a es=C1 at*
  have hy:=λkk=>aof (Q:=Q) (k0:=k0) (k1:=k1) (k2:=kk) (x0:=x0) (x1:=x1) (x3:=x3) (x4:=x4) (x7:=x7) (x8:=x8) (x9:=x9) (bN:=bN) (bW:=bW) (cG:=cG) (cV:=cV) (dP:=dP) (eT:=eT) (g_:=bL C) (gj:=gj) (iZ:=iL es) (ow:=iI es.length) x r k n mq a ha fF ps te lG ht vN hv C1 ai hk;rw[hN]at*
  simp[-ayx,cI,gH,pS,o6,yF,yG,wi,oj,hK];exact hy _
end
end
section
theorem k31(p:Pg)(hp:jG p):∃b:Bool,(b=ab↔wH p)/\CC 31 af [aW p] (iB b):=by
 obtain⟨a,n,h1,h2⟩:=v32 p hp;refine⟨decide (n=0),by simp[h1],?_⟩;refine CC.dJ au_ kr (λ_=>kr) (by simpa using eO p) (by rfl) ?_;have hP:aW p=.agg [dO p.eN,jF p.bc]:=rfl;rw[hP]at*
 simp[als,SE.den,ao];refine⟨_,h2,?_⟩;simp;rw[aAy];simp
section
variable{Q:IV->Prop}{k0 k1 k2 k3:List IV->Prop}{hs:List At}{x0 x1 x2 x3 x4 x5 x6 x7 x8 x9 bN bW cT cG cV gp dP eT g_ gj iZ ow wG wF:IV}
theorem aoh{p:Pg}(hp:jG p){x:Pn}{i:Nat}{r:Rl}{k n:Nat}{a:At}{ps te:List Int}(kR:CQ p x k i n r a ps te)(fF:a.ts.length<=8)(vN:te.length<=6)(acc:List Ac)(hc:Eu acc)(f:Int)(C:List In)(J3:C.length<=250)
 (hk:k0 [iI (k+1:Nat),iI (if CU (r.aq++r.av) acc x k<0 then 13 else f),bL (C++zQ (r.aq++r.av) r.aw acc x k)]):
 O2.sat ayu CC Q [k0] [aW p,fL acc,aZ x,x3,x4,bP r,dr (r.aq++r.av),x7,x8,x9,bN,bW,iI k,iI f,bL C]:=by
 obtain⟨lH,bu⟩:=ayw.1 kR.h.od;have pV:=kR.ol;have hO:=eF lH;rw[bu]at hO;have h97:=k97 hp kR.h acc hc;have h98:=k98 hp kR.h kR.pl;rw[CV kR acc]at hk;rw[QZ kR acc]at hk;have jJ:=Jh (L:=x.aH) (l:=k) ai;have h99:=k99 [[x.o.h],x.aH.take k] ax (by simp;omega) ax;have hfl:([[x.o.h],x.aH.take k]:List (List Int)).flatten=x.o.h::x.aH.take k:=by simp
 rw[hfl]at h99
 have ahS:rY (r.aq++r.av).length (x.o.h::x.aH.take k):=λv hv=>kR.ov v (by
  rcases ayN.1 hv with rfl|hv
  .simp
  .exact azA _ (azI hv))
 have ot:(x.o.h::x.aH.take k).length<=51:=by simp;omega
 have aoi:(x.o.h::x.aH.take k).length<=50:=by simp;omega
 have lG:Sm ps:=by have:=kR.pl;unfold Sm;omega
 have MZ:=aD (show k<1000 by omega) ai;generalize y_:ux acc ⟨a.s,a.ts.length,ps⟩=pk at*
 have ahT:dz 7 96 (bL C) (.tree 7 [.agg [iI 3,iI n,iI pk,iI 0,iS [],iT [],iT (mH a.ts ps)]])=aa (bL (C++[⟨3,n,pk,jw,mH a.ts ps⟩])):=dQ (a:=C) (i:=⟨3,n,pk,jw,mH a.ts ps⟩) ai
 have hsE:C++jx (r.aq++r.av) r.aw acc x k n a ps te=(C++[⟨3,n,pk,jw,mH a.ts ps⟩])++er (r.aq++r.av) n a (x.o.h::x.aH.take k)++bM n ps a.ts 0++bA r.aw te:=by
  unfold jx;rw[y_];simp
 rw[hsE]at hk;have hN:aZ x=.agg [iI x.o.r,iI x.o.h,iB x.o.k,iL x.aH,bg x.cM,bg x.cj]:=rfl;have hP:aW p=.agg [dO p.eN,jF p.bc]:=rfl;have abp:(C++[(⟨3,n,pk,jw,mH a.ts ps⟩:In)]).length<=300:=by simp;omega
 generalize mH a.ts ps=kt at*
 generalize rh:C++[(⟨3,n,pk,jw,kt⟩:In)]=C1 at*
 have hLL:bg [[x.o.h],x.aH.take k]=.tree 1 [.tree 1 [iI x.o.h],iL (x.aH.take k)]:=rfl;rw[hLL]at h99;unfold O2;refine fA (λvs=>vs=[iI (if pk<0 then 13 else f),bL (C1++er (r.aq++r.av) n a (x.o.h::x.aH.take k)++bM n ps a.ts 0++bA r.aw te)]) ?_ λvs db=>?_
 .by_cases e:pk<0
  .have hy:=λy9 gj eT dP=>asw (Q:=Q) (k0:=k0) (k1:=y9) (x0:=aW p) (x1:=fL acc) (x3:=x3) (x4:=x4) (x7:=x7) (x8:=x8) (x9:=x9) (bN:=bN) (bW:=bW) (cG:=iI f) (cV:=bL C) (dP:=dP) (eT:=eT) (gj:=gj) x r k n ai a kR.h.hd fF ps te lG kR.h.kn kR.t ai kR.tv (x.o.h::x.aH.take k) aoi ahS C1 abp;rw[if_pos e];generalize C1++er (r.aq++r.av) n a (x.o.h::x.aH.take k)++bM n ps a.ts 0++bA r.aw te=CF at*
   generalize x.o.h::x.aH.take k=es at*
   generalize x.aH.take k=tk at*
   rw[hN,hP]at*
   simp[-ayx,dC,adS,hO];refine⟨_,h97,?_⟩;simp[-ayx,cI,e];refine⟨_,h98,?_⟩;simp[-ayx,cI,Jj,OZ,cellsOf];refine⟨_,ahT,?_⟩;simp[-ayx,cI,aF,jJ];refine⟨_,h99,?_⟩;simp[-ayx,cI];exact hy _ _ _ _ rfl
  .have hy:=λy9 gj eT dP=>aog (Q:=Q) (k0:=k0) (k1:=y9) (x0:=aW p) (x1:=fL acc) (x3:=x3) (x4:=x4) (x7:=x7) (x8:=x8) (x9:=x9) (bN:=bN) (bW:=bW) (cG:=iI f) (cV:=bL C) (dP:=dP) (eT:=eT) (gj:=gj) x r k n ai a kR.h.hd fF ps te lG kR.h.kn kR.t ai kR.tv (x.o.h::x.aH.take k) aoi ahS C1 abp;rw[if_neg e];generalize C1++er (r.aq++r.av) n a (x.o.h::x.aH.take k)++bM n ps a.ts 0++bA r.aw te=CF at*
   generalize x.o.h::x.aH.take k=es at*
   generalize x.aH.take k=tk at*
   rw[hN,hP]at*
   simp[-ayx,dC,adS,hO];refine⟨_,h97,?_⟩;simp[-ayx,cI,e];refine⟨_,h98,?_⟩;simp[-ayx,cI,Jj,OZ,cellsOf];refine⟨_,ahT,?_⟩;simp[-ayx,cI,aF,jJ];refine⟨_,h99,?_⟩;simp[-ayx,cI];exact hy _ _ _ _ rfl
 .subst db;refine⟨rfl,?_⟩;generalize C1++er (r.aq++r.av) n a (x.o.h::x.aH.take k)++bM n ps a.ts 0++bA r.aw te=CF at*
  simp[-ayx,cI,gH,Gs,pS,yG,MZ];exact hk
end
end
section
section
variable{Q:IV->Prop}{k0 k1 k2 k3:List IV->Prop}{hs:List At}{x0 x1 x2 x3 x4 x5 x6 x7 x8 x9 bN bW cT cG cV gp dP eT g_ gj iZ ow wG wF:IV}
theorem aoj(x:Pn)(r:Rl)(h:iY r)(hn:qG r)(hf:fY r)(hz:zd r)(f:Int)(C:List In)(J3:C.length<=300)
 (hQ:Q (if f≠0 then .aL [nN,iI f]else wk x.o (nO x r (Ba x r C)))):
 O5.sat ayu CC Q [k0] [x0,x1,aZ x,x3,x4,bP r,dr (r.aq++r.av),x7,x8,x9,bN,bW,cT,iI f,bL C]:=by
 have hN:aZ x=.agg [iI x.o.r,iI x.o.h,iB x.o.k,iL x.aH,bg x.cM,bg x.cj]:=rfl;unfold O5;refine fA (λvs=>vs=[bL (nO x r (Ba x r C))]) ?_ λvs db=>?_
 .by_cases e:r.av=[]
  .have pU:Ba x r C=C++[Ez x.o.r (r.aq++r.av).length]:=by unfold Ba;rw[if_pos e]
   have hy:=λy9=>an7 (Q:=Q) (k0:=k0) (k1:=y9) (x0:=x0) (x1:=x1) (x3:=x3) (x4:=x4) (x7:=x7) (x8:=x8) (x9:=x9) (bN:=bN) (bW:=bW) (cT:=cT) (cG:=iI f) (cV:=bL C) x r h hn hf hz e (Ba x r C) (by rw[pU];simp;omega);generalize nO x r (Ba x r C)=T at*
   rw[pU]at hy;have hc:=dQ (a:=C) (i:=Ez x.o.r (r.aq++r.av).length) ai;generalize rh:C++[Ez x.o.r (r.aq++r.av).length]=C1 at*
   rw[bx]at*
   rw[hN]at*
   generalize r.aq++r.av=hs at*
   simp[-ayx,dC,e,aF,cellsOf]at hy⊢;exact⟨_,hc,hy _ rfl⟩
  .have pU:Ba x r C=C:=by unfold Ba;rw[if_neg e]
   rw[pU];have hy:=λy9=>an8 (Q:=Q) (k0:=k0) (k1:=y9) (x0:=x0) (x1:=x1) (x3:=x3) (x4:=x4) (x7:=x7) (x8:=x8) (x9:=x9) (bN:=bN) (bW:=bW) (cT:=cT) (cG:=iI f) x r h hn hf hz e C ai;generalize nO x r C=T at*
   rw[bx]at*
   rw[hN]at*
   generalize r.aq++r.av=hs at*
   simp[-ayx,dC,e,aF,cellsOf];exact hy _ rfl
 .subst db;refine⟨rfl,?_⟩;generalize nO x r (Ba x r C)=T at*
  rw[xj]at hQ;rw[hN];by_cases e:f=0
  .subst e;rw[if_neg ax]at hQ;unfold wk at hQ;rw[xj]at hQ;by_cases e2:200<T.length
   .rw[if_pos e2]at hQ;simp[-ayx,dC,cellsOf];left;exact⟨by omega,hQ⟩
   .rw[if_neg e2]at hQ;simp[-ayx,dC,cellsOf];right;exact⟨by omega,hQ⟩
  .rw[if_pos e]at hQ;simp[-ayx,dC,e,cellsOf];exact hQ
theorem aok{p:Pg}(hp:jG p){x:Pn}{i m:Nat}{r:Rl}(hg:Good p x i m r)(h:iY r)(hn:qG r)(hf:fY r)(hz:zd r)(acc:List Ac)(hc:Eu acc)(base:List In)(hbl:base.length<=100)
 (hQ:Q (if jT (r.aq++r.av) acc x x.aH.length=ab then .aL [nN,iI 13]else wk x.o (nO x r (Ba x r (gx (r.aq++r.av) r.aw acc x base x.aH.length))))):
 O6.sat ayu CC Q [] [aW p,fL acc,aZ x,x3,x4,bP r,dr (r.aq++r.av),x7,x8,x9,bN,bL base]:=by
 have pV:=hg.ol;have HQ:=hg.part;have hN:aZ x=.agg [iI x.o.r,iI x.o.h,iB x.o.k,iL x.aH,bg x.cM,bg x.cj]:=rfl;unfold O6;refine az x.aH.length (λk (_:Unit)=>[iI k,iI (if jT (r.aq++r.av) acc x k=ab then 13 else 0),bL (gx (r.aq++r.av) r.aw acc x base k)]) (λk _=>True) () ?_ trivial λk _ hk _=>?_
 .simp[Gs,gH,gx,jT]
 have pW:=Iq hg acc base k ai;by_cases aj:k<x.aH.length
 .obtain⟨n,a,ps,te,kR,fF,vN⟩:=HQ k aj;have PT:=M4 (r.aq++r.av) acc x k;have uR:gx (r.aq++r.av) r.aw acc x base (k+1)=gx (r.aq++r.av) r.aw acc x base k++zQ (r.aq++r.av) r.aw acc x k:=rfl;have hy:=λkk=>aoh (Q:=Q) (k0:=kk) (x3:=x3) (x4:=x4) (x7:=x7) (x8:=x8) (x9:=x9) (bN:=bN) (bW:=bL base) hp kR fF vN acc hc (if jT (r.aq++r.av) acc x k=ab then 13 else 0) (gx (r.aq++r.av) r.aw acc x base k) ai;rw[<-uR]at hy
  have LA:(if CU (r.aq++r.av) acc x k<0 then(13:Int)else if jT (r.aq++r.av) acc x k=ab then 13 else 0)=if jT (r.aq++r.av) acc x (k+1)=ab then 13 else 0:=by
   rw[PT];by_cases e1:CU (r.aq++r.av) acc x k<0
   .simp[e1]
   .simp[e1]
  rw[LA]at hy;have sU:=hy (Qm x.aH.length (λk (_:Unit)=>[iI k,iI (if jT (r.aq++r.av) acc x k=ab then 13 else 0),bL (gx (r.aq++r.av) r.aw acc x base k)]) (λk _=>True) k) (.mk () rfl ai trivial);generalize hC0:gx (r.aq++r.av) r.aw acc x base k=C0 at sU⊢;generalize(if jT (r.aq++r.av) acc x k=ab then(13:Int)else 0)=f0 at sU⊢;rw[hN]at sU⊢;simp[-ayx,cI,gH,pS,wi,o6,yG,oj,aj];exact sU
 .have sK:k=x.aH.length:=ai;subst sK
  have hy:=λkk=>aoj (Q:=Q) (k0:=kk) (x0:=aW p) (x1:=fL acc) (x3:=x3) (x4:=x4) (x7:=x7) (x8:=x8) (x9:=x9) (bN:=bN) (bW:=bL base) (cT:=iI x.aH.length) x r h hn hf hz (if jT (r.aq++r.av) acc x x.aH.length=ab then 13 else 0) (gx (r.aq++r.av) r.aw acc x base x.aH.length) ai (by
   by_cases e:jT (r.aq++r.av) acc x x.aH.length=ab
   .rw[if_pos e]at hQ;rw[if_pos e,if_pos ax];exact hQ
   .rw[if_neg e]at hQ;rw[if_neg e,if_neg ax];exact hQ)
  have sU:=hy (Qm x.aH.length (λk (_:Unit)=>[iI k,iI (if jT (r.aq++r.av) acc x k=ab then 13 else 0),bL (gx (r.aq++r.av) r.aw acc x base k)]) (λk _=>True) x.aH.length);generalize hC0:gx (r.aq++r.av) r.aw acc x base x.aH.length=C0 at sU⊢;generalize(if jT (r.aq++r.av) acc x x.aH.length=ab then(13:Int)else 0)=f0 at sU⊢;rw[hN]at sU⊢;simp[-ayx,cI,gH,pS,wi,o6,yG,oj];exact sU
end
theorem asx{p:Pg}{acc:List Ac}{x:Pn}:mK ayu 11 (j8 p acc x)=ab:=by
 unfold j8 nP wk;split
 .split
  .split
   .exact kr
   .split<;>exact kr
  .exact kr
 .exact kr
theorem awJ(p:Pg)(hp:jG p)(cS:¬wH p)(acc:List Ac)(x:Pn):CC 11 af [aW p,fL acc,aZ x] (.aL [nN,iI 2]):=by
 refine CC.of anV kr kr (Gw p acc x) (Jl 2) ?_;obtain⟨b,h1,h2⟩:=k31 p hp
 have hb:b=af:=by
  cases b with
  |false=>rfl
  |true=>exact absurd (h1.1 rfl) cS
 subst hb;have hN:aZ x=.agg [iI x.o.r,iI x.o.h,iB x.o.k,iL x.aH,bg x.cM,bg x.cj]:=rfl;have hP:aW p=.agg [dO p.eN,jF p.bc]:=rfl;rw[hP]at h2;rw[hN,hP,xj];simp[abl,SE.den,ao];refine⟨_,h2,?_⟩;simp
theorem JV(p:Pg)(hp:jG p)(hz:∀r∈p.bc,zd r)(bu:wH p)(acc:List Ac)(hc:Eu acc)(x:Pn)(hx:wE x)(h6:x.aH.length<=6):CC 11 af [aW p,fL acc,aZ x] (j8 p acc x):=by
 refine CC.of anV kr asx (Gw p acc x) (J5 p acc x) ?_;obtain⟨b,h1,h2⟩:=k31 p hp;have hb:b=ab:=h1.2 bu;subst hb;have hfo:∀r∈p.bc,fY r:=λr hr=>(bu.r r hr).form (hp.rn r hr);have h32:=k32 p hp hfo x hx h6;have hN:aZ x=.agg [iI x.o.r,iI x.o.h,iB x.o.k,iL x.aH,bg x.cM,bg x.cj]:=rfl;have hP:aW p=.agg [dO p.eN,jF p.bc]:=rfl;by_cases hr:nM p x=ab
 rotate_left
 .have hb:j8 p acc x=.aL [nN,iI 2]:=by unfold j8;rw[if_neg hr]
  rw[aA0]at hr;rw[hr]at h32;rw[hb,xj];rw[hN,hP]at*
  simp[abl,SE.den,ao];refine⟨_,h2,?_⟩;simp;exact⟨_,h32,by simp⟩
 have hm:x.o∈occs p.bc:=by
  unfold nM at hr;rw[ayz,decide_eq_true_eq]at hr;exact hr.1
 obtain⟨i,m,r,h⟩:=xg.1 hm;have hg:=Y0 hp h hr;have gS:=h.ru;obtain⟨hi,gS⟩:=ayw.1 gS;have dt:r∈p.bc:=gS▸ayy hi;have lL:=hp.rs r dt;have hR:=q8 hi;rw[gS]at hR;have vo:cz 6 (jF p.bc) (iI x.o.r)=aa (.agg [iS r.name,dr r.aq,dr r.av,iX r.aw,iX r.aI,iI r.vars]):=by rw[h.or];exact hR
 have hb:j8 p acc x=nP r acc x:=by
  unfold j8;rw[if_pos hr,show p.bc[x.o.r.toNat]?=aa r by rw[h.or];exact h.ru]
 rw[hr]at h32;have Eo:=Yt r (by have:=lL.h;omega);have GG:m<(r.aq++r.av).length:=h.lt;have hA:=gK GG;rw[<-h.oh]at hA;obtain⟨t0,t1,g0,g1,g2,g3,g4,g5⟩:=hg.t;obtain⟨l0,e0⟩:=ayw.1 g0;obtain⟨l1,e1⟩:=ayw.1 g1
 have hT0:cz 1 (bg x.cj) (iI 0)=aa (iL t0):=by
  have:=mV l0;rw[e0]at this;exact this
 have hT1:cz 1 (bg x.cj) (iI 1)=aa (iL t1):=by
  have:=mV l1;rw[e1]at this;exact this
 have fF:=lL.hs _ (ayy GG);have Bk:=pP x.o.h [] (r.aq++r.av)[m].ts 0;have vN:∀l,(bA r.aw l).length=l.length:=λl=>by simp[bA]
 have Ly:=vN t0;have htb:=vN t1
 have vn:tT r x=bM x.o.h [] (r.aq++r.av)[m].ts 0++bA r.aw t0++bA r.aw t1:=by
  unfold tT;rw[azo,azo,g0,g1]
  have:gw (r.aq++r.av) x.o.h=(r.aq++r.av)[m].ts:=by
   unfold gw;rw[if_pos (by rw[h.oh];omega),h.oh,show((m:Int)).toNat=m from rfl,ayv GG]
  rw[this];rfl
 have hbl:(tT r x).length<=100:=by rw[vn,ayC,ayC];omega
 have hyE:=λx7 x8 x9 bN=>aok (Q:=(·=nP r acc x)) (x3:=iB ab) (x4:=iB ab) (x7:=x7) (x8:=x8) (x9:=x9) (bN:=bN) hp hg lL (hp.rn r dt) (hfo r dt) (hz r dt) acc hc (tT r x) hbl (by unfold nP M3;rfl);rw[vn]at hyE;rw[hb];generalize nP r acc x=res at*
 have sU:=λk0' x8 x7=>ast (Q:=(·=res)) (k0:=k0') (x0:=aW p) (x1:=fL acc) (x2:=aZ x) (x3:=iB ab) (x4:=iB ab) (x6:=dr (r.aq++r.av)) (x7:=x7) (x8:=x8) r t1 ai g5 (bM x.o.h [] (r.aq++r.av)[m].ts 0++bA r.aw t0) (by rw[ayC];omega);have AA:=λk0'=>ass (Q:=(·=res)) (k0:=k0') (x0:=aW p) (x1:=fL acc) (x2:=aZ x) (x3:=iB ab) (x4:=iB ab) (x6:=dr (r.aq++r.av)) r t0 ai g4 (bM x.o.h [] (r.aq++r.av)[m].ts 0) ai;have TP:=λk0'=>asr (Q:=(·=res)) (k0:=k0') (x0:=aW p) (x1:=fL acc) (x3:=iB ab) (x4:=iB ab) (x5:=bP r) (x6:=dr (r.aq++r.av)) x m (r.aq++r.av)[m] ai;generalize bM x.o.h [] (r.aq++r.av)[m].ts 0++bA r.aw t0++bA r.aw t1=B2 at*
 generalize bM x.o.h [] (r.aq++r.av)[m].ts 0++bA r.aw t0=B1 at*
 generalize bM x.o.h [] (r.aq++r.av)[m].ts 0=B0 at*
 generalize(r.aq++r.av)[m]=am at*
 have h34:O9.sat ayu CC (·=res) [] [aW p,fL acc,aZ x,iB ab,iB ab,bP r,dr (r.aq++r.av)]:=by
  generalize r.aq++r.av=hs at*
  unfold O9;refine fA (λvs=>vs=[bL B0]) ?_ λvs db=>?_
  .have hy:=TP (AY λvs=>vs=[bL B0]) rfl;rw[hN]at*
   simp[-ayx,cI,gH,pS,wi,yF,o6,adR,oj,Ll,hA,ao];exact hy
  .subst db;refine⟨rfl,?_⟩
   have h33:O8.sat ayu CC (·=res) [] [aW p,fL acc,aZ x,iB ab,iB ab,bP r,dr hs,bL B0,iL t0]:=by
    unfold O8;refine fA (λvs=>vs=[bL B1]) ?_ λvs db=>?_
    .have hy:=AA (AY λvs=>vs=[bL B1]) rfl;simp[-ayx,cI,gH,pS,o6];exact hy
    .subst db;refine⟨rfl,?_⟩
     have awK:O7.sat ayu CC (·=res) [] [aW p,fL acc,aZ x,iB ab,iB ab,bP r,dr hs,bL B0,iL t0,bL B1,iL t1]:=by
      unfold O7;refine fA (λvs=>vs=[bL B2]) ?_ λvs db=>?_
      .have hy:=sU (AY λvs=>vs=[bL B2]) (iL t0) (bL B0) rfl;simp[-ayx,cI,gH,pS,o6];exact hy
      .subst db;refine⟨rfl,?_⟩;have hy:=hyE (bL B0) (iL t0) (bL B1) (iL t1);rw[hN]at*
       simp[-ayx,cI,gH,o6,wi,oj];exact hy
     rw[hN]at*
     simp[-ayx,cI,gH,pS,yF,wi,Gs,oj,hT1];exact awK
   rw[hN]at*
   simp[-ayx,cI,gH,pS,yF,wi,Gs,oj,hT0];exact h33
 generalize r.aq++r.av=hs at*
 rw[bx]at*
 rw[hN,hP]at*
 simp[abl, -ayx,dC,ao];refine⟨_,h2,?_⟩;simp[-ayx,cI];refine⟨_,h32,?_⟩;simp[-ayx,cI,vo,oj,Ll,Jj,ao];exact⟨_,Eo,by simpa[-ayx,cI]using h34⟩
end
section
theorem uA{x:IV}(h:Pure x):∀y∈[x],Pure y:=by
 intro y hy;obtain rfl:=ayQ.1 hy;exact h
theorem aol(a:At)(h:a.ts.length<=1000):∃b,CC 147 af [jL a] (iB b):=by
 refine(CC.Cv (args:=[jL a]) (λ_=>True) aqo kr (λ_=>kr) (uA (uV a)) (by rfl) ?_).imp λ_ h=>h.2;have hA:jL a=.agg [iS a.s,iT a.ts]:=rfl;rw[hA];simp[agS,SE.den,ao];unfold XK;refine az a.ts.length (λi (_:Unit)=>[iI i]) (λ_ _=>True) () ?_ trivial λi _ hi _=>?_
 .simp[SE.den]
 by_cases aj:i<a.ts.length
 .have hw:=aD aj ai;simp[SE.den,aj,ku aj,bp,ao];by_cases e:a.ts[i].k=1
  .right;refine⟨e,?_⟩;unfold XJ;refine az i (λj (_:Unit)=>[iI j]) (λ_ _=>True) () ?_ trivial λj _ hj _=>?_
   .simp[SE.den]
   by_cases jB:j<i
   .have Bm:j<a.ts.length:=ai;have Aw:=aD jB ai;simp[SE.den,jB,ku aj,ku Bm,bp,ao,Aw];by_cases e2:a.ts[j].n=a.ts[i].n
    .left;exact e2
    .right;exact⟨e2,.mk () rfl ai trivial⟩
   .simp[SE.den,jB,hw];exact .mk () rfl ai trivial
  .left;exact e
 .simp[SE.den,aj]
theorem asy{a:List Ac}{k:Ac}(h:a.length<=1000):dz 3 48 (fL a) (.tree 3 [.agg [iS k.s,iI k.n,iL k.ps]])=aa (fL (a++[k])):=by
 have h2:iz 3 [.agg [iS k.s,iI k.n,iL k.ps]]=ab:=rfl;simp[dz,h2,oi];omega
theorem k80(a b:Ac)(ha:Sm a.ps):∃r,CC 80 af [oi a,oi b] (iB r):=by
 refine(CC.Cv (args:=[oi a,oi b]) (λ_=>True) au4 kr (λ_=>kr) (by
  intro y hy;rcases ayN.1 hy with rfl|hy
  .exact u5 a
  .exact uA (u5 b) _ hy) (by rfl) ?_).imp λ_ h=>h.2
 simp only[oi];simp[aln,SE.den,ao];by_cases e1:a.s=b.s
 rotate_left
 .left;exact e1
 right;refine⟨e1,?_⟩;by_cases e2:a.n=b.n
 rotate_left
 .left;exact e2
 right;refine⟨e2,?_⟩;by_cases e3:a.ps.length=b.ps.length
 rotate_left
 .left;omega
 right;refine⟨by omega,?_⟩;unfold acM;refine az a.ps.length (λi (_:Unit)=>[iI i]) (λ_ _=>True) () ?_ trivial λi _ hi _=>?_
 .simp[SE.den]
 by_cases aj:i<a.ps.length
 .have bJ:i<b.ps.length:=ai;have hw:=aD aj ha;simp[SE.den,aj,eF aj,eF bJ,hw];by_cases e4:a.ps[i]=b.ps[i]
  .right;exact⟨e4,.mk () rfl ai trivial⟩
  .left;exact e4
 .simp[SE.den,aj]
def abq(z:IV):Prop:=∃(k:Ac) (b:Bool),z=.aL [oi k,iB b]/\k.ps.length<=100
theorem Y3(s:List UInt8)(n:Int)(ps:List Int)(b:Bool)(h:ps.length<=100):abq (.aL [.agg [iS s,iI n,iL ps],iB b]):=⟨⟨s,n,ps⟩,b,rfl,h⟩
theorem yH:abq (.aL [.agg [iS [],iI 0,.tree 1 []],iB af]):=Y3 [] 0 [] af ax
section
variable{x0 x2 x3 x4 x5 x6 x7 x8 x9:IV}
theorem asz(hs:List At)(h2:hs.length=2)(fF:∀a∈hs,a.ts.length<=8)(a0 a1:At)(e0:hs[0]?=aa a0)(e1:hs[1]?=aa a1)(hl:a0.ts.length=a1.ts.length):
 Ui.sat ayu CC abq [] [x0,dr hs,x2,x3,x4,x5,x6,x7,x8,x9,jL a0,jL a0]:=by
 have i0:cz 2 (dr hs) (iI 0)=aa (.agg [iS a0.s,iT a0.ts]):=ef (i:=0) (x:=jL a0) (by simp[e0]) rfl;have i1:cz 2 (dr hs) (iI 1)=aa (.agg [iS a1.s,iT a1.ts]):=ef (i:=1) (x:=jL a1) (by simp[e1]) rfl;have iW:a0.ts.length<=8:=fF _ (ayM e0);have hA:jL a0=.agg [iS a0.s,iT a0.ts]:=rfl;rw[hA];unfold Ui;refine az a0.ts.length (λi (q:List Int)=>[iI i,iL q]) (λi q=>q.length<=8*i) [] ?_ ax λi q hi hI=>?_
 .simp[SE.den]
 by_cases aj:i<a0.ts.length
 rotate_left
 .simp[SE.den,i0,aj,ao];exact Y3 _ _ _ _ ai
 have hw:=aD aj ai;simp[SE.den,i0,aj,ao];unfold acL;refine az a1.ts.length (λj (q:List Int)=>[iI j,iL q]) (λj q=>q.length<=8*i+j) q ?_ ai λj q hj hJ=>?_
 .simp[SE.den]
 by_cases jB:j<a1.ts.length
 rotate_left
 .simp[SE.den,i1,jB,hw,ao];exact .mk _ rfl ai ai
 have Aw:=aD jB ai;simp[SE.den,i0,i1,jB,Aw,ao,ku aj,ku jB,bp];by_cases ea:a0.ts[i].n=a1.ts[j].n
 rotate_left
 .left;exact⟨ea,.mk _ rfl ai ai⟩
 right;refine⟨ea,?_⟩;by_cases eb:i=j
 rotate_left
 .left;exact⟨by omega,yH⟩
 right;refine⟨by omega,?_⟩;simp[aF,cellsOf];exact⟨_,mI ai,.mk _ rfl ai (by simp;omega)⟩
end
theorem k79(r:Rl)(h:iY r):∃(k:Ac) (b:Bool),k.ps.length<=100/\CC 79 af [bP r] (.aL [oi k,iB b]):=by
 suffices hs:aft.sat ayu CC abq [] [bP r] by
  obtain⟨z,⟨k,b,rfl,hk⟩,hz⟩:=CC.Qn (args:=[bP r]) au3 kr (by rintro _ ⟨k,b,rfl,_⟩;exact kr) (uA (fv r)) (by rintro _ ⟨k,b,rfl,_⟩;exact .aL _ (by simp[u5])) (by rfl) hs;exact⟨k,b,hk,hz⟩
 have hh:=h.h;have h39:=Qp r ai;have fF:=h.hs;have hy:=λx0 x2 x3 x4 x5 x6 x7 x8 x9=>asz (x0:=x0) (x2:=x2) (x3:=x3) (x4:=x4) (x5:=x5) (x6:=x6) (x7:=x7) (x8:=x8) (x9:=x9) (r.aq++r.av);rw[bx]at*
 generalize r.aq++r.av=hs at*
 simp[aft,SE.den,ao];refine⟨_,h39,?_⟩;simp;by_cases e1:hs.length=2
 rotate_left
 .left;exact⟨by omega,yH⟩
 right;refine⟨by omega,?_⟩;by_cases e2:r.av=[]
 .left;exact⟨e2,yH⟩
 right;refine⟨e2,?_⟩;by_cases e3:0<r.aw.length
 .left;exact⟨e3,yH⟩
 right;refine⟨by simpa using e3,?_⟩;obtain⟨a0,e0⟩:∃a,hs[0]?=aa a:=⟨_,ayv ai⟩;obtain⟨a1,dB⟩:∃a,hs[1]?=aa a:=⟨_,ayv ai⟩;have i0:cz 2 (dr hs) (iI 0)=aa (.agg [iS a0.s,iT a0.ts]):=ef (i:=0) (x:=jL a0) (by simp[e0]) rfl;have i1:cz 2 (dr hs) (iI 1)=aa (.agg [iS a1.s,iT a1.ts]):=ef (i:=1) (x:=jL a1) (by simp[dB]) rfl;obtain⟨b0,h0⟩:=aol a0 (by have:=fF _ (ayM e0);omega);obtain⟨b1,h1⟩:=aol a1 (by have:=fF _ (ayM dB);omega);have hA:∀a,jL a=.agg [iS a.s,iT a.ts]:=λ_=>rfl;rw[hA]at h0 h1;simp[i0,i1];by_cases e4:a0.s=a1.s
 rotate_left
 .left;exact⟨e4,yH⟩
 right;refine⟨e4,?_⟩;by_cases e5:a0.ts.length=a1.ts.length
 rotate_left
 .left;exact⟨by omega,yH⟩
 right;refine⟨by omega,_,h0,?_⟩;cases b0 with
 |false=>simp;exact yH
 |true=>
 simp;refine⟨_,h1,?_⟩;cases b1 with
 |false=>simp;exact yH
 |true=>
 simp;have:=hy;simp only[hA]at this;exact this _ _ _ _ _ _ _ _ _ e1 fF a0 a1 e0 dB e5
def awL(z:IV):Prop:=∃ks:List Ac,z=fL ks/\ks.length<=8/\∀k∈ks,k.ps.length<=100
theorem k29(p:Pg)(hp:jG p):∃ks:List Ac,ks.length<=8/\(∀k∈ks,k.ps.length<=100)/\CC 29 af [aW p] (fL ks):=by
 suffices hs:afs.sat ayu CC awL [] [aW p] by
  obtain⟨z,⟨ks,rfl,h1,h2⟩,hz⟩:=CC.Qn (args:=[aW p]) au2 kr (λ_ _=>kr) (uA (eO p)) (by rintro _ ⟨ks,rfl,_⟩;simp) (by rfl) hs;exact⟨ks,h1,h2,hz⟩
 have hP:aW p=.agg [dO p.eN,jF p.bc]:=rfl;have hr:=hp.r;rw[hP];simp[afs,SE.den,ao];unfold acK;refine az p.bc.length (λi (ks:List Ac)=>[iI i,fL ks]) (λi ks=>ks.length<=i/\∀k∈ks,k.ps.length<=100) [] ?_ ax λi ks hi hI=>?_
 .simp[SE.den]
 obtain⟨lH,kT⟩:=hI;by_cases aj:i<p.bc.length
 rotate_left
 .simp[SE.den,aj];exact⟨ks,rfl,by omega,kT⟩
 have hw:=aD aj ai;obtain⟨k,b,qu,h79⟩:=k79 p.bc[i] (hp.rs _ (ayy aj));have h80:=λj (hj:j<ks.length)=>k80 ks[j] k (by have:=kT _ (ayy hj);unfold Sm;omega);have hC:∀a,oi a=.agg [iS a.s,iI a.n,iL a.ps]:=λ_=>rfl;rw[bx,hC]at h79;simp only[hC]at h80;simp[SE.den,aj,q8 aj,ao];refine⟨_,h79,?_⟩;simp;unfold acJ;refine az ks.length (λj (b:Bool)=>[iI j,iB b]) (λ_ _=>True) b ?_ trivial λj b hj _=>?_
 .simp[SE.den]
 by_cases jB:j<ks.length
 .have Aw:=aD jB ai;obtain⟨q,hq⟩:=h80 j jB;have hq:=hq.CM (s8 rfl);cases b with
  |true=>
   simp[SE.den,jB,Gi jB,Aw,cellsOf];refine⟨_,hq,?_⟩;simp;exact .mk _ rfl ai trivial
  |false=>
   simp[SE.den,jB,Aw];exact .mk af rfl ai trivial
 .cases b with
  |true=>
   simp[SE.den,jB,hw,cellsOf,asy (show ks.length<=1000 by omega)]
   exact .mk (ks++[k]) rfl ai ⟨by simp;omega,λx hx=>by
    rcases ayS.1 hx with hx|hx
    .exact kT x hx
    .obtain rfl:=ayQ.1 hx;exact qu⟩
  |false=>
   simp[SE.den,jB,hw];exact .mk ks rfl ai ⟨by omega,kT⟩
end
def asA:List Nat:=[203,160,216,175,240,266,11,31,24,25,7,69,8,13,14,257,72,26,71,137,70,139,210,225,145,183,75,76,111,65,112,136,186,140,184,248,224,211,170,138,249,185,9,28,27,143,77,142,141,74,144,73,146,78,18,39,16,82,44,188,189,29,79,80,149,187,147,10,148,30,38,104,83,81,168,103,62,108,42,169,107,106,45,64,63,135,110,46,66,21,12,20,23,105,40,43,41,113,171,215,174,48,98,97,116,115,268,192,154,227,87,33,51,212,94,47,114,32,85,155,233,199,101,50,49,164,230,194,166,204,202,99,86,95,93,156,162,280]
def awM:List Nat:=[34,35,36,37,84,89,100,109,150,151,190,234]
def awN:List Nat:=[235,236,237,238,239,241,242]
def awO:List Nat:=[185,247,209,173000151,500195,500196,500040,500041,500043,500082,500140]
def asB(l:List Hint):eS:=⟨asA,awM,awN,l++[⟨999997,0,0,[],[],[],[]⟩,⟨999999,0,0,[],[],[],[]⟩],awO⟩
def Pd:ak:=
 (sF (vO eB aY) xG (FR 7 5) (rF 5 7 (oY 83 (j2 ij bo (rC zx 6 (eW 5 7))) (F6 9 5 8 (oY 83 (j2 ij bo (rC zx 6 (eW 5 8))) (Dp F7 .gtr rR F7 (ew 7 7) (ew 7 8)))))) (rF 5 8 (rV 6 (eW 5 8) (xD 1 xH aY (.var 8) (Dn 1 8 oZ rH (FW 8 1 (xD 1 xH (B9 8 1) xG (lU 1 8 11 (.var 12) (.next 0 (nC 13 9))))))))))
def Pe:ak:=
 (sF mN (mc 7 3) (BP 16 7 3) (xD 1 rH aY xz (vZ 3 (BZ 7) 16 3 19 (zC 189 (wD (.var 14) 7 1 (Mw 7 2 7 3 7 4 7 5)) 18 (fe 19 19 19) (.nt (fj 20) (.aV vT (xD 1 rH aY vT (vZ 3 (BZ 7) 16 3 22 (zC 189 (wD (.var 14) 7 1 (Mw 7 2 7 3 7 4 7 5)) 21 (fe 22 22 22) (mD 23 23 (xE 16 1 8 17 1 16 (iQ 5 16 24)) (iQ 5 16 17)))))) (iQ 5 16 17))))) (IU 1 24 15 1 17 (vU 4 13 14 18)))
def Pf:ak:=
 (sF (RB eB 7 0 (I1 F5)) (fO 10) (s7 .leq 3 13 (fO 10)) Pe (kH 3 15))
def Pj:ak:=
 (iJ (eL 188 (d_ 7 7 7 7 7 7) oZ (dY 12 Pf)) (.next 1 (nC 11 12)))
def Y4:ak:=
 (afn (BX aY MG) (fO 8) (FR 9 8) 1 (.var 8) 9 (dY 12 (zC 148 (d_ 7 7 7 7 7 7) 10 F5 (dY 13 (I_ 24 11 (fj 13) (tG 1 (.var 8) 9 15 (rV 10 mQ (vU 2 9 16 14))))))) Pj)
def Pk:ak:=
 (.BC (qX xu Y4) 2 (.ret (T6 2 0 2 1 (tq FO 8 (nC 9 10)))))
def Y5:ak:=
 (.loop (vO tI MG) (oF xG .gtr xG Pd (tN 6 1 zx (fm 6 7 (xD 1 xF eB tH Pk)))))
def abr:ak:=
 (xQ (fm 3 2 (eL 81 ij (fe 2 2 2) (mD 3 3 (.ret (HU aY (MF oX oZ oZ oZ))) (rD 1306 ij (fe 2 2 2) (qX xu Y5))))))
theorem asC:aE ayu (asB [⟨0,30,1000081,[],[(10,0),(12,0),(11,0)],[],[]⟩,⟨1,30082,1000043,[],[(12,0),(11,0)],[],[]⟩,⟨2,30082044,3,[(2,(6,0))],[(12,0),(11,0)],[(2,11)],[]⟩,⟨2,30082044,7,[(2,(7,0)),(2,(8,0))],[(13,0),(9,1)],[],[]⟩,⟨1,30082,4,[(1,(9,0))],[(10,3),(10,0),(9,1),(9,0),(8,4)],[(1,15)],[]⟩,⟨0,30,5,[],[(3,0),(4,1),(4,0),(3,1)],[(0,19),(0,22)],[]⟩,⟨0,30,8,[(0,(9,0)),(0,(10,0))],[(4,1)],[],[]⟩]) 400 af 30=abr:=by kernel_rfl
theorem awP(ks:List Ac)(hk:ks.length<=1000)(hp:∀k∈ks,Sm k.ps)(s:List UInt8)(ps:List Int)(lG:Sm ps):∃b,CC 149 af [fL ks,iS s,iL ps] (iB b):=by
 refine(CC.Cv (args:=[fL ks,iS s,iL ps]) (λ_=>True) aqp kr (λ_=>kr) ax (by rfl) ?_).imp λ_ h=>h.2;simp[agT,SE.den];unfold XM;refine az ks.length (λi (_:Unit)=>[iI i]) (λ_ _=>True) () ?_ trivial λi _ hi _=>?_
 .simp[SE.den]
 by_cases aj:i<ks.length
 .have hw:=aD aj ai;have CY:=hp _ (ayy aj);simp[SE.den,aj,Gi aj,ao];unfold XL;refine az ks[i].ps.length (λj (b:Bool)=>[iI j,iB b]) (λ_ _=>True) (ks[i].s==s) ?_ trivial λj b hj _=>?_
  .simp[SE.den]
  by_cases jB:j<ks[i].ps.length
  .have Aw:=aD jB CY;have awQ:=avU ps ks[i].ps[j] lG;cases b with
   |true=>
    simp[SE.den,jB,Gi aj,eF jB,ao,Aw];exact⟨_,awQ,by simp;exact .mk _ rfl ai trivial⟩
   |false=>
    simp[SE.den,jB,Gi aj,ao,Aw];exact .mk af rfl ai trivial
  .cases b with
   |true=>simp[SE.den,jB,Gi aj,ao]
   |false=>
    simp[SE.den,jB,Gi aj,ao,hw];exact .mk () rfl ai trivial
 .simp[SE.den,aj]
theorem M5(hs:List At)(done:List Int)(ts:List Tm):(lM hs done ts).length<=ts.length:=Ln _ _ _
theorem k83(p:Pg)(hp:jG p)(hf:∀r∈p.bc,fY r)(ks:List Ac)(hk:ks.length<=1000)(kT:∀k∈ks,Sm k.ps)(i:Nat)(r:Rl)(hi:p.bc[i]?=aa r)(done:List Int)(hd:done.length<=100)(n:Nat)(hn:n<(r.aq++r.av).length):
 ∃m,CC 83 af [aW p,fL ks,iI i,iL done,iI n] (iI m):=by
 refine(CC.K7 (args:=[aW p,fL ks,iI i,iL done,iI n]) (λ_=>True) au5 kr (λ_=>kr) (by
  intro y hy;rcases ayN.1 hy with rfl|hy
  .exact eO p
  .simp at hy;rcases hy with rfl|rfl|rfl|rfl<;>simp) (by rfl) ?_).imp λ_ h=>h.2
 obtain⟨aj,gS⟩:=ayw.1 hi;have dt:r∈p.bc:=gS▸ayy aj;have lL:=hp.rs r dt;have hh:=lL.h;have h39:=Qp r ai;have hR:=q8 aj;rw[gS]at hR;have VM:=afZ af r lL (hf r dt) done hd n _ (ayv hn);have fF:=lL.hs _ (ayy hn);have lH:(lM (r.aq++r.av) done (r.aq++r.av)[n].ts).length<=8:=ayU (M5 _ _ _) fF;generalize lM (r.aq++r.av) done (r.aq++r.av)[n].ts=kn at*
 have hA:=gK hn;obtain⟨b,awR⟩:=awP ks hk kT (r.aq++r.av)[n].s kn (by unfold Sm;omega);have hP:aW p=.agg [dO p.eN,jF p.bc]:=rfl;rw[bx]at*
 rw[hP];have hw:ay1.wrap (10*(kn.length:Int))=10*(kn.length:Int):=dD ai ai;generalize r.aq++r.av=hs at*
 simp[alo,SE.den,ao,aj,hR];right;right;refine⟨_,h39,?_⟩;simp[show¬hs.length<=n by omega,show¬(n:Int)<0 by omega];refine⟨_,VM,?_⟩;simp[hw,hA];refine⟨_,awR,?_⟩;have Jt:ay1.wrap (10*(kn.length:Int)+1)=10*(kn.length:Int)+1:=dD ai ai;have hc:r.aq.length<=n\/n<r.aq.length:=ai;cases b with
 |true=>simp[hc]
 |false=>simp[hc]
section
theorem adX{L:List Int}{a:Nat}(h1:a<=L.length):p6 1 (iL L) (iI (a:Nat)) (iI (L.length:Nat))=aa (iL (L.drop a)):=by
 simp[p6,ie,h1,List.map_drop];rw[ayF ax]
structure Bb(L:List (List Int)):Prop where
 l:L.length<=1000
 r:∀l∈L,l.length<=1000
theorem Bb.snoc{L:List (List Int)}{l:List Int}(h:∀x∈L,x.length<=1000)(hl:l.length<=1000):∀x∈L++[l],x.length<=1000:=by
 intro x hx;rcases ayS.1 hx with hx|hx
 .exact h x hx
 .obtain rfl:=ayQ.1 hx;exact hl
section
variable{Q:IV->Prop}{k0 k1 k2 k3 k4:List IV->Prop}{x0 x1 x2 x3 x4 x5 x6 x8 x9 bW cT:IV}
theorem asD(r:Rl)(h:iY r)(hf:fY r)(done:List Int)(hd:done.length<=100)(k:Nat)(l8:1<=k)(hk:k<=done.length)(out:List (List Int))(pV:out.length<=1000)
 (hk4:∀row:List Int,row.length<=6->k4 [iI (k+1:Nat),iS r.name,bg (out++[row])]):
 Pe.sat ayu CC Q [k0,k1,k2,k3,k4] [x0,x1,x2,x3,x4,x5,x6,bP r,x8,x9,iL done,bW,cT,iI k,iS r.name,bg out]:=by
 have hg6:=h.g;have Lj:∀(d:List Int) (hd:d.length<=100) (i:Nat) (hi:i<r.aw.length),CC 189 ab [bP r,iL d,uj r.aw[i]] (iB (fH (r.aq++r.av) d r.aw[i])):=λd hd i hi=>(af0 r h hf d hd _ (h.gs _ (ay9 _ (ayy hi))) (hf.gs _ (ay9 _ (ayy hi))).2).CM (s8 rfl);have MZ:=aD (show k<1000 by omega) ai;have hkm:ay1.wrap ((k:Int) - 1)=((k- 1:Nat):Int):=by rw[dD ai ai];omega
 rw[bx]at*
 unfold Pe;refine az r.aw.length (λi (o:List Int)=>[iI i,iL o]) (λi o=>o.length<=i) [] ?_ ax λi o hi hoo=>?_
 .simp[SE.den]
 by_cases aj:i<r.aw.length
 .have hw:=aD aj ai;have da:=Lj (done.take k) (by simp;omega) i aj;have eR:=Lj (done.take (k- 1)) (by simp;omega) i aj;have hG:uj r.aw[i]=.agg [iI r.aw[i].op,iS r.aw[i].s,iT r.aw[i].ts]:=rfl;rw[hG]at da eR;simp[SE.den,aj,hw,gJ aj,ao,Jh hk];refine⟨_,da,?_⟩;cases e1:fH (r.aq++r.av) (done.take k) r.aw[i]with
  |false=>
   simp;exact .mk o rfl ai ai
  |true=>
   simp[hkm,Jh (show k- 1<=done.length by omega)];refine⟨_,eR,?_⟩;cases e2:fH (r.aq++r.av) (done.take (k- 1)) r.aw[i]with
   |true=>
    simp;exact .mk o rfl ai ai
   |false=>
    simp[aF,cellsOf];exact⟨_,mI ai,.mk (o++[(i:Int)]) rfl ai (by simp;omega)⟩
 .simp[SE.den,aj,MZ,cellsOf,Ah (show out.length<=100000 by omega)];exact hk4 o ai
theorem asE(r:Rl)(h:iY r)(hf:fY r)(done:List Int)(hd:done.length<=100)(UZ:∀L,Bb L->k3 [bg L])(first:List Int)(hfl:first.length<=6):
 Pf.sat ayu CC Q [k0,k1,k2,k3] [x0,x1,x2,x3,x4,x5,x6,bP r,x8,x9,iL done,bW,iL first]:=by
 unfold Pf;refine eM (λ(s:Nat×List (List Int))=>[iI (s.1+1:Nat),iS r.name,bg s.2]) (λs=>s.1<=done.length/\s.2.length=s.1+1/\∀x∈s.2,x.length<=1000) (λs=>done.length- s.1) (0,[first]) ?_ ⟨by simp,by simp,by simp;omega⟩ λs hs=>?_
 .simp[SE.den,bx,cellsOf]
 obtain⟨k,out⟩:=s;obtain⟨hk,pV,PX⟩:=hs;simp only at hk pV PX;by_cases aj:k<done.length
 .have hz:((k:Int)+1<=(done.length:Int)):=ai;simp[SE.den,hz];refine asD r h hf done hd (k+1) ai ai out ai λrow hr=>?_;exact .mk (k+1,out++[row]) rfl ⟨by simp only;omega,by simp[pV],Bb.snoc PX ai⟩ (by simp only;omega)
 .have hz:¬((k:Int)+1<=(done.length:Int)):=ai;simp[SE.den,hz];exact UZ out ⟨by omega,PX⟩
theorem asF(r:Rl)(h:iY r)(hf:fY r)(done:List Int)(hd:done.length<=100)(kn:List (List Int))(l8:∀L,Bb L->k1 [bg kn,bg L]):
 Pj.sat ayu CC Q [k0,k1,k2] [x0,x1,x2,x3,x4,x5,x6,bP r,x8,x9,iL done,bg kn]:=by
 have af2:=anh r h hf [] ax;unfold Pj;refine fA (λvs=>∃L,vs=[bg L]/\Bb L) ?_ λvs db=>?_
 .have pW:=Lh (fH (r.aq++r.av) []) r.aw 0;have hg6:=h.g;have hw:=asE (Q:=Q) (k0:=k0) (k1:=k1) (k2:=k2) (k3:=AY λvs=>∃L,vs=[bg L]/\Bb L) (x0:=x0) (x1:=x1) (x2:=x2) (x3:=x3) (x4:=x4) (x5:=x5) (x6:=x6) (x8:=x8) (x9:=x9) (bW:=bg kn) r h hf done hd (λL hL=>⟨L,rfl,hL⟩) (gM (fH (r.aq++r.av) []) r.aw 0) ai;rw[bx]at*
  simp[SE.den]at*
  exact⟨_,af2,⟨_,rfl⟩,hw⟩
 .obtain⟨L,rfl,hL⟩:=db;refine⟨rfl,?_⟩;simp[SE.den];exact l8 L hL
theorem asG(r:Rl)(h:iY r)(hf:fY r)(o:Oc)(order:List Int)(ho:order.length<=50)(hv:rY (r.aq++r.av).length order)
 (hQ:∀K T,Bb K->Bb T->Q (aZ ⟨o,order,K,T⟩)):
 Pk.sat ayu CC Q [k0] [x0,x1,fG o,x3,x4,x5,x6,bP r,iL order]:=by
 have Jt:=λ(k1 k2:List IV->Prop) (x9:IV) (done:List Int) (hd:done.length<=100) (kn:List (List Int))=>asF (Q:=Q) (k0:=k0) (k1:=k1) (k2:=k2) (x0:=x0) (x1:=x1) (x2:=fG o) (x3:=x3) (x4:=x4) (x5:=x5) (x6:=x6) (x8:=iL order) (x9:=x9) r h hf done hd kn;have VM:=λdone (hd:done.length<=100) n a ha=>afZ ab r h hf done hd n a ha;have QE:=h.hs;rw[bx]at*
 have hO:fG o=.agg [iI o.r,iI o.h,iB o.k]:=rfl;rw[hO]at*
 unfold Pk;refine fA (λvs=>∃K T,vs=[bg K,bg T]/\Bb K/\Bb T) ?_ λvs db=>?_
 .simp[SE.den,aF];unfold Y4;refine az order.length (λi (q:List (List Int))=>[iI i,iL (o.h::order.take i),bg q]) (λi q=>q.length<=i/\∀x∈q,x.length<=1000) [] ?_ ax λi q hi hI=>?_
  .simp[SE.den,cellsOf]
  obtain⟨yC,hqr⟩:=hI;by_cases aj:i<order.length
  .have mE:=aD aj ai;obtain⟨hv0,JN⟩:=hv _ (ayy aj);have jv:order[i]=((order[i].toNat:Nat):Int):=ai;have bJ:order[i].toNat<(r.aq++r.av).length:=ai;have sK:=VM (o.h::order.take i) (by simp;omega) order[i].toNat _ (ayv bJ);have lH:=M5 (r.aq++r.av) (o.h::order.take i) (r.aq++r.av)[order[i].toNat].ts;have ha8:=QE _ (ayy bJ);rw[<-jv]at sK;have bI:o.h::order.take (i+1)=(o.h::order.take i)++[order[i]]:=by rw[List.take_succ_eq_append_getElem aj];rfl
   have cd:=mI (a:=o.h::order.take i) (v:=order[i]) (by simp;omega);generalize lM (r.aq++r.av) (o.h::order.take i) (r.aq++r.av)[order[i].toNat].ts=kl at*
   have lE:=Ah (a:=q) (v:=kl) ai;simp only[]at*
   generalize hD:o.h::order.take i=D at*
   simp[SE.den,aj,mE,eF aj];refine⟨_,sK,?_⟩;simp[cellsOf,cd,lE];refine .mk (q++[kl]) ?_ ai ⟨by simp;omega,Bb.snoc hqr ai⟩;rw[bI];rfl
  .simp[SE.den,aj];rw[ayF ai];exact Jt _ _ _ _ (by simp;omega) _ λL hL=>⟨q,L,rfl,⟨by omega,hqr⟩,hL⟩
 .obtain⟨K,T,rfl,hK,hT⟩:=db;refine⟨rfl,?_⟩;simp[SE.den];exact hQ K T hK hT
theorem asH(p:Pg)(hp:jG p)(hf:∀r∈p.bc,fY r)(ks:List Ac)(hk:ks.length<=1000)(kT:∀k∈ks,Sm k.ps)(i:Nat)(r:Rl)(hi:p.bc[i]?=aa r)(o:Oc)(ho:o.r=i)
 (left done:List Int)(hd:done.length<=50)(hl:rY (r.aq++r.av).length left)(QK:left.length<=50)(h0:0<left.length)
 (jD:∀(b:Nat) (hb:b<left.length),k0 [iL (left.take b++left.drop (b+1)),iL (done++[left[b]])]):
 Pd.sat ayu CC Q [k0] [aW p,fL ks,fG o,x3,x4,iL left,iL done]:=by
 have YI:∀(j:Nat) (hj:j<left.length),∃m,CC 83 ab [aW p,fL ks,iI o.r,iL done,iI left[j]] (iI m):=λj hj=>by
  obtain⟨hv0,JN⟩:=hl _ (ayy hj);obtain⟨m,hm⟩:=k83 p hp hf ks hk kT i r hi done ai left[j].toNat ai;rw[show((left[j].toNat:Nat):Int)=left[j] by omega]at hm;exact⟨m,ho▸hm.CM (s8 rfl)⟩
 have hP:aW p=.agg [dO p.eN,jF p.bc]:=rfl;have hO:fG o=.agg [iI o.r,iI o.h,iB o.k]:=rfl;rw[hP]at*
 rw[hO];unfold Pd;refine eM (λ(s:Nat×Nat)=>[iI s.1,iI s.2]) (λs=>s.1<=left.length/\s.2<left.length) (λs=>left.length- s.1) (1,0) ?_ ⟨by simp only;omega,h0⟩ λs hs=>?_
 .simp[SE.den]
 obtain⟨j,b⟩:=s;obtain⟨hj,hb⟩:=hs;simp only at hj hb;by_cases aj:j<left.length
 .have hw:=aD aj ai;obtain⟨m1,om⟩:=YI j aj;obtain⟨m2,Lx⟩:=YI b hb;simp[SE.den,aj,hw,eF aj,eF hb,cellsOf];refine⟨_,om,?_⟩;simp;refine⟨_,Lx,?_⟩;simp;by_cases e:m2<m1
  .left;exact⟨e,.mk (j+1,j) rfl ⟨by simp only;omega,aj⟩ (by simp only;omega)⟩
  .right;exact⟨by omega,.mk (j+1,b) rfl ⟨by simp only;omega,hb⟩ (by simp only;omega)⟩
 .have hw:=aD hb ai;have c1:=mI (a:=done) (v:=left[b]) ai
  have c2:dz 1 8 (.tree 1 []) (iL (left.take b))=aa (iL (left.take b)):=by
   have:=yz (a:=[]) (b:=left.take b) (by simp;omega);rw[azl]at this;exact this
  have c3:dz 1 8 (iL (left.take b)) (iL (left.drop (b+1)))=aa (iL (left.take b++left.drop (b+1))):=yz (by simp;omega);have s1:=Jh (L:=left) (l:=b) ai;have s2:=adX (L:=left) (a:=b+1) ai;have hk:=jD b hb;generalize left.take b++left.drop (b+1)=L3 at*
  generalize left.drop (b+1)=L2 at*
  generalize left.take b=L1 at*
  generalize done++[left[b]]=D1 at*
  simp[SE.den,aj,hw,eF hb,cellsOf,c1,s1,c2];refine⟨_,s2,?_⟩;simp[c3];exact hk
end
def awS(o:Oc)(z:IV):Prop:=∃x:Pn,z=aZ x/\x.o=o/\wE x/\x.aH.length<=6
theorem k30(p:Pg)(hp:jG p)(hf:∀r∈p.bc,fY r)(ks:List Ac)(hk:ks.length<=1000)(kT:∀k∈ks,Sm k.ps)(o:Oc)(hm:o∈occs p.bc):
 ∃x:Pn,(x.o=o/\wE x/\x.aH.length<=6)/\CC 30 af [aW p,fL ks,fG o] (aZ x):=by
 suffices hs:abr.sat ayu CC (awS o) [] [aW p,fL ks,fG o] by
  obtain⟨z,⟨x,rfl,hx⟩,hz⟩:=CC.Qn (args:=[aW p,fL ks,fG o]) asC kr (by rintro _ ⟨x,rfl,_⟩;exact kr) (by
   intro y hy;rcases ayN.1 hy with rfl|hy
   .exact eO p
   rcases ayN.1 hy with rfl|hy
   .simp
   .exact uA (uY o) _ hy) (by rintro _ ⟨x,rfl,_⟩;exact pe x) (by rfl) hs
  exact⟨x,hx,hz⟩
 have QT:=k81 p hp o;rw[decide_eq_true hm]at QT;obtain⟨i,m,r,h⟩:=xg.1 hm;have hi:=h.ru;obtain⟨aj,gS⟩:=ayw.1 hi;have dt:r∈p.bc:=gS▸ayy aj;have lL:=hp.rs r dt;have wv:=lL.h;have hR:=q8 aj;rw[gS]at hR;have hR0:cz 6 (jF p.bc) (iI o.r)=aa (.agg [iS r.name,dr r.aq,dr r.av,iX r.aw,iX r.aI,iI r.vars]):=by rw[h.or];exact hR
 have RR:=ahC ab hp h;have ir:=CO (r.aq++r.av).length m;have DY:rY (r.aq++r.av).length (parts (r.aq++r.av).length m):=λv hv=>(u6.1 hv).1;have TP:=λ(Q:IV->Prop) (k0:List IV->Prop) (x3 x4:IV)=>asH (Q:=Q) (k0:=k0) (x3:=x3) (x4:=x4) p hp hf ks hk kT i r hi o h.or;have Y2:=λ(Q:IV->Prop) (k0:List IV->Prop) (x0 x1 x3 x4 x5 x6:IV)=>asG (Q:=Q) (k0:=k0) (x0:=x0) (x1:=x1) (x3:=x3) (x4:=x4) (x5:=x5) (x6:=x6) r lL (hf r dt) o;rw[<-ayC]at wv;have hP:aW p=.agg [dO p.eN,jF p.bc]:=rfl;have hO:fG o=.agg [iI o.r,iI o.h,iB o.k]:=rfl;rw[hP,hO]at*
 generalize hPT:parts (r.aq++r.av).length (m:Int)=P at*
 generalize hNN:(r.aq++r.av).length=n at*
 simp[abr,SE.den,ao];refine⟨_,QT,?_⟩;simp;refine⟨_,RR,?_⟩;simp[aF];unfold Y5;refine eM (λ(s:List Int×List Int)=>[iL s.1,iL (o.h::s.2)]) (λs=>s.1.length+s.2.length<=3/\rY n s.1/\rY n s.2) (λs=>s.1.length) (P,[]) ?_ ⟨by simp;omega,DY,by intro v hv;cases hv⟩ λs hs=>?_
 .simp[SE.den,cellsOf]
 obtain⟨left,order⟩:=s;obtain⟨pW,hsO,hsD⟩:=hs;simp only at pW hsO hsD;by_cases h0:0<left.length
 .simp[SE.den,h0,ao];refine TP _ _ _ _ left (o.h::order) (by simp;omega) hsO ai h0 λb hb=>?_;refine .mk (left.take b++left.drop (b+1),order++[left[b]]) ax ⟨by simp;omega,λv hv=>?_,λv hv=>?_⟩ (by simp;omega)
  .rcases ayS.1 hv with hv|hv
   .exact hsO v (azI hv)
   .exact hsO v (List.mem_of_mem_drop hv)
  .rcases ayS.1 hv with hv|hv
   .exact hsD v hv
   .obtain rfl:=ayQ.1 hv;exact hsO _ (ayy hb)
 .have s2:=adX (L:=o.h::order) (a:=1) ax;simp at h0;subst h0;have hr:=Y2;simp[SE.den,ao,hR0];refine⟨_,s2,?_⟩;refine Y2 _ _ _ _ _ _ _ _ order (by simp at pW;omega) hsD λK T hK hT=>?_;exact⟨⟨o,order,K,T⟩,rfl,rfl,⟨by show order.length<=_;simp at pW;omega,by show K.length<=_;have:=hK.l;omega,by show T.length<=_;have:=hT.l;omega,λl hl=>by have:=hK.r l hl;unfold Sm;omega,λl hl=>by have:=hT.r l hl;unfold Sm;omega⟩,by simp at pW;simp;omega⟩
abbrev Q1(l:List Pn):IV:=.tree 6 (l.map aZ)
@[simp] theorem awT(l:List Pn):Pure (Q1 l):=kV 6 aZ (λa=>⟨_,rfl,by simp[AZ]⟩) l
theorem awU{l:List Pn}{i:Nat}(h:i<l.length):cz 6 (Q1 l) (iI (i:Nat))=aa (aZ l[i]):=ef (by simp[h]) rfl
theorem asI{a:List Pn}{x:Pn}(h:a.length<=1000):dz 6 96 (Q1 a) (.tree 6 [aZ x])=aa (Q1 (a++[x])):=by
 have h2:iz 6 [aZ x]=ab:=rfl;simp[dz,h2];omega
def V_(x:Pn):Prop:=wE x/\x.aH.length<=6
def aom(p:Pg)(z:IV):Prop:=∃l:List Pn,z=Q1 l/\l.length=(occs p.bc).length/\∀x∈l,V_ x
theorem k10(p:Pg)(hp:jG p)(hf:∀r∈p.bc,fY r):∃l:List Pn,(l.length=(occs p.bc).length/\∀x∈l,V_ x)/\CC 10 af [aW p] (Q1 l):=by
 suffices hs:afr.sat ayu CC (aom p) [] [aW p] by
  obtain⟨z,⟨l,rfl,hl⟩,hz⟩:=CC.Qn (args:=[aW p]) au0 kr (λ_ _=>kr) (uA (eO p)) (by rintro _ ⟨l,rfl,_⟩;simp) (by rfl) hs;exact⟨l,hl,hz⟩
 obtain⟨ks,h1,h2,h29⟩:=k29 p hp;have h18:=k18 p hp;have h30:=λo ho=>k30 p hp hf ks ai (λk hk=>by have:=h2 k hk;unfold Sm;omega) o ho;have pV:=xc p.bc hp.rs;have hr:=hp.r;unfold aom;generalize occs p.bc=os at*
 have hP:aW p=.agg [dO p.eN,jF p.bc]:=rfl;have hO:∀o,fG o=.agg [iI o.r,iI o.h,iB o.k]:=λ_=>rfl;rw[hP]at*
 simp only[hO]at h30;simp[afr,SE.den,ao];refine⟨_,h29,?_⟩;simp;refine⟨_,h18,?_⟩;simp;unfold acH;refine az os.length (λi (l:List Pn)=>[iI i,Q1 l]) (λi l=>l.length=i/\∀x∈l,V_ x) [] ?_ ax λi l hi hI=>?_
 .simp[SE.den]
 obtain⟨QK,GM⟩:=hI;by_cases aj:i<os.length
 .have hw:=aD aj ai;obtain⟨x,hx,hc⟩:=h30 os[i] (ayy aj);have vi:=asI (a:=l) (x:=x) ai;have hN:aZ x=.agg [iI x.o.r,iI x.o.h,iB x.o.k,iL x.aH,bg x.cM,bg x.cj]:=rfl;rw[hN]at hc vi;generalize hz:Q1 (l++[x])=z at vi;simp[SE.den,aj,hw,afF aj,ao];refine⟨_,hc,?_⟩;simp[cellsOf,vi]
  exact .mk (l++[x]) (by rw[hz];rfl) ai ⟨by simp;omega,λy hy=>by
   rcases ayS.1 hy with hy|hy
   .exact GM y hy
   .obtain rfl:=ayQ.1 hy;exact hx.2⟩
 .simp[SE.den,aj];exact⟨l,rfl,by omega,GM⟩
theorem k8(l:List Ac)(hl:Sm l):∃b,(b=ab->l.length<=30/\∀a∈l,a.ps.length<=8)/\CC 8 af [fL l] (iB b):=by
 refine CC.Cv _ cx8 kr (λ_=>kr) ax (by rfl) ?_;simp[cf8,SE.den];by_cases e:30<l.length
 .left;omega
 right;refine⟨by omega,?_⟩;unfold agP;refine az l.length (λi (_:Unit)=>[iI i]) (λi _=>∀a∈l.take i,a.ps.length<=8) () ?_ ax λi _ hi hI=>?_
 .simp[SE.den]
 by_cases aj:i<l.length
 .have hw:=aD aj hl;simp[SE.den,aj,hw,Gi aj,ao];by_cases e2:8<l[i].ps.length
  .left;omega
  .right;exact⟨by omega,.mk () rfl ai (aO aj hI ai)⟩
 .simp[SE.den,aj];exact⟨by omega,aU aj hI⟩
end
set_option maxRecDepth 100000 in
theorem ajR:comes ((VQ ayu (λ_=>[]) 3000).call 0 14 [] ⟨0,.lf⟩) (iB ab)=ab:=by as_aux_lemma=>kernel_rfl
theorem k14:CC 14 af [] (iB ab):=CC.plain (s8 rfl) (dX.run mixed (λ_ _ _ h=>by cases h) ajR) ax kr
def ahU:ak:=
 (jQ (xM bZ bo xx (rE .gtr bZ bo (lV 1) qz)))
theorem asJ:aE ayu (cB []) 400 af 211=ahU:=by kernel_rfl
def ahV:ak:=
 (oH (kj 4 0) tD eB qz (xO .eql 0 0 (lV 1) (tO .eql 0 0 pK (lV 2) (lV 3))))
theorem asK:aE ayu (cB []) 400 af 248=ahV:=by kernel_rfl
def ahW:ak:=
 (jQ (HT .lss 9 bZ bo xx (HT .gtr 9 bZ bo (lV 1) qz)))
theorem asL:aE ayu (cB []) 400 af 249=ahW:=by kernel_rfl
def ahX:ak:=
 (nI 4 4 (Cq 248 0 0 0 0 2 (Cq 248 1 1 1 1 3 (eL 211 cE dh (oF dS .neq dS (.ret dS) (iP 248 (iG 0 0 0 0) (pI dp dp (FP 211 (Ry 0 1 1) bV) (mU dp eB (FP 211 (Ry 0 1 1) bV) (mU dp pK (lq 0 3 kK (eL 211 qB kK (pI bV bV (n_ 249 (zF 0 2 2) (pI fZ fZ (Cj 170 0 3 3 jR) (.ret fZ))) (mU bV aY (Cj 170 0 3 3 fZ) (.ret bV))))) (n_ 211 (zF 0 0 0) (pI bV bV (n_ 211 (Ry 0 1 1) (pI fZ fZ (Cj 249 0 2 2 jR) (.ret fZ))) (mU bV aY (Cj 249 0 2 2 fZ) (.ret bV)))))))))))))
theorem asM:aE ayu (cB []) 400 af 210=ahX:=by kernel_rfl
def Y6:ak:=
 (zH dx kq 2 0 (HS nH (T_ 2 1) (vZ 4 bZ 2 4 3 (vZ 4 bo 2 4 4 (eL 210 (iG 3 3 3 3) (iG 4 4 4 4) (oF dp .neq dp (.ret dp) lX)))) (gh kq nH (eL 211 kq nH (.nr dh)))) (gh kq nH (eL 211 kq nH (.nr dh))))
def ahY:ak:=
 (jQ Y6)
theorem asN:aE ayu (cB [⟨0,170,2,[(0,(5,0))],[],[],[]⟩]) 400 af 170=ahY:=by kernel_rfl
theorem EA:∀l:List UInt8,aAF l l=af
 |[]=>rfl
 |a::l=>by
  have ih:=EA l;simp[aAF,ih]
theorem Wa(a:Int):CC 211 af [iI a,iI a] (iI 0):=by
 refine CC.of asJ kr kr ax ax ?_;simp[ahU,SE.den]
theorem awV(s:List UInt8):CC 249 af [iS s,iS s] (iI 0):=by
 refine CC.of asL kr kr ax ax ?_;simp[ahW,SE.den,EA]
def EB(t:Tm):Int:=if t.k=1 then 0 else if t.k=0 then 1 else if t.k=2 then 2 else 3
theorem awW(t:Tm):CC 248 af [dm t] (iI (EB t)):=by
 refine CC.of asK kr kr (by simp[kU]) ax ?_;rw[bp];unfold EB;simp[ahV,SE.den,ao];by_cases h1:t.k=1
 .simp[h1]
 by_cases h2:t.k=0
 .simp[h2]
 by_cases h3:t.k=2
 .simp[h3]
 simp[h1,h2,h3]
theorem ahZ(ts:List Tm)(jZ:Sm ts)(ih:∀u∈ts,CC 210 af [dm u,dm u] (iI 0)):CC 170 af [iT ts,iT ts] (iI 0):=by
 refine CC.of asN kr kr ax ax ?_;have awX:=Wa ts.length;simp[ahY,SE.den];unfold Y6;refine az ts.length (λi (_:Unit)=>[iI i]) (λ_ _=>True) () ?_ trivial λi _ hi _=>?_
 .simp[SE.den]
 by_cases aj:i<ts.length
 .have hw:=aD aj jZ;have hb:=ih ts[i] (ayy aj);rw[bp]at hb;simp[SE.den,aj,hw,ku aj,bp,ao];refine⟨_,hb,?_⟩;simp;exact .mk () rfl ai trivial
 .simp[SE.den,aj];exact⟨_,awX,by simp⟩
theorem asO(t:Tm)(agc:CC 170 af [iT t.ts,iT t.ts] (iI 0)):CC 210 af [dm t,dm t] (iI 0):=by
 refine CC.of asM kr kr (by simp[kU]) ax ?_;have hc:=awW t;have h0:=Wa (EB t);have h1:=Wa t.n;have h2:=Wa t.k;have h3:=Wa t.ts.length;have h4:=awV t.s;rw[bp]at*
 simp[ahX,SE.den,ao];refine⟨_,hc,?_⟩;simp;refine⟨_,hc,?_⟩;simp;refine⟨_,h0,?_⟩;simp;refine⟨_,hc,?_⟩;simp;by_cases e0:EB t=0
 .left;exact⟨e0,_,h1,by simp⟩
 right;refine⟨e0,?_⟩;by_cases e1:EB t=1
 .left;exact⟨e1,_,h1,by simp⟩
 right;refine⟨e1,?_⟩;by_cases e2:EB t=2
 .left;refine⟨e2,_,h3,?_⟩;simp;refine⟨_,h4,?_⟩;simp;exact⟨_,agc,by simp⟩
 right;refine⟨e2,_,h2,?_⟩;simp;refine⟨_,h1,?_⟩;simp;exact⟨_,h4,by simp⟩
theorem aon:∀t:Tm,mZ t->CC 210 af [dm t,dm t] (iI 0)
 |.mk k n s ts,h=>asO _ (ahZ ts ((rW _).1 h).1 λu hu=>aon u (((rW _).1 h).2 u hu))
 decreasing_by have:=List.sizeOf_lt_of_mem hu;simp;omega
theorem aoo(ts:List Tm)(jZ:Sm ts)(h:∀t∈ts,mZ t):CC 112 af [iT ts,iT ts] (iB ab):=by
 refine CC.of aql kr kr ax ax ?_;have agc:=ahZ ts jZ λu hu=>aon u (h u hu);simp[agR,SE.den];exact⟨_,agc,by simp⟩
theorem awY(g:Gl)(jZ:Sm g.ts)(h:∀t∈g.ts,mZ t):CC 111 af [.agg [iI g.op,iS g.s,iT g.ts],.agg [iI g.op,iS g.s,iT g.ts]] (iB ab):=by
 refine CC.of aqk kr kr (by simp;exact .agg _ ax) ax ?_;have agd:=aoo g.ts jZ h;simp[agQ,SE.den,ao];exact⟨_,agd,by simp⟩
def Y7(i:In):Prop:=(Sm i.g.ts/\∀t∈i.g.ts,mZ t)/\Sm i.ts/\∀t∈i.ts,mZ t
theorem k46(i:In)(h:Y7 i):CC 46 af [qp i,qp i] (iB ab):=by
 refine CC.of auY kr kr (by simp[adQ]) ax ?_;have awZ:=awY i.g h.1.1 h.1.2;have agd:=aoo i.ts h.2.1 h.2.2;unfold qp;simp[alj,SE.den,ao];refine⟨_,awZ,?_⟩;simp;exact⟨_,agd,by simp⟩
theorem aw0{l:List In}{i:Nat}(h:i<l.length):cz 7 (bL l) (iI (i:Nat))=aa (qp l[i]):=ef (by simp[h]) rfl
theorem adY(o:Oc)(c:List In):Pure (xh o c):=.agg _ ax
theorem k13(o:Oc)(c:List In)(hc:c.length<=100000)(h:∀i∈c,Y7 i):CC 13 af [xh o c,xh o c] (iB ab):=by
 refine CC.of auX kr kr (by simp[adY]) ax ?_;unfold xh;simp[ali,SE.den,ao];unfold acE;refine az c.length (λi (_:Unit)=>[iI i]) (λ_ _=>True) () ?_ trivial λi _ hi _=>?_
 .simp[SE.den]
 by_cases aj:i<c.length
 .have hw:=aD aj ai;have hb:=k46 c[i] (h _ (ayy aj));have hI:∀x:In,qp x=.agg [iI x.op,iI x.a,iI x.b,iI x.g.op,iS x.g.s,iT x.g.ts,iT x.ts]:=λ_=>rfl;rw[hI]at hb;simp[SE.den,aj,hw,aw0 aj,hI,ao];refine⟨_,hb,?_⟩;simp;exact .mk () rfl ai trivial
 .simp[SE.den,aj]
def j9(c:List In):Prop:=∀i∈c,Y7 i
theorem j9.app{a b:List In}(ha:j9 a)(hb:j9 b):j9 (a++b):=λi hi=>by
 rcases ayS.1 hi with h|h
 .exact ha i h
 .exact hb i h
theorem j9.nil:j9 []:=λi hi=>by cases hi
theorem EC(op a b:Int):Y7 ⟨op,a,b,jw,[]⟩:=⟨⟨by simp[jw],by intro t ht;cases ht⟩,by simp,by intro t ht;cases ht⟩
theorem j9.one{i:In}(h:Y7 i):j9 [i]:=λj hj=>by obtain rfl:=ayQ.1 hj;exact h
theorem j9.ite{b:Bool}{c:List In}(h:j9 c):j9 (if b then c else[]):=by
 cases b
 .exact j9.nil
 .exact h
theorem Y8{O:Type}{f:O->In}{l:List O}(h:∀a∈l,Y7 (f a)):j9 (l.map f):=λi hi=>by
 obtain⟨a,ha,rfl⟩:=azb.1 hi;exact h a ha
def Y9(g:Gl):Prop:=Sm g.ts/\∀t∈g.ts,mZ t
theorem Wb:Y9 jw:=⟨by simp[jw],by intro t ht;cases ht⟩
theorem Lo(gs:List Gl)(h:∀g∈gs,Y9 g)(l:List Int):j9 (bA gs l):=Y8 λv _=>⟨by
 cases he:gs[v.toNat]? with
 |none=>exact Wb
 |some g=>exact h g (ayM he),by simp,by intro t ht;cases ht⟩
theorem Ir(h:Int)(kn:List Int):∀(ts:List Tm) (i:Nat),(∀t∈ts,mZ t)->j9 (bM h kn ts i)
 |[],_,_=>j9.nil
 |t::ts,i,hw=>by
  rw[bM];refine j9.app ?_ (Ir h kn ts (i+1) λu hu=>hw u (azA _ hu));split
  .exact j9.nil
  .exact j9.one ⟨Wb,by simp,λu hu=>by obtain rfl:=ayQ.1 hu;exact hw _ ax⟩
theorem adZ(hs:List At)(h:Int)(a:At)(es:List Int):j9 (er hs h a es):=λi hi=>by
 obtain⟨e,_,hi⟩:=azJ.1 hi;unfold ta at hi;split at hi
 .split at hi
  .obtain rfl:=ayQ.1 hi;exact EC _ _ _
  .cases hi
 .cases hi
theorem age{ts:List Tm}{ps:List Int}{t:Tm}(h:t∈mH ts ps):t∈ts:=by
 obtain⟨v,_,h⟩:=azJ.1 h;unfold A7 at h;split at h
 .split at h
  .rename_i u hu;obtain rfl:=ayQ.1 h;exact ayM hu
  .cases h
 .cases h
theorem abt(hs:List At)(gs:List Gl)(hg:∀g∈gs,Y9 g)(acc:List Ac)(x:Pn)(k:Nat)(n:Int)(a:At)(ha:∀t∈a.ts,mZ t)(ps te:List Int)(lG:Sm ps):j9 (jx hs gs acc x k n a ps te):=λi hi=>by
 unfold jx at hi;rcases ayN.1 hi with rfl|hi
 .exact⟨Wb,ayU (Gp a.ts ps) lG,λt ht=>ha t (age ht)⟩
 .exact((adZ _ _ _ _).app (Ir _ _ _ _ ha)).app (Lo gs hg te) i hi
theorem Wc(hs:List At)(hh:∀a∈hs,∀t∈a.ts,mZ t)(gs:List Gl)(hg:∀g∈gs,Y9 g)(acc:List Ac)(x:Pn)(hx:wE x)(base:List In)(hb:j9 base):∀k,j9 (gx hs gs acc x base k)
 |0=>hb
 |k+1=>by
  refine j9.app (Wc hs hh gs hg acc x hx base hb k) (abt hs gs hg acc x k _ _ ?_ _ _ ?_)
  .intro t ht;unfold YY at ht;cases he:(x.aH[k]?).bind λv=>hs[v.toNat]? with
   |none=>rw[he]at ht;cases ht
   |some a=>
    rw[he]at ht;obtain⟨v,_,hv⟩:=ayV.1 he;exact hh a (ayM hv) t ht
  .rw[azo];cases he:x.cM[k]? with
   |none=>simp
   |some l=>exact hx.ks l (ayM he)
theorem agf(r:Rl)(h:iY r)(hf:fY r)(acc:List Ac)(x:Pn)(hx:wE x):j9 (M3 r acc x):=by
 have hh:∀a∈r.aq++r.av,∀t∈a.ts,mZ t:=λa ha t ht=>(hf.hs a ha t ht).1;have QJ:∀g∈r.aw++r.aI,Y9 g:=λg hg=>⟨by have:=h.gs g hg;unfold Sm;omega,λt ht=>((hf.gs g hg).2 t ht).1⟩;have Hq:∀g∈r.aw,Y9 g:=λg hg=>QJ g (ay9 _ hg)
 have vn:j9 (tT r x):=by
  unfold tT;refine((Ir _ _ _ _ λt ht=>?_).app (Lo _ Hq _)).app (Lo _ Hq _);obtain⟨a,ha,ht⟩:=ajb ht;exact hh a ha t ht
 have hs:=Wc _ hh _ Hq acc x hx _ vn x.aH.length
 have pU:j9 (Ba x r (gx (r.aq++r.av) r.aw acc x (tT r x) x.aH.length)):=by
  unfold Ba;split
  .exact hs.app (j9.one (EC _ _ _))
  .exact hs
 unfold M3 nO;refine((((pU.app (Y8 λ_ _=>EC _ _ _)).app (j9.ite (j9.one (EC _ _ _)))).app (j9.ite (j9.one (EC _ _ _)))).app λi hi=>?_).app (j9.one (EC _ _ _));obtain⟨g,hg,rfl⟩:=azb.1 (List.mem_reverse.1 hi);exact⟨QJ g (List.mem_append_right _ hg),by simp[Gt],by intro t ht;cases ht⟩
theorem abu(p:Pg)(hp:jG p)(hf:∀r∈p.bc,fY r)(acc:List Ac)(x:Pn)(hx:wE x):∃(o:Oc) (c:List In) (n:Int),j8 p acc x=.aL [xh o c,iI n]/\c.length<=200/\j9 c:=by
 have hz:∀n:Int,∃(o:Oc) (c:List In) (m:Int),IV.aL [nN,iI n]=.aL [xh o c,iI m]/\c.length<=200/\j9 c:=λn=>⟨⟨0,0,af⟩,[],n,rfl,by simp,j9.nil⟩;unfold j8;split
 .split
  .rename_i r hr;have dt:=ayM hr;unfold nP;split
   .exact hz 13
   .unfold wk;split
    .exact hz 6
    .exact⟨_,_,0,rfl,by omega,agf r (hp.rs r dt) (hf r dt) acc x hx⟩
  .exact hz 2
 .exact hz 2
abbrev uI(n:Nat):IV:=.raw (.int .u64 (n:Nat))
theorem ah0(a b:Nat)(hb:b≠0):cO ayu .rem 33 (uI a) (uI b)=aa (uI (a % b)):=by
 show(aP ayu (aCD .rem .u64 (a:Int) (b:Int))).map lift=_;unfold aCD;rw[if_neg ai];show aa (IV.raw (.int .u64 ((a:Int).tmod b)))=_;rw[Int.tmod_eq_emod_of_nonneg ai];rfl
theorem asP(a b:Nat)(hb:b≠0)(ha:a<18446744073709551616):cO ayu .quo 33 (uI a) (uI b)=aa (uI (a/b)):=by
 show(aP ayu (aCD .quo .u64 (a:Int) (b:Int))).map lift=_;unfold aCD;rw[if_neg ai];show aa (IV.raw (.int .u64 (aBn.wrap ((a:Int).tdiv b))))=_;rw[Int.tdiv_eq_ediv_of_nonneg ai];have h1:(a:Int)/b=((a/b:Nat):Int):=rfl;have h2:a/b<=a:=Nat.div_le_self _ _;rw[h1]
 have:aBn.wrap ((a/b:Nat):Int)=((a/b:Nat):Int):=by
  simp only[IntKind.wrap,IntKind.bits,IntKind.signed];generalize a/b=q at*
  simp;omega
 rw[this]
theorem aop(a:Nat):cO ayu .gtr 33 (uI a) (.raw (.int .u64 0))=aa (iB (decide (0<a))):=by
 show aa (iB (decide ((a:Int)>0)))=_
 congr 3
 simp
theorem both(p:Pg)(hp:jG p)(hz:∀r∈p.bc,zd r)(acc:List Ac)(hc:Eu acc)(x:Pn)(hx:V_ x):
 ∃(o:Oc) (c:List In) (n:Int),CC 11 af [aW p,fL acc,aZ x] (.aL [xh o c,iI n])/\CC 12 af [aW p,fL acc,aZ x] (.aL [xh o c,iI n])/\CC 13 af [xh o c,xh o c] (iB ab):=by
 by_cases bu:wH p
 .have Hj:=JV p hp hz bu acc hc x hx.1 hx.2;have JF:=JW p hp hz bu acc hc x hx.1;obtain⟨o,c,n,he,hl,hf⟩:=abu p hp (λr hr=>(bu.r r hr).form (hp.rn r hr)) acc x hx.1;rw[he]at Hj JF;exact⟨o,c,n,Hj,JF,k13 o c ai hf⟩
 .exact⟨⟨0,0,af⟩,[],2,awJ p hp bu acc x,awE p hp hz bu acc x,k13 _ _ ax j9.nil⟩
def M6(x:Pn)(k:Nat):IV:=.agg [iI x.o.r,iI x.o.h,iB x.o.k,iL x.aH,bg x.cM,bg x.cj,uI k]
theorem abv(x:Pn)(k:Nat):Pure (M6 x k):=.agg _ (by simp[AZ])
theorem k3(p:Pg)(hp:NmP p)(hz:∀r∈p.bc,zd r)(acc:List Ac)(ha:Sm acc)(x:Pn)(hx:wE x)(k:Nat)(hk:k<18446744073709551616):CC 3 af [aW p,fL acc,M6 x k] (iB ab):=by
 refine CC.of cx3 kr kr (by
  intro y hy;rcases ayN.1 hy with rfl|hy
  .exact eO p
  rcases ayN.1 hy with rfl|hy
  .simp
  .exact uA (abv x k) _ hy) ax ?_
 obtain⟨b7,f7,h7⟩:=e30 p hp;have hP:aW p=.agg [dO p.eN,jF p.bc]:=rfl;unfold M6;cases b7 with
 |false=>
  rw[hP]at*
  simp[cf3,SE.den,ao];refine⟨_,h7,?_⟩;simp
 |true=>
 have CY:=f7 rfl;obtain⟨b8,f8,h8⟩:=k8 acc ha;cases b8 with
 |false=>
  rw[hP]at*
  simp[cf3,SE.den,ao];refine⟨_,h7,?_⟩;simp;refine⟨_,h8,?_⟩;simp
 |true=>
 have hc:=f8 rfl;have uR:Eu acc:=⟨hc.1,hc.2⟩;obtain⟨a9,n9,f9,h9⟩:=v34 p CY hz;have hB:=λy hy=>both p CY hz acc uR y hy;have Hi:=λh0:n9=0=>k10 p CY (λr hr=>((f9.1 h0).r r hr).form (CY.rn r hr));have Xg:=k14;have hN:∀x,aZ x=.agg [iI x.o.r,iI x.o.h,iB x.o.k,iL x.aH,bg x.cM,bg x.cj]:=λ_=>rfl;have hE:∀o c,xh o c=.agg [iI o.r,iI o.h,iB o.k,bL c]:=λ_ _=>rfl;rw[hP]at*
 simp only[hN,hE]at hB;simp[cf3,SE.den,ao];refine⟨_,h7,?_⟩;simp;refine⟨_,h8,?_⟩;simp;by_cases z1:6<x.aH.length
 .left;omega
 right;refine⟨by omega,?_⟩;by_cases z2:6<x.cM.length
 .left;omega
 right;refine⟨by omega,?_⟩;by_cases z3:9<x.cj.length
 .left;omega
 right;refine⟨by omega,_,h9,?_⟩;have hx6:V_ x:=⟨hx,by omega⟩;have r3:cO ayu .rem 33 (.raw (.int .u64 (k:Nat))) (.raw (.int .u64 3))=aa (uI (k % 3)):=ah0 k 3 ai;have q3:cO ayu .quo 33 (.raw (.int .u64 (k:Nat))) (.raw (.int .u64 3))=aa (uI (k/3)):=asP k 3 ai hk;have g3:=aop (k % 3);generalize hm3:k % 3=m3 at*
 generalize hd3:k/3=d3 at*
 obtain⟨o,c,n,Hj,JF,Xf⟩:=hB x hx6;simp[r3,g3];by_cases e1:0<m3
 rotate_left
 .right;refine⟨by omega,_,Hj,?_⟩;simp;refine⟨_,JF,?_⟩;simp;refine⟨_,Xf,?_⟩;simp;exact⟨_,Xg,by simp⟩
 left;refine⟨e1,?_⟩;by_cases e2:n9=0
 rotate_left
 .right;refine⟨e2,_,Hj,?_⟩;simp;refine⟨_,JF,?_⟩;simp;refine⟨_,Xf,?_⟩;simp;exact⟨_,Xg,by simp⟩
 left;obtain⟨l,⟨oL,fC⟩,Hi⟩:=Hi e2;refine⟨e2,_,Hi,?_⟩;have pV:=xc p.bc CY.rs;have hr8:=CY.r;simp;by_cases e3:0<l.length
 rotate_left
 .right;refine⟨List.length_eq_zero_iff.1 ai,_,Hj,?_⟩;simp;refine⟨_,JF,?_⟩;simp;refine⟨_,Xf,?_⟩;simp;exact⟨_,Xg,by simp⟩
 left;have c1:=anH (n:=l.length) ai;have r4:cO ayu .rem 33 (.raw (.int .u64 (d3:Nat))) (.raw (.int .u64 (l.length:Nat)))=aa (uI (d3 % l.length)):=ah0 d3 l.length ai;have aj:d3 % l.length<l.length:=aDa _ e3;generalize hmm:d3 % l.length=mm at*
 have c2:Fb ayu 33 3 (.raw (.int .u64 (mm:Nat)))=aa (iI (mm:Nat)):=by
  rw[cvy,dD ai ai]
 have wq:=awU aj;obtain⟨o',c',n',g11,g12,g13⟩:=hB l[mm] (fC _ (ayy aj));rw[hN]at wq;simp[q3,c1,r4,c2];refine⟨e3,_,wq,?_⟩;simp;refine⟨_,g11,?_⟩;simp;refine⟨_,g12,?_⟩;simp;refine⟨_,g13,?_⟩;simp;exact⟨_,Xg,by simp⟩
end Go.Proofs.YtabefplkfkfdfaaGreat
namespace Go.Ev
open Go
variable{H:Type}{enc:TypeId×Value->H}{P:Program}{w:World}{sp:Nat->Bool}{held:Bool}
theorem mg{a:Addr}{n:Nat}{us:List Value}(h:w.cells? 0 a n=aa us):us.length=n/\∀j,j<n->w.cell? (a.add j)=us[j]? :=by
 unfold World.cells? at h;rw[if_pos (azi _)]at h;exact⟨by simpa using mapM_some_length h,λj hj=>mapM_some_get h j j (by simp[hj])⟩
theorem M7{b off:Nat}{v:Value}(h:w.cell? ⟨b,off,ah⟩=aa v):qq (allM w) b off=aa v:=by
 unfold World.cell? at h;simp only at h;split at h
 .rename_i c e f hb;rw[if_neg ax]at h;unfold qq allM;rw[hb];exact h
 .cases h
theorem Gx(b off n:Nat):(⟨b,off,ah⟩:Addr).add n=⟨b,off+n,ah⟩:=by
 unfold aDD;split
 .rename_i h;subst h;rfl
 .rfl
theorem zR{O:Type}(f:O->IV){s:Nat}(hs:0<s)(bQ:∀a,(cellsOf (f a)).length=s)(Ok:O->Prop){t e:TypeId}(ht:P.underlying t=aa (.slice e))(hP:P.cellsOf e=s){fuel:Nat}{u:Value}{x:DataW H×List MemPlace}
 (ot:∀n us x,n<fuel->azw enc P w 0 sp held n e us=aa x->us.length=s->∃a,Ok a/\aG (fW (allM w)) (cellsOf (f a)) us)
 (h:azw enc P w 0 sp held fuel t [u]=aa x):∃l:List O,l.length<=9223372036854775807/\(∀a∈l,Ok a)/\Rv (fW (allM w)) (.tree s (l.map f)) u:=by
 rcases aDb ht h with⟨h1,_⟩|⟨a,len,cap,elems,rest,n,hfu,h1,_,_,sL,hcm,hlen,aK,_,_⟩
 .obtain rfl:=(aAp h1).1;exact⟨[],by simp,by simp,.eu s ah 0 hs (λ_=>rfl)⟩
 .obtain rfl:=(aAp h1).1;by_cases iW:len=0
  .subst iW;exact⟨[],by simp,by simp,.eu s (aa a) cap hs ax⟩
  .have key:∀i:Fin len,∃p:List Value×O,w.cells? 0 (a.add (i.1*s)) s=aa p.1/\Ok p.2/\aG (fW (allM w)) (cellsOf (f p.2)) p.1:=λi=>by
    have hi:=aK i.1 i.2;rw[hP]at hi;have GQ:elems[i.1]?=aa elems[i.1]:=ayv ai;rw[GQ]at hi;obtain⟨us,As,Au⟩:=ayV.1 hi;obtain⟨b,da,eR⟩:=ot n us _ ai Au (mg As).1;exact⟨(us,b),As,da,eR⟩
   obtain⟨g,hg⟩:=aCd key
   have M8:a.spot=ah:=by
    obtain⟨Gz,_,_⟩:=hg ⟨0,by omega⟩;obtain⟨oL,fC⟩:=mg Gz;have h0:=fC 0 hs;rw[ayv ai]at h0;have:=aDc h0;simpa[aDD]using this
   obtain⟨b,off,spot⟩:=a;simp only at M8;subst M8
   have gN:∀i (hi:i<len) j,j<s->w.cell? ⟨b,off+(i*s+j),ah⟩=(g ⟨i,hi⟩).1[j]? :=λi hi j hj=>by
    have:=(mg (hg ⟨i,hi⟩).1).2 j hj;rw[Gx,Gx]at this;rw[<-aBY];exact this
   refine⟨aBj λi=>(g i).2,by simp;have:maxLen=9223372036854775807:=rfl;omega,?_,?_⟩
   .intro c hc;obtain⟨i,rfl⟩:=(aDM (f:=λi=>(g i).2)).1 hc;exact(hg i).2.1
   .have ot:((aBj λi=>(g i).2).map f).length=len:=by simp
    have hR:=Rv.tree (Z:=fW (allM w)) s ((aBj λi=>(g i).2).map f) b off cap (λk=>(w.cell? ⟨b,off+k,ah⟩).getD Go.undef) hs (by rw[ot];exact sL) ?_ ?_ ?_
    .rw[ot]at hR;exact hR
    .intro e' jb;obtain⟨c,_,rfl⟩:=azb.1 jb;exact bQ c
    .intro k hk;rw[ot]at hk;have hi:k/s<len:=aCN (by rw[aBZ];exact hk);have hj:k % s<s:=aDa _ hs;have hc:=gN (k/s) hi (k % s) hj;have dq:k/s*s+k % s=k:=by rw[aBZ];exact aDE k s
     rw[dq]at hc;have oL:=(mg (hg ⟨k/s,hi⟩).1).1;rw[ayv ai]at hc;rw[M7 hc,hc];rfl
    .intro i e' j c jb hc;rw[ayR,aCU]at jb;split at jb
     .rename_i hi;simp only[ay_,ayB]at jb;subst jb;have hj:j<s:=by have:=(ayw.1 hc).1;rw[bQ]at this;exact this
      have jh:=gN i hi j hj;have oL:=(mg (hg ⟨i,hi⟩).1).1;rw[ayv ai]at jh;simp only[jh,azh];exact(hg ⟨i,hi⟩).2.2.2 j c _ hc (ayv _)
     .simp at jb
theorem wm{t:TypeId}{fs:Array Field}{cs:List Value}{fuel:Nat}{x:DataW H×List MemPlace}(ht:P.underlying t=aa (.struct fs))(h:azw enc P w 0 sp held fuel t cs=aa x):
 ∃n,fuel=n+1/\∀(i:Nat) (ty:TypeId) (off k:Nat),(fs[i]?).map (λf:Field=>(f.type,f.offset))=aa (ty,off)->P.cellsOf ty=k->∃y,azw enc P w 0 sp held n ty ((cs.drop off).take k)=aa y:=by
 obtain⟨xs,n,h1,_,_,h4,h5⟩:=aCV ht h;refine⟨n,h1,λi ty off k hi hk=>?_⟩;obtain⟨f,hf,LA⟩:=ayG.1 hi;simp only[ay7]at LA;obtain⟨rfl,rfl⟩:=LA
 have wz:i<xs.length:=by
  rw[h4];exact(azj.1 hf).1
 have:=h5 i f hf;rw[ayv wz,hk]at this;exact⟨_,this⟩
end Go.Ev
namespace Go.Proofs.YtabefplkfkfdfaaGreat
open Go Go.Ev
variable{H:Type}{enc:TypeId×Value->H}{w:World}{sp:Nat->Bool}{held:Bool}
noncomputable def fieldsOf(t:TypeId):Array Field:=match ayu.underlying t with
 |some (.struct fs)=>fs
 |_=> #[]
theorem aw1:ayu.underlying 9=aa .string:=by kernel_rfl
theorem asQ:ayu.underlying 106=aa (.struct (fieldsOf 106)):=by kernel_rfl
theorem asR:ayu.underlying 99=aa (.struct (fieldsOf 99)):=by kernel_rfl
theorem ah1:ayu.underlying 68=aa (.slice 106):=by kernel_rfl
theorem asS:ayu.underlying 29=aa (.slice 3):=by kernel_rfl
theorem M9:ayu.cellsOf 3=1:=by kernel_rfl
theorem cl4:ayu.cellsOf 4=1:=by kernel_rfl
theorem Y_:ayu.cellsOf 9=1:=by kernel_rfl
theorem agh:ayu.cellsOf 29=1:=by kernel_rfl
theorem agi:ayu.cellsOf 68=1:=by kernel_rfl
theorem aw2:ayu.cellsOf 99=2:=by kernel_rfl
theorem aoq:ayu.cellsOf 106=4:=by kernel_rfl
def bC(t i ty off:Nat):Prop:=((fieldsOf t)[i]?).map (λf:Field=>(f.type,f.offset))=aa (ty,off)
theorem asT:bC 106 0 3 0:=by unfold bC;kernel_rfl
theorem asU:bC 106 1 3 1:=by unfold bC;kernel_rfl
theorem asV:bC 106 2 9 2:=by unfold bC;kernel_rfl
theorem asW:bC 106 3 68 3:=by unfold bC;kernel_rfl
theorem asX:bC 99 0 9 0:=by unfold bC;kernel_rfl
theorem asY:bC 99 1 68 1:=by unfold bC;kernel_rfl
abbrev Rd(w:World)(c:IV)(u:Value):Prop:=Rv (fW (allM w)) c u
theorem wM{c:IV}{u:Value}(h:Rd w c u):aG (fW (allM w)) [c] [u]:=aG.cons h aG.nil
theorem wo{n:Nat}{u:Value}{x:DataW H×List MemPlace}(h:azw enc ayu w 0 sp held n 3 [u]=aa x):∃a:Int,Rd w (iI a) u:=by
 obtain⟨a,h1,_⟩:=aDr al4 h;obtain rfl:=(aAp h1).1;exact⟨a,.raw _⟩
theorem ajS{n:Nat}{u:Value}{x:DataW H×List MemPlace}(h:azw enc ayu w 0 sp held n 4 [u]=aa x):∃a:Bool,Rd w (iB a) u:=by
 obtain⟨a,h1,_⟩:=DataW.trod_bool Ug h;obtain rfl:=(aAp h1).1;exact⟨a,.raw _⟩
theorem Pl{n:Nat}{u:Value}{x:DataW H×List MemPlace}(h:azw enc ayu w 0 sp held n 29 [u]=aa x):∃l:List Int,Sm l/\Rd w (iL l) u:=by
 obtain⟨l,h1,_,h3⟩:=zR (w:=w) iI (s:=1) ai (λ_=>rfl) (λ_=>True) asS M9 (λn us x _ hx hl=>by
  obtain⟨u,rfl⟩:=aBp.1 hl;obtain⟨a,ha⟩:=wo hx;exact⟨a,trivial,wM ha⟩) h
 exact⟨l,h1,h3⟩
theorem asZ{O:Type}{l:List O}(h:l.length=4):∃a b c d,l=[a,b,c,d]:=by
 match l,h with
 |[a,b,c,d],_=>exact⟨a,b,c,d,rfl⟩
theorem as0{O:Type}{l:List O}(h:l.length=6):∃a b c d e f,l=[a,b,c,d,e,f]:=by
 match l,h with
 |[a,b,c,d,e,f],_=>exact⟨a,b,c,d,e,f,rfl⟩
theorem ad0(t:Tm):(cellsOf (dm t)).length=4:=by rw[bp];rfl
theorem ah2:ayu.underlying 25=aa (.struct (fieldsOf 25)):=by kernel_rfl
theorem as4:ayu.underlying 82=aa (.struct (fieldsOf 82)):=by kernel_rfl
theorem as5:ayu.underlying 67=aa (.struct (fieldsOf 67)):=by kernel_rfl
theorem as6:ayu.underlying 70=aa (.struct (fieldsOf 70)):=by kernel_rfl
theorem as7:ayu.underlying 22=aa (.slice 82):=by kernel_rfl
theorem as8:ayu.underlying 23=aa (.slice 67):=by kernel_rfl
theorem as9:ayu.underlying 64=aa (.slice 99):=by kernel_rfl
theorem as_:ayu.underlying 65=aa (.slice 70):=by kernel_rfl
theorem aw3:ayu.cellsOf 22=1:=by kernel_rfl
theorem aw4:ayu.cellsOf 23=1:=by kernel_rfl
theorem aor:ayu.cellsOf 64=1:=by kernel_rfl
theorem aos:ayu.cellsOf 65=1:=by kernel_rfl
theorem aw5:ayu.cellsOf 82=2:=by kernel_rfl
theorem aw6:ayu.cellsOf 67=6:=by kernel_rfl
theorem aw7:ayu.cellsOf 70=3:=by kernel_rfl
theorem aw8:ayu.cellsOf 25=2:=by kernel_rfl
theorem ata:bC 25 0 22 0:=by unfold bC;kernel_rfl
theorem atb:bC 25 1 23 1:=by unfold bC;kernel_rfl
theorem atc:bC 82 0 9 0:=by unfold bC;kernel_rfl
theorem atd:bC 82 1 3 1:=by unfold bC;kernel_rfl
theorem ate:bC 67 0 9 0:=by unfold bC;kernel_rfl
theorem atf:bC 67 1 64 1:=by unfold bC;kernel_rfl
theorem atg:bC 67 2 64 2:=by unfold bC;kernel_rfl
theorem ath:bC 67 3 65 3:=by unfold bC;kernel_rfl
theorem ati:bC 67 4 65 4:=by unfold bC;kernel_rfl
theorem atj:bC 67 5 3 5:=by unfold bC;kernel_rfl
theorem atk:bC 70 0 3 0:=by unfold bC;kernel_rfl
theorem atl:bC 70 1 9 1:=by unfold bC;kernel_rfl
theorem atm:bC 70 2 68 2:=by unfold bC;kernel_rfl
theorem abw{O:Type}{l:List O}(h:l.length=2):∃a b,l=[a,b]:=by
 match l,h with
 |[a,b],_=>exact⟨a,b,rfl⟩
theorem ah3{O:Type}{l:List O}(h:l.length=3):∃a b c,l=[a,b,c]:=by
 match l,h with
 |[a,b,c],_=>exact⟨a,b,c,rfl⟩
theorem ED{n:Nat}{u:Value}{x:DataW H×List MemPlace}(h:azw enc ayu w 0 sp held n 9 [u]=aa x):∃a:List UInt8,Sm a/\Rd w (iS a) u:=by
 obtain⟨a,h1,h2⟩:=DataW.trod_string aw1 h;obtain rfl:=(aAp h1).1;refine⟨a.data.toList,?_,?_⟩
 .have:=h2.2;simp only[maxLen]at this;show a.data.toList.length<=_;rw[aA2];have he:a.size=a.data.size:=rfl;omega
 .unfold iS;rw[bytes_eta];exact .raw _
def RdR(r:Rl):Prop:=qG r/\Sm r.aq/\Sm r.av/\Sm r.aw/\Sm r.aI
theorem aw9(fuel:Nat)(us:List Value)(x:DataW H×List MemPlace)(h:azw enc ayu w 0 sp held fuel 82 us=aa x)(hl:us.length=2):∃f:De,Sm f.s/\aG (fW (allM w)) (cellsOf (UP f)) us:=by
 obtain⟨a,b,rfl⟩:=abw hl;obtain⟨n,hn,hf⟩:=wm as4 h;obtain⟨_,h0⟩:=hf 0 9 0 1 atc Y_;obtain⟨_,h1⟩:=hf 1 3 1 1 atd M9;obtain⟨s,w0,r0⟩:=ED h0;obtain⟨k,r1⟩:=wo h1;exact⟨⟨s,k⟩,w0,aG.cons r0 (aG.cons r1 aG.nil)⟩
abbrev bk(d:DataW H):Nat:=Rows.uptoBulk d
theorem M_:∀{l:List (DataW H)} {d:DataW H},d∈l->bk d<=azX l
 |e::l,d,h=>by
  rcases ayN.1 h with h|h
  .subst h;simp only[azX];show bk d<=bk d+_;omega
  .have:=M_ h;simp only[azX];omega
theorem ad1:∀(l:List (DataW H)) (ns:List Nat),ns.length=l.length->(∀(i:Nat) (h:i<ns.length) (h':i<l.length),ns[i]<=bk l[i])->ns.sum<=azX l
 |[],[],_,_=>by simp
 |d::l,n::ns,h,hb=>by
  have h0:=hb 0 ax ax;have ih:=ad1 l ns (by simpa using h) λi h1 h2=>by have:=hb (i+1) (by simpa using h1) (by simpa using h2);simpa using this
  simp only[List.sum_cons,azX];simp only[List.getElem_cons_zero]at h0;show n+ns.sum<=bk d+_;omega
theorem Pm:∀{l:List Nat} {n:Nat},n∈l->n<=l.sum
 |m::l,n,h=>by
  rcases ayN.1 h with h|h
  .subst h;simp
  .have:=Pm h;simp;omega
theorem Lp:∀l:List Tm,dI l=(l.map kW).sum
 |[]=>rfl
 |t::l=>by simp[dI,Lp l]
theorem tb{P:Program}{O:Type}(f:O->IV){s:Nat}(hs:0<s)(bQ:∀a,(cellsOf (f a)).length=s)(Ok:O->Prop)(I:O->Nat){t e:TypeId}(ht:P.underlying t=aa (.slice e))(hP:P.cellsOf e=s){fuel:Nat}{u:Value}{x:DataW H×List MemPlace}
 (ot:∀n us x',n<fuel->azw enc P w 0 sp held n e us=aa x'->us.length=s->bk x'.1<=bk x.1->∃a,Ok a/\I a<=bk x'.1/\aG (fW (allM w)) (cellsOf (f a)) us)
 (h:azw enc P w 0 sp held fuel t [u]=aa x):∃l:List O,l.length<=9223372036854775807/\(∀a∈l,Ok a)/\(l.map I).sum<bk x.1/\Rv (fW (allM w)) (.tree s (l.map f)) u:=by
 rcases aDb ht h with⟨h1,h2⟩|⟨a,len,cap,elems,rest,n,hfu,h1,hx,_,sL,hcm,hlen,aK,_,_⟩
 .obtain rfl:=(aAp h1).1;refine⟨[],by simp,by simp,?_,.eu s ah 0 hs (λ_=>rfl)⟩;rw[h2];show 0<1;omega
 .obtain rfl:=(aAp h1).1;have hbx:bk x.1=azX (elems.map (·.1))+azX (rest.map (·.1))+1:=by rw[hx];rfl
  by_cases iW:len=0
  .subst iW;exact⟨[],by simp,by simp,by rw[hbx];simp,.eu s (aa a) cap hs ax⟩
  .have key:∀i:Fin len,∃p:List Value×O,w.cells? 0 (a.add (i.1*s)) s=aa p.1/\Ok p.2/\I p.2<=bk (elems[i.1]'(by have:=i.2;omega)).1/\aG (fW (allM w)) (cellsOf (f p.2)) p.1:=λi=>by
    have hi:=aK i.1 i.2;rw[hP]at hi;have GQ:elems[i.1]?=aa (elems[i.1]'(by have:=i.2;omega)):=ayv (by have:=i.2;omega)
    rw[GQ]at hi;obtain⟨us,As,Au⟩:=ayV.1 hi
    have hle:bk (elems[i.1]'(by have:=i.2;omega)).1<=bk x.1:=by
     have:=M_ (l:=elems.map (·.1)) (d:=(elems[i.1]'(by have:=i.2;omega)).1) (azb.2 ⟨_,ayy (by have:=i.2;omega),rfl⟩)
     rw[hbx];omega
    obtain⟨b,da,eg,eR⟩:=ot n us _ ai Au (mg As).1 hle;exact⟨(us,b),As,da,eg,eR⟩
   obtain⟨g,hg⟩:=aCd key
   have M8:a.spot=ah:=by
    obtain⟨Gz,_,_⟩:=hg ⟨0,by omega⟩;obtain⟨oL,fC⟩:=mg Gz;have h0:=fC 0 hs;rw[ayv ai]at h0;have:=aDc h0;simpa[aDD]using this
   obtain⟨b,off,spot⟩:=a;simp only at M8;subst M8
   have gN:∀i (hi:i<len) j,j<s->w.cell? ⟨b,off+(i*s+j),ah⟩=(g ⟨i,hi⟩).1[j]? :=λi hi j hj=>by
    have:=(mg (hg ⟨i,hi⟩).1).2 j hj;rw[Gx,Gx]at this;rw[<-aBY];exact this
   refine⟨aBj λi=>(g i).2,by simp;have:maxLen=9223372036854775807:=rfl;omega,?_,?_,?_⟩
   .intro c hc;obtain⟨i,rfl⟩:=(aDM (f:=λi=>(g i).2)).1 hc;exact(hg i).2.1
   .rw[hbx]
    have:=ad1 (elems.map (·.1)) ((aBj λi=>(g i).2).map I) (by simp[hlen]) λi h1 h2=>by
     have hi:i<len:=by simpa using h1
     have:=(hg ⟨i,hi⟩).2.2.1;simpa using this
    omega
   .have ot:((aBj λi=>(g i).2).map f).length=len:=by simp
    have hR:=Rv.tree (Z:=fW (allM w)) s ((aBj λi=>(g i).2).map f) b off cap (λk=>(w.cell? ⟨b,off+k,ah⟩).getD Go.undef) hs (by rw[ot];exact sL) ?_ ?_ ?_
    .rw[ot]at hR;exact hR
    .intro e' jb;obtain⟨c,_,rfl⟩:=azb.1 jb;exact bQ c
    .intro k hk;rw[ot]at hk;have hi:k/s<len:=aCN (by rw[aBZ];exact hk);have hj:k % s<s:=aDa _ hs;have hc:=gN (k/s) hi (k % s) hj;have dq:k/s*s+k % s=k:=by rw[aBZ];exact aDE k s
     rw[dq]at hc;have oL:=(mg (hg ⟨k/s,hi⟩).1).1;rw[ayv ai]at hc;rw[M7 hc,hc];rfl
    .intro i e' j c jb hc;rw[ayR,aCU]at jb;split at jb
     .rename_i hi;simp only[ay_,ayB]at jb;subst jb;have hj:j<s:=by have:=(ayw.1 hc).1;rw[bQ]at this;exact this
      have jh:=gN i hi j hj;have oL:=(mg (hg ⟨i,hi⟩).1).1;rw[ayv ai]at jh;simp only[jh,azh];exact(hg ⟨i,hi⟩).2.2.2.2 j c _ hc (ayv _)
     .simp at jb
theorem tc{P:Program}{t:TypeId}{fs:Array Field}{cs:List Value}{fuel:Nat}{x:DataW H×List MemPlace}(ht:P.underlying t=aa (.struct fs))(h:azw enc P w 0 sp held fuel t cs=aa x):
 ∃n,fuel=n+1/\∀(i:Nat) (ty:TypeId) (off k:Nat),(fs[i]?).map (λf:Field=>(f.type,f.offset))=aa (ty,off)->P.cellsOf ty=k->∃y,bk y.1<bk x.1/\azw enc P w 0 sp held n ty ((cs.drop off).take k)=aa y:=by
 obtain⟨xs,n,h1,hx,_,h4,h5⟩:=aCV ht h;refine⟨n,h1,λi ty off k hi hk=>?_⟩;obtain⟨f,hf,LA⟩:=ayG.1 hi;simp only[ay7]at LA;obtain⟨rfl,rfl⟩:=LA
 have wz:i<xs.length:=by
  rw[h4];exact(azj.1 hf).1
 have:=h5 i f hf;rw[ayv wz,hk]at this;refine⟨_,?_,this⟩;have hb:bk x.1=azX (xs.map (·.1))+1:=by rw[hx];rfl
 have:=M_ (l:=xs.map (·.1)) (d:=xs[i].1) (azb.2 ⟨_,ayy wz,rfl⟩);rw[hb];omega
theorem aw_:∀(fuel:Nat) (us:List Value) (x:DataW H×List MemPlace),azw enc ayu w 0 sp held fuel 106 us=aa x->us.length=4->∃t:Tm,ou t/\kW t<=bk x.1/\aG (fW (allM w)) (cellsOf (dm t)) us:=by
 intro fuel;induction fuel using Nat.strongRecOn with
 |ind fuel ih=>
  intro us x h hl;obtain⟨a,b,c,d,rfl⟩:=asZ hl;obtain⟨n,hn,hf⟩:=tc asQ h;obtain⟨_,_,h0⟩:=hf 0 3 0 1 asT M9;obtain⟨_,_,h1⟩:=hf 1 3 1 1 asU M9;obtain⟨_,_,h2⟩:=hf 2 9 2 1 asV Y_;obtain⟨y,hy,h3⟩:=hf 3 68 3 1 asW agi;obtain⟨k,r0⟩:=wo h0;obtain⟨m,r1⟩:=wo h1;obtain⟨s,w2,r2⟩:=ED h2;obtain⟨ts,hs,hw,hb,r3⟩:=tb (w:=w) dm (s:=4) ai ad0 ou kW ah1 aoq (λn' r_ x' oO ky cH _=>ih n' ai r_ x' ky cH) h3;refine⟨.mk k m s ts,?_,?_,?_⟩
  .rw[o5];exact⟨w2,hs,hw⟩
  .rw[<-Lp]at hb;simp only[kW];split<;>omega
  .rw[w8];exact aG.cons r0 (aG.cons r1 (aG.cons r2 (aG.cons r3 aG.nil)))
theorem ah4{n:Nat}{u:Value}{x:DataW H×List MemPlace}(h:azw enc ayu w 0 sp held n 68 [u]=aa x):∃l:List Tm,Sm l/\(∀f∈l,ou f)/\dI l<=bk x.1/\Rd w (iT l) u:=by
 obtain⟨l,h1,h2,h3,h4⟩:=tb (w:=w) dm (s:=4) ai ad0 ou kW ah1 aoq (λn' r_ x' _ ky cH _=>aw_ n' r_ x' ky cH) h;exact⟨l,h1,h2,by rw[Lp];omega,h4⟩
abbrev ZA(a:At):Nat:=dI a.ts
abbrev ZG(a:Gl):Nat:=dI a.ts
theorem axa(fuel:Nat)(us:List Value)(x:DataW H×List MemPlace)(h:azw enc ayu w 0 sp held fuel 99 us=aa x)(hl:us.length=2):∃f:At,s9 f/\ZA f<=bk x.1/\aG (fW (allM w)) (cellsOf (jL f)) us:=by
 obtain⟨a,b,rfl⟩:=abw hl;obtain⟨n,hn,hf⟩:=tc asR h;obtain⟨_,_,h0⟩:=hf 0 9 0 1 asX Y_;obtain⟨_,hy,h1⟩:=hf 1 68 1 1 asY agi;obtain⟨s,w0,r0⟩:=ED h0;obtain⟨ts,w1,v1,z1,r1⟩:=ah4 h1;exact⟨⟨s,ts⟩,⟨w0,w1,v1⟩,by show dI ts<=_;omega,aG.cons r0 (aG.cons r1 aG.nil)⟩
theorem ah5{n:Nat}{u:Value}{x:DataW H×List MemPlace}(h:azw enc ayu w 0 sp held n 64 [u]=aa x):∃l:List At,Sm l/\(∀f∈l,s9 f/\ZA f<=bk x.1)/\Rd w (dr l) u:=by
 obtain⟨l,h1,h2,h3,h4⟩:=tb (w:=w) jL (s:=2) ai (λ_=>rfl) s9 ZA as9 aw2 (λn' r_ x' _ ky cH _=>axa n' r_ x' ky cH) h;exact⟨l,h1,λf hf=>⟨h2 f hf,by have:=Pm (azb.2 ⟨f,hf,rfl⟩:ZA f∈l.map ZA);omega⟩,h4⟩
theorem axb(fuel:Nat)(us:List Value)(x:DataW H×List MemPlace)(h:azw enc ayu w 0 sp held fuel 70 us=aa x)(hl:us.length=3):∃f:Gl,s_ f/\ZG f<=bk x.1/\aG (fW (allM w)) (cellsOf (uj f)) us:=by
 obtain⟨a,b,c,rfl⟩:=ah3 hl;obtain⟨n,hn,hf⟩:=tc as6 h;obtain⟨_,_,h0⟩:=hf 0 3 0 1 atk M9;obtain⟨_,_,h1⟩:=hf 1 9 1 1 atl Y_;obtain⟨_,hy,h2⟩:=hf 2 68 2 1 atm agi;obtain⟨op,r0⟩:=wo h0;obtain⟨s,w1,r1⟩:=ED h1;obtain⟨ts,w2,v2,z2,r2⟩:=ah4 h2;exact⟨⟨op,s,ts⟩,⟨w1,w2,v2⟩,by show dI ts<=_;omega,aG.cons r0 (aG.cons r1 (aG.cons r2 aG.nil))⟩
theorem ah6{n:Nat}{u:Value}{x:DataW H×List MemPlace}(h:azw enc ayu w 0 sp held n 65 [u]=aa x):∃l:List Gl,Sm l/\(∀f∈l,s_ f/\ZG f<=bk x.1)/\Rd w (iX l) u:=by
 obtain⟨l,h1,h2,h3,h4⟩:=tb (w:=w) uj (s:=3) ai (λ_=>rfl) s_ ZG as_ aw7 (λn' r_ x' _ ky cH _=>axb n' r_ x' ky cH) h;exact⟨l,h1,λf hf=>⟨h2 f hf,by have:=Pm (azb.2 ⟨f,hf,rfl⟩:ZG f∈l.map ZG);omega⟩,h4⟩
def Za(B:Nat)(r:Rl):Prop:=(∀a∈r.aq++r.av,dI a.ts<=B)/\∀a∈r.aw++r.aI,dI a.ts<=B
theorem axc(fuel:Nat)(us:List Value)(x:DataW H×List MemPlace)(h:azw enc ayu w 0 sp held fuel 67 us=aa x)(hl:us.length=6):∃f:Rl,(RdR f/\Za (bk x.1) f)/\aG (fW (allM w)) (cellsOf (bP f)) us:=by
 obtain⟨a,b,c,d,e,f,rfl⟩:=as0 hl;obtain⟨n,hn,hf⟩:=tc as5 h;obtain⟨_,_,h0⟩:=hf 0 9 0 1 ate Y_;obtain⟨_,y1,h1⟩:=hf 1 64 1 1 atf aor;obtain⟨_,y2,h2⟩:=hf 2 64 2 1 atg aor;obtain⟨_,y3,h3⟩:=hf 3 65 3 1 ath aos;obtain⟨_,y4,h4⟩:=hf 4 65 4 1 ati aos;obtain⟨_,_,h5⟩:=hf 5 3 5 1 atj M9;obtain⟨s,w0,r0⟩:=ED h0;obtain⟨tV,w1,v1,r1⟩:=ah5 h1;obtain⟨rem,w2,v2,r2⟩:=ah5 h2;obtain⟨guard,w3,v3,r3⟩:=ah6 h3;obtain⟨body,w4,v4,r4⟩:=ah6 h4;obtain⟨vars,r5⟩:=wo h5;refine⟨⟨s,tV,rem,guard,body,vars⟩,⟨⟨⟨w0,λa ha=>?_,λa ha=>?_⟩,w1,w2,w3,w4⟩,λa ha=>?_,λa ha=>?_⟩,aG.cons r0 (aG.cons r1 (aG.cons r2 (aG.cons r3 (aG.cons r4 (aG.cons r5 aG.nil)))))⟩
 .rcases ayS.1 ha with ha|ha
  .exact(v1 a ha).1
  .exact(v2 a ha).1
 .rcases ayS.1 ha with ha|ha
  .exact(v3 a ha).1
  .exact(v4 a ha).1
 .rcases ayS.1 ha with ha|ha
  .have:dI a.ts<=_:=(v1 a ha).2;omega
  .have:dI a.ts<=_:=(v2 a ha).2;omega
 .rcases ayS.1 ha with ha|ha
  .have:dI a.ts<=_:=(v3 a ha).2;omega
  .have:dI a.ts<=_:=(v4 a ha).2;omega
theorem Za.mono{B B':Nat}{r:Rl}(h:Za B r)(hb:B<=B'):Za B' r:=⟨λa ha=>ayU (h.1 a ha) hb,λa ha=>ayU (h.2 a ha) hb⟩
theorem atn{fuel:Nat}{us:List Value}{x:DataW H×List MemPlace}(h:azw enc ayu w 0 sp held fuel 25 us=aa x)(hl:us.length=2):∃p:Pg,NmP p/\(∀r∈p.bc,Za (bk x.1) r)/\Rd w (aW p) (.agg us.toArray):=by
 obtain⟨a,b,rfl⟩:=abw hl;obtain⟨n,hn,hf⟩:=tc ah2 h;obtain⟨_,_,h0⟩:=hf 0 22 0 1 ata aw3;obtain⟨y,hy,h1⟩:=hf 1 23 1 1 atb aw4;obtain⟨ds,w0,v0,r0⟩:=zR (w:=w) UP (s:=2) ai (λ_=>rfl) (λd=>Sm d.s) as7 aw5 (λn' r_ x' _ ky cH=>aw9 n' r_ x' ky cH) h0
 obtain⟨rs,w1,v1,_,r1⟩:=tb (w:=w) bP (s:=6) ai (λ_=>rfl) (λr=>RdR r/\Za (bk y.1) r) (λ_=>0) as8 aw6 (λn' r_ x' _ ky cH hb=>by
  obtain⟨r,hr,hv⟩:=axc n' r_ x' ky cH;exact⟨r,⟨hr.1,hr.2.mono hb⟩,azi _,hv⟩) h1
 refine⟨⟨ds,rs⟩,⟨w0,w1,v0,λr hr=>(v1 r hr).1⟩,λr hr=>(v1 r hr).2.mono ai,?_⟩;have hR:aG (fW (allM w)) [dO ds,jF rs] [a,b]:=aG.cons r0 (aG.cons r1 aG.nil);exact Rv.agg _ _ hR.1 hR.2
theorem ah7:ayu.underlying 26=aa (.slice 80):=by kernel_rfl
theorem ato:ayu.underlying 80=aa (.struct (fieldsOf 80)):=by kernel_rfl
theorem atp:ayu.underlying 28=aa (.struct (fieldsOf 28)):=by kernel_rfl
theorem atq:ayu.underlying 32=aa (.struct (fieldsOf 32)):=by kernel_rfl
theorem ah8:ayu.underlying 35=aa (.struct (fieldsOf 35)):=by kernel_rfl
theorem atr:ayu.underlying 30=aa (.slice 29):=by kernel_rfl
theorem att:ayu.underlying 33=aa (.int .u64):=by kernel_rfl
theorem aot:ayu.cellsOf 30=1:=by kernel_rfl
theorem axd:ayu.cellsOf 33=1:=by kernel_rfl
theorem axe:ayu.cellsOf 80=3:=by kernel_rfl
theorem axf:ayu.cellsOf 28=3:=by kernel_rfl
theorem axg:ayu.cellsOf 32=6:=by kernel_rfl
theorem axh:ayu.cellsOf 35=7:=by kernel_rfl
theorem atu:bC 80 0 9 0:=by unfold bC;kernel_rfl
theorem atv:bC 80 1 3 1:=by unfold bC;kernel_rfl
theorem atw:bC 80 2 29 2:=by unfold bC;kernel_rfl
theorem atx:bC 28 0 3 0:=by unfold bC;kernel_rfl
theorem aty:bC 28 1 3 1:=by unfold bC;kernel_rfl
theorem atz:bC 28 2 4 2:=by unfold bC;kernel_rfl
theorem atA:bC 32 0 28 0:=by unfold bC;kernel_rfl
theorem atB:bC 32 1 29 3:=by unfold bC;kernel_rfl
theorem atC:bC 32 2 30 4:=by unfold bC;kernel_rfl
theorem atD:bC 32 3 30 5:=by unfold bC;kernel_rfl
theorem atE:bC 35 0 32 0:=by unfold bC;kernel_rfl
theorem atF:bC 35 1 33 6:=by unfold bC;kernel_rfl
def SmA(a:Ac):Prop:=Sm a.ps
theorem atG(fuel:Nat)(us:List Value)(x:DataW H×List MemPlace)(h:azw enc ayu w 0 sp held fuel 80 us=aa x)(hl:us.length=3):∃f:Ac,SmA f/\aG (fW (allM w)) (cellsOf (oi f)) us:=by
 obtain⟨a,b,c,rfl⟩:=ah3 hl;obtain⟨n,hn,hf⟩:=wm ato h;obtain⟨_,h0⟩:=hf 0 9 0 1 atu Y_;obtain⟨_,h1⟩:=hf 1 3 1 1 atv M9;obtain⟨_,h2⟩:=hf 2 29 2 1 atw agh;obtain⟨s,_,r0⟩:=ED h0;obtain⟨k,r1⟩:=wo h1;obtain⟨l,w2,r2⟩:=Pl h2;exact⟨⟨s,k,l⟩,w2,aG.cons r0 (aG.cons r1 (aG.cons r2 aG.nil))⟩
theorem aou{n:Nat}{u:Value}{x:DataW H×List MemPlace}(h:azw enc ayu w 0 sp held n 26 [u]=aa x):∃l:List Ac,Sm l/\(∀f∈l,SmA f)/\Rd w (fL l) u:=
 zR (w:=w) oi (s:=3) ai (λ_=>rfl) SmA ah7 axe (λn' r_ x' _ ky cH=>atG n' r_ x' ky cH) h
theorem Wd{n:Nat}{u:Value}{x:DataW H×List MemPlace}(h:azw enc ayu w 0 sp held n 30 [u]=aa x):∃l:List (List Int),Sm l/\(∀f∈l,Sm f)/\Rd w (bg l) u:=
 zR (w:=w) iL (s:=1) ai (λ_=>rfl) (λl=>Sm l) atr agh (λn us x _ hx hl=>by
  obtain⟨u,rfl⟩:=aBp.1 hl;obtain⟨l,hl,ha⟩:=Pl hx;exact⟨l,hl,wM ha⟩) h
theorem ajT{n:Nat}{u:Value}{x:DataW H×List MemPlace}(h:azw enc ayu w 0 sp held n 33 [u]=aa x):∃a:Nat,a<18446744073709551616/\Rd w (.raw (.int .u64 (a:Nat))) u:=by
 obtain⟨a,h1,_,h3⟩:=aDr att h;obtain rfl:=(aAp h1).1
 have hr:0<=a/\a<18446744073709551616:=by
  have e1:aBn.min=0:=rfl;have e2:aBn.max=18446744073709551615:=rfl;simp[Lit.wf]at h3;omega
 refine⟨a.toNat,by omega,?_⟩;rw[show((a.toNat:Nat):Int)=a by omega];exact .raw _
theorem atH{O:Type}{l:List O}(h:l.length=7):∃a b c d e f g,l=[a,b,c,d,e,f,g]:=by
 match l,h with
 |[a,b,c,d,e,f,g],_=>exact⟨a,b,c,d,e,f,g,rfl⟩
theorem atI{fuel:Nat}{us:List Value}{x:DataW H×List MemPlace}(h:azw enc ayu w 0 sp held fuel 35 us=aa x)(hl:us.length=7):∃(p:Pn) (k:Nat),wE p/\k<18446744073709551616/\Rd w (M6 p k) (.agg us.toArray):=by
 obtain⟨a,b,c,d,e,f,g,rfl⟩:=atH hl;obtain⟨n,hn,hf⟩:=wm ah8 h;obtain⟨_,h0⟩:=hf 0 32 0 6 atE axg;obtain⟨_,h1⟩:=hf 1 33 6 1 atF axd;obtain⟨n2,yb,hg⟩:=wm atq h0;obtain⟨_,g0⟩:=hg 0 28 0 3 atA axf;obtain⟨_,g1⟩:=hg 1 29 3 1 atB agh;obtain⟨_,g2⟩:=hg 2 30 4 1 atC aot;obtain⟨_,g3⟩:=hg 3 30 5 1 atD aot;obtain⟨n3,wv,ho⟩:=wm atp g0;obtain⟨_,o0⟩:=ho 0 3 0 1 atx M9;obtain⟨_,o1⟩:=ho 1 3 1 1 aty M9;obtain⟨_,o2⟩:=ho 2 4 2 1 atz cl4;obtain⟨r,r0⟩:=wo o0;obtain⟨hd,r1⟩:=wo o1;obtain⟨kp,r2⟩:=ajS o2;obtain⟨od,w3,r3⟩:=Pl g1;obtain⟨kn,w4,v4,r4⟩:=Wd g2;obtain⟨te,w5,v5,r5⟩:=Wd g3;obtain⟨k,hk,r6⟩:=ajT h1;refine⟨⟨⟨r,hd,kp⟩,od,kn,te⟩,k,⟨w3,w4,w5,v4,v5⟩,hk,?_⟩;have hR:aG (fW (allM w)) [iI r,iI hd,iB kp,iL od,bg kn,bg te,.raw (.int .u64 (k:Nat))] [a,b,c,d,e,f,g]:=aG.cons r0 (aG.cons r1 (aG.cons r2 (aG.cons r3 (aG.cons r4 (aG.cons r5 (aG.cons r6 aG.nil))))));exact Rv.agg _ _ hR.1 hR.2
end Go.Proofs.YtabefplkfkfdfaaGreat
namespace Go.Proofs.YtabefplkfkfdfaaGreat
open Go Go.ChangeShapes Go.WideShapes Go.ChangeAt Go.RowKit
theorem own:ownKnob ayu.godebug=ah:=by as_aux_lemma=>kernel_rfl
theorem laidOut:laidOutB ayu=ab:=by as_aux_lemma=>kernel_rfl
theorem ajU{f:FuncId}{xs:List Ev.IV}{us:List Value}{W:World}(hf:f<ayu.funcs.size)(h:CC f af xs (Ev.iB ab))(hr:Ev.aG (Ev.fW (Ev.allM W)) xs us):
 Calls ayu f us.toArray W λe W'=>e=.returned (.bool ab)/\Below W.heap.size W W':=by
 refine callsIn_wide.1 (((h.1 hf).1 (Ev.allM W) W us Ev.Nt hr).mono λe W' hR=>?_);cases e with
 |returned u=>
  obtain⟨_,M',_,_,_,h4,h5,h6,h7,h8,h9⟩:=hR
  have hu:u=.bool ab:=by
   generalize hx:Ev.IV.raw (.bool ab)=x at h4;cases h4<;>first|(cases hx;rfl)|cases hx
  rw[hu];exact⟨rfl,h5,h6,h7,h8,h9⟩
 |panicked ch=>exact absurd hR.1 (by simp)
 |outgrown=>exact hR.elim
theorem abx{H:Type}{enc:TypeId×Value->H}{P:Program}{f:Func}{s:ChangeSpec}{apart fresh handsOn:Bool}{W W':World}{args:Array Value}{v:Value}{ds gs:List (DataW H)}{before pa pv:List MemPlace}
 (hW:DataW.Whole enc P f.params.toList s.vars apart W args.toList ds gs before)
 (gr:∀(b:Nat) (sp:Nat->Bool) (hd:Bool),aCk enc P W' b sp hd f.resultTypes.toList (v.resultList f.resultTypes.size) (s.fn H (ds++gs)).results [])
 (bE:∀sp:Nat->Bool,(∀p∈before,sp p.block=ab)->aCk enc P W' 0 sp ab f.params.toList args.toList (s.fn H (ds++gs)).args pa)
 (atJ:∀sp:Nat->Bool,(∀p∈before,sp p.block=ab)->DataW.TrodVars enc P W' sp s.vars (s.fn H (ds++gs)).vars pv)
 (lG:before=pa++pv)(hk:W.keptBut W' (·∈before)):s.post enc P f apart fresh handsOn af W args v W':=by
 have hold:∀p∈before,(λb=>decide (b<W.heap.size)) p.block=ab:=λp hp=>by simpa using hW.lt p hp
 refine⟨ds,gs,before,[],pa,pv,hW,gr _ _ _,bE _ hold,atJ _ hold,World.keptBut_mono (λp hp=>⟨hp,?_⟩) hk,λh=>by cases h⟩;rw[lG,ayS]at hp;exact Or.inr hp
theorem aby:ayu.readableRec 25=ab:=by as_aux_lemma=>kernel_rfl
theorem ajV:25<ayu.types.size:=of_decide_eq_true (by as_aux_lemma=>kernel_rfl)
theorem abz:ayu.readableRec 26=ab:=by as_aux_lemma=>kernel_rfl
theorem ajW:26<ayu.types.size:=of_decide_eq_true (by as_aux_lemma=>kernel_rfl)
theorem abA:ayu.readableRec 35=ab:=by as_aux_lemma=>kernel_rfl
theorem ajX:35<ayu.types.size:=of_decide_eq_true (by as_aux_lemma=>kernel_rfl)
theorem aov:3<ayu.funcs.size:=of_decide_eq_true (by as_aux_lemma=>kernel_rfl)
set_option maxHeartbeats 8000000 in
set_option maxRecDepth 100000 in
theorem ajY(os:Os)(started:os.Started)(H:Type)(enc:TypeId×Value->H)(F:Stop.Interp):
 ReturnsInHanded {} aCw os 3 .any ((aAi aAb).pre6 enc ayu aBz [] af) (((aAi aAb).at F).post enc ayu aBz af ab af af):=by
 refine returnsInHanded_of_cond (C:=aCw) (s:=aAi aAb) (k:=aDF) rfl own started (by as_aux_lemma=>kernel_rfl) aD6
  (OpenSpec.witness (s:=aAi aAb) (k:=aDF) rfl (enc:=enc) (C:=aCw) af ⟨#[], #[.agg #[.slice ah 0 0,.slice ah 0 0],.slice ah 0 0,.agg #[.int .i64 0,.int .i64 0,.bool af,.slice ah 0 0,.slice ah 0 0,.slice ah 0 0,.int .u64 0]],[]⟩ 8 (by as_aux_lemma=>kernel_rfl) (by as_aux_lemma=>kernel_rfl) (by as_aux_lemma=>kernel_rfl)
   (x:=([.agg [.nil,.nil],.nil,.agg [.agg [.agg [.lit (.int .i64 0),.lit (.int .i64 0),.lit (.bool af)],.nil,.nil,.nil],.lit (.int .u64 0)]],[],[])) (by as_aux_lemma=>kernel_rfl) (by as_aux_lemma=>kernel_rfl) (by as_aux_lemma=>kernel_rfl) (by as_aux_lemma=>kernel_rfl)) ?_
 intro W base args ds gs before ah9 hW _ jD _;have We:∀(j:Nat) t v,aBz.params[j]?=aa t->args[j]?=aa v->Value.okWide ayu W .any base t v:=ah9;have hW':=hW;obtain⟨p,q,hA0,hV,rfl,hfz,uK⟩:=hW;have hA:aCk enc ayu W 0 (λ_=>ab) ab aBz.params.toList args.toList ds p:=hA0;rw[Tryz.params3]at hA We;obtain⟨v0,v1,v2,d0,d1,d2,p0,p1,p2,rfl,rfl,rfl,h0,h1,h2⟩:=trodAll_three hA;obtain⟨rfl,rfl⟩:=trodVars_none hV
 have aow:azX [d0,d1,d2]<=1048576:=by
  have l8:decide (azX ([d0,d1,d2]++[])<=1048576)=ab:=jD;simpa using l8
 have hb0:bk d0<=1048576:=ayU (M_ (by simp)) aow;obtain⟨cs,rfl,bf⟩:=okWide_struct ah2 (We 0 25 v0 rfl rfl);obtain⟨a1,axi,axj,rfl⟩:=okWide_slice ah7 (We 1 26 v1 rfl rfl);obtain⟨LX,rfl,aj7⟩:=okWide_struct ah8 (We 2 35 v2 rfl rfl);have h0k:=h0;have h1k:=h1;have h2k:=h2;obtain⟨fu,h0⟩:=h0;obtain⟨fu1,h1⟩:=h1;obtain⟨fu2,h2⟩:=h2;have jf:cs.toList.length=2:=by rw[aA2,bf,aw8]
 have axk:LX.toList.length=7:=by rw[aA2,aj7,axh]
 obtain⟨pg,hpg,QU,r0⟩:=atn h0 jf;obtain⟨acc,ha,_,r1⟩:=aou h1;obtain⟨x,k,hx,hk,r2⟩:=atI h2 axk
 have rr:Ev.aG (Ev.fW (Ev.allM W)) [aW pg,fL acc,M6 x k] [.agg cs,.slice a1 axi axj,.agg LX]:=by
  have e0:(aD7 cs.toList.toArray)=.agg cs:=by simp
  have e2:(aD7 LX.toList.toArray)=.agg LX:=by simp
  rw[<-e0,<-e2];exact Ev.aG.cons r0 (Ev.aG.cons r1 (Ev.aG.cons r2 Ev.aG.nil))
 have CY:∀r∈pg.bc,zd r:=λr hr=>⟨λa ha=>by have:=(QU r hr).1 a ha;simp only at this;omega,λa ha=>by have:=(QU r hr).2 a ha;simp only at this;omega⟩;clear hA0 ah9 We hA;simp only[ayO]at hW';refine(ajU aov (k3 pg hpg CY acc ha x hx k hk) rr).mono λe W' ⟨he,hb⟩=>?_;subst he;have aj:∀x∈p0++(p1++p2),x.block<W.heap.size:=λx hx=>hW'.lt x (by simpa using hx);have uw:∀x∈p0,x.block<W.heap.size:=λx hx=>aj x (by simp[hx]);have oN:∀x∈p1,x.block<W.heap.size:=λx hx=>aj x (by simp[hx]);have bJ:∀x∈p2,x.block<W.heap.size:=λx hx=>aj x (by simp[hx])
 exact⟨_,rfl,abx (s:=(aAi aAb).at F) (pa:=p0++(p1++p2)) (pv:=[]) hW' (λ_ _ _=>trodAll_mk1 (shut_bool Ug _))
  (λsp CY=>trodAll_mk3 (aBm laidOut aby ajV h0k (λx hx=>hb.same (uw x hx)) (λx hx=>CY x (by simp[hx]))) (aBm laidOut abz ajW h1k (λx hx=>hb.same (oN x hx)) (λx hx=>CY x (by simp[hx]))) (aBm laidOut abA ajX h2k (λx hx=>hb.same (bJ x hx)) (λx hx=>CY x (by simp[hx]))))
  (λ_ _=>rfl) (by simp) (hb.frame _)⟩
theorem aox:aB9.checked.prog.funcNamed az5.func=aa 3:=by kernel_rfl
set_option maxHeartbeats 8000000 in
theorem ajZ:joinedFacts aB9.checked.prog 3 aBz (aAi aAb).bare az5=ab:=by
 simp only[joinedFacts,ayz]
 repeat' apply And.intro
 all_goals (as_aux_lemma=>kernel_rfl)
theorem atK:aBz.isInstance aB9.checked.prog az5.origin az5.targs:=of_decide_eq_true (by kernel_rfl)
theorem atL:aBz.isWrapper aB9.checked.prog az5.wrapper az5.mainSum:=by
 unfold Func.isWrapper;rw[if_neg (by decide+kernel)];exact⟨rfl,rfl⟩
set_option maxHeartbeats 8000000 in
theorem compileBlocks_holds:Rows.CompileBlocksUptoSaid:=
 aEh 3 aBz rfl rfl rfl rfl rfl rfl rfl ⟨rfl,rfl,rfl,rfl,rfl⟩ rfl rfl rfl rfl rfl aox aD6 ajZ atK atL
  (λos started H enc _ F=>ajY os started H enc F)
end Go.Proofs.YtabefplkfkfdfaaGreat
