/- A part of the proof, no condition. -/
import Derived.Test.YtabefplkfkfdfaaGreatPAf
import Derived.Shelf.Strings.Search3
import Derived.Test.YtabefplkfkfdfaaGreatPAb
import Derived.Test.YtabefplkfkfdfaaGreatProg
import Derived.Laws.RangeAny
import Derived.RangeFuncNested
import Derived.RangeFuncBound
import Derived.RangeFuncCalls
import Derived.RangeFuncLeaves
import Derived.RangeFuncBox
import Derived.Shelf.Abstract
import Derived.Shelf.RegionOpen
import Derived.WalkKit
import Derived.OwnWalkIn
import Derived.TacticsInMore
import Derived.LoopNIn
import Derived.LoopIn
import Derived.Maps.OwnIn
import Derived.Maps.AppendAt
import Derived.Maps.Views
import Derived.Maps.OwnSet
import Derived.Sort.Grow
import Derived.Test.YtabefplkfkfdfaaGreatPAe
open List renaming getElem?_append_left->awp,getElem?_eq_some_iff->awa,drop_eq_getElem_cons->awH,drop_of_length_le->awY,getElem_mem->awd,sizeOf_lt_of_mem->axf,take_succ_eq_append_getElem->awh,mem_append->awm,take_of_length_le->awr,all_eq_false->aAI,mem_cons->aws,take_append_drop->axn,mem_singleton->awo,eq_nil_of_length_eq_zero->awG,mem_of_mem_erase->aAf,length_erase->aAK,nodup_append->ayD,all_eq_true->awt,mem_map->awB,nil_append->axp,map_nil->ayf,mem_append_left->aw3,mem_append_right->axg,forIn_cons->azW,forIn_nil->az4,map_cons->awZ,map_map->azb,getElem?_map->awu,flatten_append->axh,flatten_cons->ax6,flatten_nil->ay0,append_nil->aww,length_append->awi,size_toArray->axJ,length_cons->awJ,length_nil->axM,push_toArray->axK,append_toArray->axD,cons_append->axk,getElem?_eq_getElem->av_,append_assoc->awv,foldl_append->azA,foldl_cons->awW,foldl_nil->aBa,map_flatten->aAW,getElem_map->aAX,length_map->aw0,mem_flatten->ays,map_append->axw,length_take->axe,length_flatten->axO,getElem?_cons_zero->axB,flatten_eq_nil_iff->ayw
open Bool renaming and_eq_true->awb,false_eq_true->awA,not_true->axu,and_self->aBn
open Nat renaming rec->az0,le_refl->awe,le_trans->awy,reduceAdd->ax3,reduceSub->ax4,add_assoc->ax2,mul_one->aBH
open ByteArray renaming size->ay4,getElem_eq_getElem_data->aBE
open Go.IntKind renaming i64->awK,u8->aBm
open Go.Proofs.Lays renaming n144->aBv
open Go.Lib renaming indexByte->azt
open Go.Utf8 renaming decode->axU
open Ne renaming symm->ayz
open Classical renaming em->aAJ,choose_spec->ayy,choose->aBV,propDecidable->aBW
open Go.Op renaming equalIn->axa,equal->ayF
open Option renaming bind_some->awc
open Array renaming forIn_toList->aAs,replicate_succ->axy,replicate_zero->axz
open String renaming reduceEq->aAL
open Go.Instr renaming findAsking->aw1,findKey->axr,sameBits->ayi
open Go renaming undef->awT
open Go.Oper renaming semAt_some->ay5
open Go.Value renaming slice->aAg,int->axQ
open Go.World renaming grownBy_alloc->ayN,size_alloc->aAN,cell?->aAl
open Go.RowKit.Below renaming refl->ax1
open Go.Value.agg renaming injEq->aAn
open Array.mk renaming injEq->aAy
open List.cons renaming injEq->axC
open List.Pairwise renaming map->azy
open Subtype renaming ext->az7
open Go.Maps renaming IsMap->aAz,int_keyed->azX
open Go.Boxed renaming new->aAM
open Go.OwnFrom renaming and->aBb
open Go.KeepsFrom renaming refl->aBT,of_grownBy->aBU
open SizeOf renaming sizeOf->ayE
open Option.some renaming injEq->awf
open Go.Fence renaming wide->awP
open Option renaming some->aa,none->ah
open Bool renaming true->ab,false->af
set_option linter.all false
namespace Go.Proofs.YtabefplkfkfdfaaGreat
open Go Go.Ev
def ala:List Nat:=[266,24,25,7,69,257,72,26,71,137,70,139,225,145,183,75,76,136,186,140,184,224,226,138,185,9,28,27,143,77,142,141,74,144,73,146,78,39,95,93,162]
def alb:List Nat:=[269,259,234,217]
def alc:List Nat:=[201]
def ald:List Nat:=[185]
def f_(l:List Hint):fe:=⟨ala,alb,alc,l++[],ald⟩
def XM:aq:=
 (kP fP 2 fP 6 fS 2 (fR 6 3 (j2 28 oz (jb 3 3 3 3 3 3) (y7 c8 .neq 38 c8 0 (A_ mH c8) (mU 1 2)))) (A_ bu bu))
def XN:aq:=
 (kP FK 1 FK 2 oz 1 (il 2 2 26 I1 (ik dG dG (I9 7) (oN .lss 2 1 0 (I9 9) (oN .gtr 2 1 6 (I9 9) (.bind (.sub 2 oz bu (.var 1)) (uc 27 Cj 2 0 FE (.nt c9 (I9 8) sh))))))) (oO 0 1 .gtr 0 1 40 (I9 6) XM))
def aad:aq:=
 (fR 2 0 (oO 0 0 .gtr 0 0 30 (I9 6) XN))
def atf:aQ Tryz.prog (f_ [⟨0,9,16,[(0,(6,0))],[],[],[]⟩,⟨0,9,4,[(0,(4,0))],[],[],[]⟩]) 400 af 9=aad:=by kernel_rfl
def agY:aq:=
 (Co (mv 70 bA (.nt cb (.aE (MK bu) (mv 71 (MK bu) (.nt bZ (kO 72 bA 3 (.nr (Dm dG))) bF))) bF)))
def atg:aQ Tryz.prog (f_ []) 400 af 26=agY:=by kernel_rfl
def UF:aq:=
 (Oz s_ vX .lss 3 1 vX (.aE tU (v_ 71 tU bZ bZ (.aE tU (v_ 137 tU dG dG (A9 tU .lss 5 tU (jr 48) (A9 tU .neq 5 tU I7 bF sh) (A9 tU .gtr 5 tU (jr 57) (A9 tU .neq 5 tU I7 bF sh) sh)) sh)) sh)) (pq vX .geq vX 1 (.aE vX (.nr (sj .leq vX 40))) bF))
def acj:aq:=
 (Co UF)
def apI:aQ Tryz.prog (f_ [⟨0,70,2,[(0,(3,0))],[],[],[]⟩]) 400 af 70=acj:=by kernel_rfl
def ack:aq:=
 (A9 bA .geq 5 bA (jr 97) (.nr (z8 .leq 5 bA 122)) bF)
def apJ:aQ Tryz.prog (f_ []) 400 af 71=ack:=by kernel_rfl
def acm:aq:=
 (A9 bA .geq 5 bA (jr 65) (.nr (z8 .leq 5 bA 90)) bF)
def apM:aQ Tryz.prog (f_ []) 400 af 137=acm:=by kernel_rfl
def acn:aq:=
 (sb bA 9 bA (.s [99,111,110,115,116,114,97,105,110,116]) kV (MQ 9 [116,114,117,101] 9 [102,97,105,108] (MQ 9 [105,115] 9 [105,110,116] (.nr (pY .eql 9 bA (.s [103,114,111,117,110,100]))))))
def apO:aQ Tryz.prog (f_ []) 400 af 72=acn:=by kernel_rfl
def XO:aq:=
 (kP dE 3 dE 2 bA 3 (tX 2 4 9 Jc cb (ph 2 bA 3 (tX 2 5 3 (fc 5) bZ kV si)) si) bF)
def agZ:aq:=
 (sf (dV 2 XO))
def ath:aQ Tryz.prog (f_ [⟨0,27,2,[(0,(7,0))],[],[],[]⟩]) 400 af 27=agZ:=by kernel_rfl
def XP:aq:=
 (kP m_ 7 m_ 1 dR 7 (gz mK .neq mK po t_ (mU 2 7)) (gz m_ .neq (vT 1 5) m_ t_ (KI .neq 9 zX rF (v_ 26 zX mK mK (qp 7) (j2 78 bA (jb 1 1 1 1 1 1) (.nr sw))) (j2 78 bA (jb 1 1 1 1 1 1) (.nr mK)))))
def XQ:aq:=
 (kP z7 5 z7 3 dG 5 (il 3 6 76 (pw 6 6 6) (ik kQ kQ t_ (mU 1 5))) (kO 77 (jb 1 1 1 1 1 1) 6 XP))
def XS:aq:=
 (kP su 4 su 2 bZ 4 (il 2 5 75 (mJ 5 5) (ik dR dR t_ qH)) XQ)
def ag0:aq:=
 (tS (uF 6 1) (kO 73 (jb 1 1 1 1 1 1) 2 (kO 74 (jb 1 1 1 1 1 1) 3 (Cp su .eql su (qp 6) (pq su .gtr su 4 (qp 6) (oO 1 3 .gtr 1 3 12 (qp 6) (oO 1 4 .gtr 1 4 12 (qp 6) XS)))))))
def ati:aQ Tryz.prog (f_ [⟨0,28,17,[(0,(10,0))],[],[],[]⟩,⟨0,28,11,[(0,(8,0))],[],[],[]⟩,⟨0,28,6,[(0,(7,0))],[],[],[]⟩]) 400 af 28=ag0:=by kernel_rfl
def aco:aq:=
 (fR 6 0 (KJ 2 40 qL fS (Ba 2 40 1 qD Ci)))
def apP:aQ Tryz.prog (f_ []) 400 af 73=aco:=by kernel_rfl
def acp:aq:=
 (fR 6 0 (KJ 3 48 oA Cm (Ba 3 48 1 Z_ Ci)))
def apQ:aQ Tryz.prog (f_ []) 400 af 74=acp:=by kernel_rfl
def ag1:aq:=
 (il 2 0 26 oz (.nt cb (oO 0 1 .leq 0 1 6 (mv 138 fS (.nr bZ)) bF) bF))
def atj:aQ Tryz.prog (f_ []) 400 af 75=ag1:=by kernel_rfl
def UG:aq:=
 (qF MR dE 1 dE 4 bA 1 (qJ 4 3 183 3 3 3 3 (uJ c8 c8 (ph 4 bA 1 (qJ 4 5 136 5 5 5 5 (gn dR (Ck dR) (FD (fX (Ck dR)))))))) (.nr (zN .leq 2 200)))
def acq:aq:=
 (Co UG)
def apR:aQ Tryz.prog (f_ [⟨0,138,3,[(0,(3,0)),(0,(4,0))],[],[],[]⟩]) 400 af 138=acq:=by kernel_rfl
def acr:aq:=
 (qJ 4 0 224 0 0 0 0 (.nt cb (mv 136 (nb 0 0 0 0) (pq bZ .leq bZ 200 (kO 225 (nb 0 0 0 0) 3 (.nr (sj .leq dG 20))) bF)) bF))
def apS:aQ Tryz.prog (f_ []) 400 af 183=acr:=by kernel_rfl
def FW:aq:=
 (kP vZ 3 vZ 4 Cm 3 (qJ 4 4 224 4 4 4 4 (uJ c9 c9 si)) kV)
def KQ:aq:=
 (kP vZ 2 vZ 4 Cm 2 (qJ 4 3 224 3 3 3 3 (uJ c8 c8 xM)) kV)
def UH:aq:=
 (kP vZ 3 vZ 4 Cm 3 (qJ 4 4 224 4 4 4 4 (uJ c9 c9 si)) kV)
def acu:aq:=
 (Fy 4 0 (sa .eql 0 0) (Z7 1 (-2147483648) (sc .leq 1 2147483648 (Z8 9 qD 3 (.nr (RM 3))))) (qC 0 0 1 (Z7 1 0 (sc .leq 1 1048576 (Z8 9 qD 3 (.nr (RM 3))))) 0 0 2 (mv 257 qD (.nt cb (jZ 3 (MG (MH 0 3 2) (sa .neq 1 0) bF (.nt (Dm (MH 0 3 2)) (z_ 26 qD bZ bZ (zP 0 3 0 3 6 FW)) KQ))) (oN .neq 0 1 0 bF (z_ 26 qD bZ bZ (zP 0 3 0 3 6 UH))))) bF))
def apT:aQ Tryz.prog (f_ [⟨0,224,11,[(0,(4,0))],[],[],[]⟩]) 400 af 224=acu:=by kernel_rfl
def acv:aq:=
 (sb bA 9 bA (.s [43]) kV (MQ 9 [45] 9 [42] (RO 9 [47] (.nr (pY .eql 9 bA (.s [37]))))))
def apU:aQ Tryz.prog (f_ []) 400 af 257=acv:=by kernel_rfl
def UI:aq:=
 (qF MR j8 2 j8 4 cb 2 (qJ 4 4 225 4 4 4 4 (gn c9 (RL (.mx ab pj c9)) (zR 2 (fX (RL (.mx ab pj c9)))))) (.nr (zY 3 1)))
def acw:aq:=
 (qJ 4 0 184 0 0 0 0 (dV 1 UI))
def apV:aQ Tryz.prog (f_ [⟨0,225,4,[(0,(3,0)),(0,(5,0))],[],[],[]⟩]) 400 af 225=acw:=by kernel_rfl
def acx:aq:=
 (Fy 3 0 (sa .eql 0 0) (mv 75 (Oy 0 1 0 2) (.nr cb)) (FA 9 fS (kO 139 oz 1 (sb I_ 3 cb I_ (mv 138 qD (.nr bZ)) bF))))
def apW:aQ Tryz.prog (f_ []) 400 af 76=acx:=by kernel_rfl
def acy:aq:=
 (pq bA .eql bA 1 zT (v8 .eql bA 2 zT (v8 .eql bA 11 (qp 1) (v8 .eql bA 12 (qp 1) (v8 .gtr bA 2 (v8 .lss bA 11 t_ I4) I4)))))
def apX:aQ Tryz.prog (f_ []) 400 af 139=acy:=by kernel_rfl
def UJ:aq:=
 (qF (tW 3) ub 5 ub 3 c8 5 (fR 3 7 (Ba 4 56 6 (jY 7) (lG 5 8))) (jN 140 (nN 6) (.nr kQ)))
def UK:aq:=
 (qF (Ch 4) j8 2 j8 2 cb 2 (fR 2 4 (Ba 4 56 3 (fc 4) (fZ 2 5))) (kO 74 (jb 0 0 0 0 0 0) 4 UJ))
def acz:aq:=
 (wi 6 0 73 0 0 0 0 0 0 (dV 1 UK))
def apY:aQ Tryz.prog (f_ [⟨0,77,9,[(0,(3,0)),(0,(7,0))],[(1,3),(1,0)],[],[]⟩,⟨0,77,4,[(0,(3,0)),(0,(5,0))],[(1,3),(1,0)],[],[]⟩]) 400 af 77=acz:=by kernel_rfl
def UL:aq:=
 (qF (Ch 1) dE 1 dE 4 bA 1 (jo 4 3 (.rws mH) (jN 491 (ij mH (nb 3 3 3 3)) (fZ 1 4))) Ci)
def MX:aq:=
 (Co UL)
def ap0:aQ Tryz.prog (f_ [⟨0,140,3,[(0,(3,0)),(0,(4,0))],[(0,0)],[],[]⟩]) 400 af 140=MX:=by kernel_rfl
def UM:aq:=
 (kP (qo 11) 12 (qo 11) 1 nc 12 (dV 13 (j2 146 mK FT (ik (jA 14) (jA 14) (qp 17) (mU 4 12)))) (mU 3 9))
def UN:aq:=
 (kP (mP 1 3) 9 (mP 1 3) 3 xR 9 (il 3 10 145 (pw 10 10 10) (dV 11 UM)) zT)
def UO:aq:=
 (kP (mP 1 4) 7 (mP 1 4) 3 (vT 1 4) 7 (il 3 8 143 (mI 8) (.nt sw (qp 10) (mU 2 7))) (kO 144 (jb 1 1 1 1 1 1) 8 UN))
def UP:aq:=
 (kP (mP 1 3) 6 (mP 1 3) 3 xR 6 (il 3 7 143 (mI 7) (ik mK mK (ph 3 xR 6 (ss 3 9 .neq 9 0 1 (qp 10) (mU 1 6))) (mU 1 6))) UO)
def UQ:aq:=
 (kP su 3 su 2 bZ 3 (fR 2 4 (ph 2 bZ 3 (jo 2 5 ua (uG 141 (yG bA 4 0 (fX ua)) (y7 dR .neq 38 dR 0 (.ret dR) si))))) (kO 74 (jb 1 1 1 1 1 1) 4 (j2 142 bA c8 (y7 c9 .neq 38 c9 0 (.ret c9) UP))))
def acA:aq:=
 (tS (uF 6 1) (kO 73 (jb 1 1 1 1 1 1) 2 UQ))
def ap1:aQ Tryz.prog (f_ [⟨0,78,23,[(0,(12,0))],[],[],[]⟩,⟨0,78,27,[(0,(14,0))],[],[],[]⟩,⟨0,78,17,[(0,(10,0))],[],[],[]⟩,⟨0,78,12,[(0,(9,0))],[],[],[]⟩,⟨0,78,3,[(0,(6,0))],[],[],[]⟩]) 400 af 78=acA:=by kernel_rfl
def UR:aq:=
 (qF (MJ (.i 7)) dE 3 dE 2 bA 3 (tX 2 5 9 (mI 5) cb (zR 3 (IU 9)) (fZ 3 4)) (xP 27 bA cb bZ (.nt c9 zT MS)))
def acB:aq:=
 (sf (dV 2 UR))
def ap2:aQ Tryz.prog (f_ [⟨0,141,3,[(0,(7,0)),(0,(8,0))],[],[],[]⟩]) 400 af 141=acB:=by kernel_rfl
def US:aq:=
 (kP j8 2 j8 3 cb 2 (ss 3 3 .neq 3 0 0 xM (ph 3 cb 2 (fR 3 4 (ph 3 cb 2 (jo 3 5 (ni 5) (uG 141 (yG bA 4 1 (fX (ni 5))) (y7 dR .neq 38 dR 0 (.ret dR) xM))))))) zT)
def acC:aq:=
 (sf US)
def ap3:aQ Tryz.prog (f_ [⟨0,142,2,[(0,(5,0))],[],[],[]⟩]) 400 af 142=acC:=by kernel_rfl
def acD:aq:=
 (pq bA .geq bA 5 (.nr (sj .leq bA 12)) bF)
def ap4:aQ Tryz.prog (f_ []) 400 af 143=acD:=by kernel_rfl
def UT:aq:=
 (qF (Ch 4) j8 2 j8 2 cb 2 (fR 2 4 (Ba 4 56 3 (fc 4) (fZ 2 5))) (jN 140 (nN 3) (.nr c8)))
def acE:aq:=
 (wi 6 0 73 0 0 0 0 0 0 (dV 1 UT))
def ap5:aQ Tryz.prog (f_ [⟨0,144,4,[(0,(3,0)),(0,(5,0))],[(1,3),(1,0)],[],[]⟩]) 400 af 144=acE:=by kernel_rfl
def ag2:aq:=
 (il 3 0 140 qD (.nr cb))
def atk:aQ Tryz.prog (f_ []) 400 af 145=ag2:=by kernel_rfl
def UU:aq:=
 (kP dE 2 dE 1 bA 2 (sb dG 3 dG cb kV xM) bF)
def acG:aq:=
 (sf UU)
def ap6:aQ Tryz.prog (f_ [⟨0,146,2,[(0,(5,0))],[],[],[]⟩]) 400 af 146=acG:=by kernel_rfl
def ale:List Nat:=[266,24,25,7,69,257,72,26,71,137,70,139,225,145,183,75,76,136,186,140,184,224,138,185,9,28,27,143,77,142,141,74,144,73,146,78,39,95,93,162]
def alf:List Nat:=[226]
def alg:List Nat:=[201]
def alh:List Nat:=[185]
def ap7(l:List Hint):fe:=⟨ale,alf,alg,l++[],alh⟩
def KR:aq:=
 (Oz s_ (tb 0) .lss 3 2 (tb 0) (sb (.idx 1 (.var 0) mH) 3 (.oY 1 (.var 0) mH 0) xN (.next 0 (fX gP)) (mU 1 2)) (.next 0 (fX e_)))
def KT:aq:=
 (qF (tW 3) ub 5 ub 4 c8 5 (jo 4 7 (.rws tZ) (jN 491 (ij tZ (nb 7 7 7 7)) (fZ 5 8))) (.ret (.rws tZ)))
def KU:aq:=
 (qF (tW 0) z7 4 z7 4 dG 4 (jo 4 6 (.rws fa) (jN 491 (ij fa (nb 6 6 6 6)) (fZ 4 7))) (.ret (.rws fa)))
def UW:aq:=
 (.tG KR 1 (tQ 2 (pn xN (m9 1 8 0 1 xN (kO 184 (nb 1 1 1 1) 4 KT))) (kO 184 (nb 1 1 1 1) 3 KU)))
def KV:aq:=
 (qF (tW 0) su 3 su 4 bZ 3 (jo 4 5 (.rws Cj) (jN 491 (ij Cj (nb 5 5 5 5)) (fZ 3 6))) (.ret (.rws Cj)))
def acH:aq:=
 (ss 4 1 .eql 1 0 1 UW (kO 184 (nb 1 1 1 1) 2 KV))
def ap8:Au Tryz.prog (ap7 [⟨0,185,5,[(0,(6,0))],[(0,3),(0,0)],[(0,21),(0,11)],[]⟩,⟨0,185,1000014,[(0,(14,0))],[],[],[]⟩,⟨1,185015,2,[(1,(5,0))],[],[],[]⟩]) 400 1 185=acH:=by kernel_rfl
end Go.Proofs.YtabefplkfkfdfaaGreat
namespace Go.Ev
section
variable{P:Program}{C:Cr}{Q:IV->Prop}{K K':List (List IV->Prop)}{O:List IV}
def Be{A:Type}(n:Nat)(e:Nat->A->List IV)(μ:Nat->A->Prop)(i:Nat)(vs:List IV):Prop:=∃a',vs=e (i+1) a'/\i+1<=n/\μ (i+1) a'
def Be.mk{A:Type}{n:Nat}{e:Nat->A->List IV}{μ:Nat->A->Prop}{i:Nat}{vs:List IV}(a':A)(h1:vs=e (i+1) a')(h2:i+1<=n)(h3:μ (i+1) a'):Be n e μ i vs:=⟨a',h1,h2,h3⟩
def aC{A:Type}{init:SE}{body:aq}(n:Nat)(e:Nat->A->List IV)(μ:Nat->A->Prop)(a0:A)(FV:jL P O init=aa (e 0 a0))(h0:μ 0 a0)
 (h:∀i a,i<=n->μ i a->body.sat P C Q (K++[Be n e μ i]) (O++e i a)):(aq.loop init body).sat P C Q K O:=
 ir n e μ a0 FV h0 h
def FX{A:Type}(e:A->List IV)(μ:A->Prop)(I:A->Nat)(a:A)(vs:List IV):Prop:=∃a',vs=e a'/\μ a'/\I a'<I a
def FX.mk{A:Type}{e:A->List IV}{μ:A->Prop}{I:A->Nat}{a:A}{vs:List IV}(a':A)(h1:vs=e a')(h2:μ a')(h3:I a'<I a):FX e μ I a vs:=⟨a',h1,h2,h3⟩
def jc{A:Type}{init:SE}{body:aq}(e:A->List IV)(μ:A->Prop)(I:A->Nat)(a0:A)(FV:jL P O init=aa (e a0))(h0:μ a0)
 (h:∀a,μ a->body.sat P C Q (K++[FX e μ I a]) (O++e a)):(aq.loop init body).sat P C Q K O:=
 HM e μ I a0 FV h0 h
def HN(p:List IV->Prop)(vs:List IV):Prop:=p vs
def kW{a b:aq}{m:Nat}(p:List IV->Prop)(h:a.sat P C Q (K++[HN p]) O)(hb:∀vs,p vs->vs.length=m/\b.sat P C Q K (O++vs)):(aq.tG a m b).sat P C Q K O:=
 aiB p h hb
def noTwo:aq->Bool
 |.pick .. |.uniq .. =>af
 |.test _ a b|.tG a _ b=>noTwo a&&noTwo b
 |.bind _ k|.aE _ k|.call _ _ _ k|.loop _ k|.same _ _ k=>noTwo k
 |_=>ab
def ExK(Q:IV->Prop)(K:List (List IV->Prop))(Kz:IV->List (List IV->Prop)):Prop:=
 (∀z,(Kz z).length=K.length)/\∀(lv:Nat) (p:List IV->Prop) (vs:List IV),K[lv]?=aa p->p vs->∃z,Q z/\∃p':List IV->Prop,(Kz z)[lv]?=aa p'/\p' vs
def ExK.snoc{Kz:IV->List (List IV->Prop)}{p:List IV->Prop}{q:IV->List IV->Prop}(h:ExK Q K Kz)(hp:∀vs,p vs->∃z,Q z/\q z vs):ExK Q (K++[p]) (λz=>Kz z++[q z]):=by
 refine⟨λz=>by simp[h.1 z],λlv r vs hr dP=>?_⟩;by_cases hl:lv<K.length
 .rw[awp hl]at hr;obtain⟨z,h1,p',h2,h3⟩:=h.2 lv r vs hr dP;exact⟨z,h1,p',by rw[awp (by rw[h.1 z];exact hl)];exact h2,h3⟩
 .have ak:=(awa.1 hr).1;simp at ak;have:lv=K.length:=aj;subst this;simp at hr;subst hr;obtain⟨z,h1,h2⟩:=hp vs dP;exact⟨z,h1,q z,by simp[<-h.1 z],h2⟩
theorem tI:∀(di:aq),noTwo di=ab->∀{K:List (List IV->Prop)} {Kz:IV->List (List IV->Prop)} {O:List IV},ExK Q K Kz->di.sat P C Q K O->∃z,Q z/\di.sat P C (·=z) (Kz z) O
 |.fail _,_,_,_,_,_,h=>h.elim
 |.bad ..,_,_,_,_,_,h=>h.elim
 |.pick ..,hn,_,_,_,_,_=>by cases hn
 |.uniq ..,hn,_,_,_,_,_=>by cases hn
 |.same es x k,hn,_,_,_,hK,h=>by
  obtain⟨ds,r,h1,h2,h3⟩:=h;obtain⟨z,g1,g2⟩:=tI k hn hK h3;exact⟨z,g1,ds,r,h1,h2,g2⟩
 |.ret e,_,_,_,_,_,h=>by
  obtain⟨z,h1,h2⟩:=h;exact⟨z,h2,z,h1,rfl⟩
 |.test e a b,hn,_,_,_,hK,h=>by
  simp only[noTwo,awb]at hn;rcases h with⟨h1,h2⟩|⟨h1,h2⟩
  .obtain⟨z,g1,g2⟩:=tI a hn.1 hK h2;exact⟨z,g1,.inl ⟨h1,g2⟩⟩
  .obtain⟨z,g1,g2⟩:=tI b hn.2 hK h2;exact⟨z,g1,.inr ⟨h1,g2⟩⟩
 |.bind e k,hn,_,_,_,hK,h=>by
  obtain⟨y,h1,h2⟩:=h;obtain⟨z,g1,g2⟩:=tI k hn hK h2;exact⟨z,g1,y,h1,g2⟩
 |.aE e k,hn,_,_,_,hK,h=>by
  obtain⟨z,g1,g2⟩:=tI k hn hK h.2;exact⟨z,g1,h.1,g2⟩
 |.call f new e k,hn,_,_,_,hK,h=>by
  obtain⟨xs,y,h1,h2,h3⟩:=h;obtain⟨z,g1,g2⟩:=tI k hn hK h3;exact⟨z,g1,xs,y,h1,h2,g2⟩
 |.next lv e,_,K,Kz,_,hK,h=>by
  obtain⟨vs,p,h1,h2,h3⟩:=h;obtain⟨z,g1,p',g2,g3⟩:=hK.2 lv p vs h2 h3;exact⟨z,g1,vs,p',h1,g2,g3⟩
 |.tG a m b,hn,K,Kz,O,hK,h=>by
  simp only[noTwo,awb]at hn
  exact tI a hn.1 (Kz:=λz=>Kz z++[λvs=>vs.length=m/\b.sat P C (·=z) (Kz z) (O++vs)]) (hK.snoc λvs dP=>by
   obtain⟨z,g1,g2⟩:=tI b hn.2 hK dP.2;exact⟨z,g1,dP.1,g2⟩) h
 |.loop i b,hn,K,Kz,O,hK,h=>by
  obtain⟨vs,h1,m,hm⟩:=h
  have key:∀(m:Nat) (vs:List IV),(az0 (motive:=λ_=>List IV->Prop) (λ_=>False) (λ_ ih vs=>b.sat P C Q (K++[ih]) (O++vs)) m) vs->
   ∃z,Q z/\(az0 (motive:=λ_=>List IV->Prop) (λ_=>False) (λ_ ih vs=>b.sat P C (·=z) (Kz z++[ih]) (O++vs)) m) vs:=by
   intro m;induction m with
   |zero=>intro vs h;exact h.elim
   |succ m ih=>
    intro vs h;exact tI b hn (Kz:=λz=>Kz z++[az0 (motive:=λ_=>List IV->Prop) (λ_=>False) (λ_ ih vs=>b.sat P C (·=z) (Kz z++[ih]) (O++vs)) m]) (hK.snoc ih) h
  obtain⟨z,g1,g2⟩:=key m vs hm;exact⟨z,g1,vs,h1,m,g2⟩
def KX{di:aq}(hn:noTwo di=ab)(h:di.sat P C Q [] O):∃z,Q z/\di.sat P C (·=z) [] O:=
 tI di hn (Kz:=λ_=>[]) ⟨λ_=>rfl,λ_ _ _ h=>by simp at h⟩ h
end
end Go.Ev
namespace Go.Proofs.YtabefplkfkfdfaaGreat
open Go Go.Ev
section
variable{n:Nat}{new:Bool}{f:FuncId}{di:aq}{args:List IV}{cfg:fe}
def CC.HO{Q:IV->Prop}(he:aQ Tryz.prog cfg n new f=di)(hl:(Tryz.prog.funcs[f]?).map (·.params.size)=aa args.length)(ht:∀z,Q z->oq Tryz.prog f z=ab)(hp:∀x∈args,Pure x)(hz:∀z,Q z->Pure z)(hn:noTwo di=ab)
 (hs:di.sat Tryz.prog CC Q [] args):∃z,Q z/\CC f new args z:=by
 obtain⟨z,h1,h2⟩:=KX hn hs;exact⟨z,h1,CC.of he hl (ht z h1) hp (hz z h1) h2⟩
def xo(p:Bool->Prop)(z:IV):Prop:=∃b:Bool,z=iB b/\p b
@[simp] theorem avh(p:Bool->Prop)(b:Bool):xo p (iB b)↔p b:=⟨λ⟨b',h1,h2⟩=>by cases h1;exact h2,λh=>⟨b,rfl,h⟩⟩
def CC.FY(p:Bool->Prop)(he:aQ Tryz.prog cfg n new f=di)(hl:(Tryz.prog.funcs[f]?).map (·.params.size)=aa args.length)(ht:∀z,oq Tryz.prog f z=ab)(hp:∀x∈args,Pure x)(hn:noTwo di=ab)
 (hs:di.sat Tryz.prog CC (xo p) [] args):∃b,p b/\CC f new args (iB b):=by
 obtain⟨z,⟨b,rfl,hb⟩,h2⟩:=CC.HO he hl (λz _=>ht z) hp (by rintro _ ⟨b,rfl,_⟩;exact .raw _) hn hs;exact⟨b,hb,h2⟩
abbrev rI(c:Int):IV:=.raw (.int .u8 c)
@[simp] theorem avI(t:TypeId)(a b:Int):dc Tryz.prog .lss t (rI a) (rI b)=aa (iB (decide (a<b))):=rfl
@[simp] theorem avJ(t:TypeId)(a b:Int):dc Tryz.prog .gtr t (rI a) (rI b)=aa (iB (decide (a>b))):=rfl
@[simp] theorem avK(t:TypeId)(a b:Int):dc Tryz.prog .leq t (rI a) (rI b)=aa (iB (decide (a<=b))):=rfl
@[simp] theorem avL(t:TypeId)(a b:Int):dc Tryz.prog .geq t (rI a) (rI b)=aa (iB (decide (a≥b))):=rfl
@[simp] theorem avM(t:TypeId)(a b:Int):dc Tryz.prog .neq t (rI a) (rI b)=aa (iB (a !=b)):=rfl
@[simp] theorem avN(t:TypeId)(a b:List UInt8):dc Tryz.prog .eql t (iS a) (iS b)=aa (iB (a==b)):=by
  show aa (IV.bool (a.toArray.toList==b.toArray.toList))=_;simp
@[simp] theorem ali(l:List UInt8):Ao (iS l)=aa (iI l.length):=by
  simp[Ao,ay4]
end
def FZ(n:Int):List Int->Nat->Int
 |[],_=> -1
 |x::l,i=>if n=x then i else FZ n l (i+1)
theorem UX(n:Int):∀(l:List Int) (i:Nat),decide (0<=FZ n l i)=l.contains n
 |[],_=>rfl
 |x::l,i=>by
  by_cases h:n=x
  .simp[FZ,h]
  .have:=UX n l (i+1);simp[FZ,h]at this⊢;exact this
def atl(l:List Int)(n:Int)(hl:Sm l):CC 162 af [iL l,iI n] (iI (FZ n l 0)):=by
 refine CC.of aps kr kr ay ay ?_;simp[ab7,SE.den];refine ir l.length (λi (_:Unit)=>[iI i]) (λi _=>FZ n l 0=FZ n (l.drop i) i) () ?_ ?_ λi _ hi hI=>?_
 .simp[SE.den]
 .simp
 by_cases ak:i<l.length
 .rw[awH ak]at hI;have hw:=aI ak hl;simp[SE.den,ak,hw];by_cases h:n=l[i]
  .left;exact⟨h,by rw[hI];simp[FZ,h]⟩
  .right;simp[h,hI,FZ];omega
 .simp[SE.den,ak];rw[hI,awY aj];rfl
def Tm.k:Tm->Int|.mk k _ _ _=>k
def Tm.n:Tm->Int|.mk _ n _ _=>n
def Tm.s:Tm->List UInt8|.mk _ _ s _=>s
def Tm.ts:Tm->List Tm|.mk _ _ _ ts=>ts
def bL(t:Tm):er t=.agg [iI t.k,iI t.n,iS t.s,iT t.ts]:=by cases t;exact xn _ _ _ _
def rk(k:Int):Int:=if k=1 then 0 else if k=0 then 1 else if k=2 then 2 else 3
mutual
def Cy:Tm->Prop
 |.mk _ _ _ ts=>Sm ts/\UY ts
def UY:List Tm->Prop
 |[]=>True
 |t::l=>Cy t/\UY l
end
theorem UZ:∀l:List Tm,UY l↔∀t∈l,Cy t
 |[]=>by simp[UY]
 |t::l=>by simp[UY,UZ l]
def Ed(t:Tm):Cy t↔Sm t.ts/\∀u∈t.ts,Cy u:=by cases t;simp[Cy,UZ,Tm.ts]
def atm{l:List At}{i:Nat}(h:i<l.length):cq 2 (c_ l) (iI (i:Nat))=aa (dH l[i]):=cP (by simp[h]) rfl
def nP{l:List Tm}{i:Nat}(h:i<l.length):cq 4 (iT l) (iI (i:Nat))=aa (er l[i]):=cP (by simp[h]) (by rw[bL];rfl)
def bX(t:Tm):List Tm:=if t.k=2 then t.ts else[]
def ae9(t:Tm):CC 184 af [er t] (iT (bX t)):=by
 refine CC.of apt kr kr (by simp[rH]) ay ?_;simp[ab8,SE.den,bL,ao,bX];by_cases h:t.k=2
 .left;simp[h]
 .right;simp[h]
mutual
def sC:Tm->Int
 |.mk k _ _ ts=>if k=2 then wm 1 ts else 1
def wm:Int->List Tm->Int
 |acc,[]=>acc
 |acc,t::l=>wm (awK.wrap (acc+sC t)) l
end
def U0(t:Tm):sC t=wm 1 (bX t):=by
 obtain⟨k,n,s,ts⟩:=t;show sC (.mk k n s ts)=wm 1 (if k=2 then ts else[]);by_cases hk:k=2<;>simp[sC,hk,wm]
def rJ{t u:Tm}(h:u∈bX t):u∈t.ts:=by
 unfold bX at h;split at h
 .exact h
 .simp at h
def f158(t:Tm)(hl:Sm t.ts)(hc:∀u∈t.ts,CC 136 af [er u] (iI (sC u))):CC 136 af [er t] (iI (sC t)):=by
 refine CC.of apu kr kr (by simp[rH]) ay ?_;have h:=ae9 t;rw[bL]at h;simp[ab9,SE.den,bL,ao];refine⟨_,h,?_⟩;simp[SE.den];have ey:(bX t).length<=9223372036854775807:=by unfold bX;split<;>simp_all
 refine ir (bX t).length (λi (a:Int)=>[iI i,iI a]) (λi a=>sC t=wm a ((bX t).drop i)) 1 ?_ ?_ λi a hi hI=>?_
 .simp[SE.den]
 .simp[U0]
 by_cases ak:i<(bX t).length
 .rw[awH ak,wm]at hI;have hw:=aI ak ey;have hm:(bX t)[i]∈t.ts:=rJ (awd ak);have h3:=hc _ hm;rw[bL]at h3;simp[SE.den,ak,hw,nP ak,bL,ao];refine⟨_,h3,?_⟩;simp[SE.den,hw];exact⟨by omega,hI⟩
 .simp[SE.den,ak];rw[hI,awY aj,wm]
theorem aae:∀t:Tm,Cy t->CC 136 af [er t] (iI (sC t))
 |.mk k n s ts,hw=>f158 _ ((Ed _).1 hw).1 λu hu=>aae u (((Ed _).1 hw).2 u hu)
 decreasing_by simp[Tm.ts]at hu;have:=axf hu;simp;omega
def MY:Int->List Tm->Bool
 |_,[]=>ab
 |acc,t::l=>if 60<awK.wrap (acc+sC t)then af else MY (awK.wrap (acc+sC t)) l
def Cz(l:List Tm):Bool:=if 8<l.length then af else MY 0 l
def alj(l:List Tm)(hw:∀t∈l,Cy t):CC 69 af [iT l] (iB (Cz l)):=by
 refine CC.of apv kr kr ay ay ?_;simp[ab_,SE.den];by_cases h8:8<l.length
 .left;exact⟨by omega,by simp[Cz,h8]⟩
 right;refine⟨by omega,?_⟩;refine ir l.length (λi (a:Int)=>[iI i,iI a]) (λi a=>Cz l=MY a (l.drop i)) 0 ?_ ?_ λi a hi hI=>?_
 .simp[SE.den]
 .simp[Cz,h8]
 by_cases ak:i<l.length
 .rw[awH ak,MY]at hI;have n_:=aI ak aj;have h3:=aae l[i] (hw _ (awd ak));rw[bL]at h3;simp[SE.den,ak,n_,nP ak,bL,ao];refine⟨_,h3,?_⟩;simp[SE.den,n_];by_cases hs:60<awK.wrap (a+sC l[i])
  .left;exact⟨hs,by rw[hI,if_pos hs]⟩
  .right;exact⟨by omega,by omega,by rw[hI,if_neg hs]⟩
 .simp[SE.den,ak];rw[hI,awY aj,MY]
mutual
def lX:Tm->Prop
 |.mk _ _ s ts=>Sm s/\Sm ts/\U1 ts
def U1:List Tm->Prop
 |[]=>True
 |t::l=>lX t/\U1 l
end
theorem U2:∀l:List Tm,U1 l↔∀t∈l,lX t
 |[]=>by simp[U1]
 |t::l=>by simp[U1,U2 l]
def oP(t:Tm):lX t↔Sm t.s/\Sm t.ts/\∀u∈t.ts,lX u:=by cases t;simp[lX,U2,Tm.ts,Tm.s]
theorem lX.wf:∀t:Tm,lX t->Cy t
 |.mk k n s ts,h=>(Ed _).2 ⟨((oP _).1 h).2.1,λu hu=>lX.wf u (((oP _).1 h).2.2 u hu)⟩
 decreasing_by simp[Tm.ts]at hu;have:=axf hu;simp;omega
mutual
def dM:Tm->Prop
 |.mk k n _ ts=>(k=1->0<=n/\n<=1048576)/\(k=2->HP ts)
def HP:List Tm->Prop
 |[]=>True
 |t::l=>dM t/\HP l
end
theorem MZ:∀l:List Tm,HP l↔∀t∈l,dM t
 |[]=>by simp[HP]
 |t::l=>by simp[HP,MZ l]
def CA(t:Tm):dM t↔(t.k=1->0<=t.n/\t.n<=1048576)/\(t.k=2->∀u∈t.ts,dM u):=by cases t;simp[dM,MZ,Tm.ts,Tm.k,Tm.n]
def acI{t u:Tm}(h:dM t)(hu:u∈bX t):dM u:=by
 unfold bX at hu;split at hu
 .exact((CA t).1 h).2 (by assumption) u hu
 .simp at hu
def cI{α:Type}{p:α->Prop}{l:List α}{i:Nat}(h:i<l.length)(h1:∀u∈l.take i,p u)(h2:p l[i]):∀u∈l.take (i+1),p u:=by
 intro u hu;rw[awh h]at hu;rcases awm.1 hu with hu|hu
 .exact h1 u hu
 .simp at hu;subst hu;exact h2
def dq{α:Type}{p:α->Prop}{l:List α}{i:Nat}(h:¬i<l.length)(h1:∀u∈l.take i,p u):∀u∈l,p u:=by
 rwa[awr aj]at h1
structure Gl where
 op:Int
 s:List UInt8
 ts:List Tm
structure Rl where
 name:List UInt8
 aw:List At
 az:List At
 aG:List Gl
 bc:List Gl
 vars:Int
structure De where
 s:List UInt8
 n:Int
structure Pg where
 bN:List De
 aV:List Rl
def lH(g:Gl):IV:=.agg [iI g.op,iS g.s,iT g.ts]
abbrev gK(l:List Gl):IV:=.tree 3 (l.map lH)
def cU(r:Rl):IV:=.agg [iS r.name,c_ r.aw,c_ r.az,gK r.aG,gK r.bc,iI r.vars]
abbrev mw(l:List Rl):IV:=.tree 6 (l.map cU)
def xp(d:De):IV:=.agg [iS d.s,iI d.n]
abbrev fY(l:List De):IV:=.tree 2 (l.map xp)
def bn(p:Pg):IV:=.agg [fY p.bN,mw p.aV]
def HQ(a:Gl):Pure (lH a):=.agg _ ay
@[simp] theorem ae_(l:List Gl):Pure (gK l):=jm 3 lH (λa=>⟨_,rfl,by simp⟩) l
def jn(a:Rl):Pure (cU a):=.agg _ ay
@[simp] theorem atn(l:List Rl):Pure (mw l):=jm 6 cU (λa=>⟨_,rfl,by simp⟩) l
@[simp] theorem KY(l:List De):Pure (fY l):=jm 2 xp (λa=>⟨_,rfl,by simp⟩) l
def dN(a:Pg):Pure (bn a):=.agg _ ay
def pZ(a:At):Prop:=Sm a.s/\Sm a.ts/\∀t∈a.ts,lX t
def qO(a:Gl):Prop:=Sm a.s/\Sm a.ts/\∀t∈a.ts,lX t
def jB(op:Int):Int:=if op=1\/op=2 then 0 else if op=11\/op=12 then 1 else if 2<op/\op<11 then 2 else-1
def ato(op:Int):CC 139 af [iI op] (iI (jB op)):=by
 refine CC.of apX kr kr ay ay ?_;simp[acy,SE.den,jB]
 grind
def OF{l:List De}{i:Nat}(h:i<l.length):cq 2 (fY l) (iI (i:Nat))=aa (.agg [iS l[i].s,iI l[i].n]):=cP (by simp[h,xp]) rfl
def xq{l:List Gl}{i:Nat}(h:i<l.length):cq 3 (gK l) (iI (i:Nat))=aa (.agg [iI l[i].op,iS l[i].s,iT l[i].ts]):=cP (by simp[h,lH]) rfl
def jO:Tryz.prog.funcs.size=306:=by kernel_rfl
end Go.Proofs.YtabefplkfkfdfaaGreat
namespace Go.Proofs.YtabefplkfkfdfaaGreat
open Go.Shelf
def Tryz.Wy:Go.Shelf.Ren:=⟨λ|144=>280|143=>281|219=>282|217=>283|225=>284|224=>285|267=>286|266=>287|314=>288|n=>n,λ|9=>9|4=>4|3=>3|5=>5|46=>33|146=>298|51=>267|n=>n,λ|1=>0|n=>n⟩
def Tryz.lays144:aBv Tryz.prog Tryz.Wy:={
 mixed:=by kernel_rfl
 f143:=Tryz.func281.trans (congrArg aa (by kernel_rfl))
 f144:=Tryz.func280.trans (congrArg aa (by kernel_rfl))
 f217:=Tryz.func283.trans (congrArg aa (by kernel_rfl))
 f219:=Tryz.func282.trans (congrArg aa (by kernel_rfl))
 f224:=Tryz.func285.trans (congrArg aa (by kernel_rfl))
 f225:=Tryz.func284.trans (congrArg aa (by kernel_rfl))
 f266:=Tryz.func287.trans (congrArg aa (by kernel_rfl))
 f267:=Tryz.func286.trans (congrArg aa (by kernel_rfl))
 f314:=Tryz.func288.trans (congrArg aa (by kernel_rfl))
 t3:=Tryz.underlying3
 a3:=Tryz.isAgg3
 z3:=Tryz.sizeOf3
 v3:=Tryz.zeroValue3
 t4:=Tryz.underlying4
 a4:=Tryz.isAgg4
 z4:=Tryz.sizeOf4
 v4:=Tryz.zeroValue4
 t5:=Tryz.underlying5
 a5:=Tryz.isAgg5
 z5:=Tryz.sizeOf5
 v5:=Tryz.zeroValue5
 t9:=Tryz.underlying9
 a9:=Tryz.isAgg9
 z9:=Tryz.sizeOf9
 v9:=Tryz.zeroValue9
 t46:=Tryz.underlying33
 a46:=Tryz.isAgg33
 z46:=Tryz.sizeOf33
 v46:=Tryz.zeroValue33
 t51:=Tryz.underlying267
 a51:=Tryz.isAgg267
 z51:=Tryz.sizeOf267
 v51:=Tryz.zeroValue267
 t146:=Tryz.underlying298
 a146:=Tryz.isAgg298
 z146:=Tryz.sizeOf298
 v146:=Tryz.zeroValue298
 g1:=by kernel_rfl}
open Go.RowKit Go.Lib in
theorem Tryz.strings_Contains_one(s:ByteArray)(c:UInt8)(w:World):
 Calls Tryz.prog 280 #[.string s,.string ⟨#[c]⟩] w λe w'=>e=.returned (.bool (decide (0<=azt s.data.toList c)))/\w'=w:=Any.strings_Contains_one Tryz.lays144 s c w
open Go.Ev in
def atp(s:List UInt8)(c:UInt8):eC Tryz.prog af af 280 [.raw (.string ⟨s.toArray⟩),.raw (.string ⟨#[c]⟩)] (.raw (.bool (decide (0<=azt s c)))):=by
 intro M w us hM yg
 have atq:us=[.string ⟨s.toArray⟩,.string ⟨#[c]⟩]:=by
  obtain⟨hl,hr⟩:=yg
  match us,hl with
  |[a,b],_=>
   have h1:=hr 0 _ a rfl rfl;have h2:=hr 1 _ b rfl rfl;cases h1;cases h2;rfl
 subst atq;refine(callsIn_wide.2 (Tryz.strings_Contains_one ⟨s.toArray⟩ c w)).mono ?_;rintro e w' ⟨rfl,rfl⟩;exact⟨rfl,M,hM,λb c h=>.inl ⟨rfl,h⟩,λ_ b c h=>h,.raw _,rfl,rfl,rfl,awe _,λ_ _=>rfl⟩
end Go.Proofs.YtabefplkfkfdfaaGreat
namespace Go.Proofs.YtabefplkfkfdfaaGreat
open Go Go.Ev
@[simp] theorem avO(t:TypeId)(a b:Int):dc Tryz.prog .eql t (rI a) (rI b)=aa (iB (a==b)):=rfl
@[simp] theorem avP(t:TypeId)(a b:Int):dc Tryz.prog .gtr t (.raw (.int .i32 a)) (.raw (.int .i32 b))=aa (iB (decide (a>b))):=rfl
@[simp] theorem avQ(g:Int):L7 Tryz.prog 21 5 (.raw (.int .i32 g))=aa (rI (aBm.wrap g)):=by kernel_rfl
@[simp] theorem avR(l:List UInt8)(p:Nat):jK 0 (iS l) (iI (p:Nat))=aa (iB (decide (p<l.length))):=by simp[jK,ay4]
@[simp] theorem avS(l:List UInt8)(p:Nat):jK 1 (iS l) (iI (p:Nat))=aa (.raw (.int .i32 (axU ⟨l.toArray⟩ p).1)):=by simp[jK]
@[simp] theorem avT(l:List UInt8)(p:Nat):jK 2 (iS l) (iI (p:Nat))=aa (iI ((p+(axU ⟨l.toArray⟩ p).2:Nat):Int)):=by simp[jK]
section
variable{n:Nat}{new:Bool}{f:FuncId}{di:aq}{args:List IV}{cfg:fe}
def CC.eF{s:Bool}(he:aQ Tryz.prog cfg n new f=di)(hl:(Tryz.prog.funcs[f]?).map (·.params.size)=aa args.length)(ht:∀z,oq Tryz.prog f z=ab)(hp:∀x∈args,Pure x)(hn:noTwo di=ab)
 (hs:di.sat Tryz.prog CC (xo (·=s)) [] args):CC f new args (iB s):=by
 obtain⟨b,rfl,h⟩:=CC.FY (·=s) he hl ht hp hn hs;exact h
def rK(c:Int):Bool:=decide (97<=c/\c<=122)
def Dr(c:Int):Bool:=decide (65<=c/\c<=90)
def nQ(c:Int):Bool:=rK c||Dr c||decide (48<=c/\c<=57)||decide (c=95)
def HR(s:List UInt8):Bool:=s==[99,111,110,115,116,114,97,105,110,116]||s==[116,114,117,101]||s==[102,97,105,108]||s==[105,115]||s==[105,110,116]||s==[103,114,111,117,110,100]
def uf(s:List UInt8):Bool:=s==[43]||s==[45]||s==[42]||s==[47]||s==[37]
def xU(s:List UInt8):Bool:=s.all (λc=>nQ c.toNat)&&(decide (1<=s.length)&&decide (s.length<=40))
def iE(s:List UInt8):Bool:=xU s&&rK ((s.headD 0).toNat:Int)&& !HR s
def v148(c:Int):CC 71 af [rI c] (iB (rK c)):=by
 refine CC.eF apJ kr (λ_=>kr) ay (by rfl) ?_;simp[ack,SE.den,rK];omega
def v198(c:Int):CC 137 af [rI c] (iB (Dr c)):=by
 refine CC.eF apM kr (λ_=>kr) ay (by rfl) ?_;simp[acm,SE.den,Dr];omega
def atr(c:List UInt8):CC 72 af [iS c] (iB (HR c)):=by
 refine CC.eF apO kr (λ_=>kr) ay (by rfl) ?_;simp[acn,SE.den,HR]
 grind
def att(c:List UInt8):CC 257 af [iS c] (iB (uf c)):=by
 refine CC.eF apU kr (λ_=>kr) ay (by rfl) ?_;simp[acv,SE.den,uf]
 grind
def aiG(c:Int):nQ c=ab↔rK c=ab\/Dr c=ab\/(48<=c/\c<=57)\/c=95:=by simp[nQ,or_assoc]
def atu(c:List UInt8)(hc:Sm c):CC 70 af [iS c] (iB (xU c)):=by
 refine CC.eF apI kr (λ_=>kr) ay (by rfl) ?_;simp[acj,UF,SE.den];refine ir c.length (λi (_:Unit)=>[iI i]) (λi _=>∀u∈c.take i,nQ u.toNat=ab) () ?_ ?_ λi _ hi hI=>?_
 .simp[SE.den]
 .simp
 by_cases ak:i<c.length
 .have hw:=aI ak hc;have h1:=v148 c[i].toNat;have h2:=v198 c[i].toNat
  have fC:¬nQ c[i].toNat=ab->xU c=af:=λh=>by
   unfold xU;rw[Bool.and_eq_false_iff];left;rw[aAI];exact⟨c[i],awd ak,by simpa using h⟩
  have U3:=λh=>cI (p:=λu:UInt8=>nQ u.toNat=ab) ak hI h;rw[aiG]at fC U3;simp[SE.den,ak,hw];refine⟨_,h1,?_⟩;cases cB:rK c[i].toNat with
  |true=>simp;exact⟨by omega,U3 (.inl cB)⟩
  |false=>
   simp;refine⟨_,h2,?_⟩;cases dv:Dr c[i].toNat with
   |true=>simp;exact⟨by omega,U3 (.inr (.inl dv))⟩
   |false=>
    simp[cB,dv]at U3 fC⊢;have cw:i+1<=c.length:=aj;generalize(∀u∈c.take (i+1),nQ u.toNat=ab)=A at U3⊢;have zh:i+1<=c.length/\A↔A:=by simp[cw]
    grind
 .have:=dq ak hI;simp[SE.den,ak,xU];have ha:(c.all λc=>nQ c.toNat)=ab:=by simpa using this
  simp only[ha,Bool.true_and];by_cases h1:1<=c.length
  .left;refine⟨by omega,?_⟩;simp[h1];omega
  .right;exact⟨by omega,λ_ h=>absurd h h1⟩
def acJ{c:List UInt8}(h:xU c=ab):0<c.length:=by
 simp[xU]at h;omega
def v89(c:List UInt8)(hc:Sm c):CC 26 af [iS c] (iB (iE c)):=by
 refine CC.eF atg kr (λ_=>kr) ay (by rfl) ?_;have h1:=atu c hc;have h3:=atr c;simp[agY,SE.den];refine⟨_,h1,?_⟩;cases hw:xU c with
 |false=>simp[iE,hw]
 |true=>
  have hl:=acJ hw;have h2:=v148 c[0].toNat;have h0:c.headD 0=c[0]:=by cases c with|nil=>simp at hl|cons=>rfl
  have hn:iE c=(xU c&&rK c[0].toNat&& !HR c):=by rw[<-h0];rfl
  rw[hn];simp[hl];refine⟨_,h2,?_⟩;cases hb:rK c[0].toNat with
  |false=>simp
  |true=>
   simp;exact⟨_,h3,by simp[hw]⟩
def atv(s:List UInt8):CC 192 af [iS s] (iB (HR s)):=by
 refine CC.eF apC kr (λ_=>kr) ay (by rfl) ?_;simp[ace,SE.den,HR]
 grind (splits:=40)
def F0(c:Int):Int:=if rK c then 1 else if Dr c||decide (c=95)then 2 else if decide (48<=c/\c<=57)then 4 else 0
def alk(c:Int):CC 227 af [rI c] (rI (F0 c)):=by
 refine CC.of apB kr kr ay ay ?_;simp[acd,SE.den,F0,rK,Dr]
 grind (splits:=40)
def atw(s:List UInt8):CC 268 af [iS s] (iB (uf s)):=by
 refine CC.eF apD kr (λ_=>kr) ay (by rfl) ?_;simp[acf,SE.den]
 match s with
 |[c]=>
  have hb:CC 280 af [iS [43,45,42,47,37],iS [c]] (.raw (.bool (decide (0<=azt [43,45,42,47,37] c)))):=CC.plain (by rw[jO];decide) (atp _ c) (.raw _) kr;left;refine⟨by simp,_,hb,?_⟩;have i43:=Lib.indexByte_ge;simp[uf,azt];by_cases h1:c=43
  .simp[h1]
  by_cases h2:c=45
  .simp[h2]
  by_cases h3:c=42
  .simp[h3]
  by_cases h4:c=47
  .simp[h4]
  by_cases h5:c=37
  .simp[h5]
  simp[h1,h2,h3,h4,h5,ayz h1,ayz h2,ayz h3,ayz h4,ayz h5]
 |[]=>right;simp[uf]
 |_::_::_=>right;simp[uf];omega
def aiH(c:Int):dc Tryz.prog .and 223 (rI (F0 c)) (rI 7)=aa (rI (F0 c)):=by
 unfold F0;split
 .rfl
 split
 .rfl
 split<;>rfl
def afa(c:Int):dc Tryz.prog .and 223 (rI (F0 c)) (rI 1)=aa (rI (if rK c then 1 else 0)):=by
 unfold F0;split
 .rfl
 split
 .rfl
 split<;>rfl
def ap9(c:Int):F0 c=0↔nQ c=af:=by
 unfold F0 nQ;cases rK c<;>cases Dr c<;>simp
 grind
def M0(c:UInt8)(s:List UInt8):iE (c::s)=(rK c.toNat&&decide (s.length<=39)&&s.all (λc=>nQ c.toNat)&& !HR (c::s)):=by
 unfold iE xU;cases h:rK c.toNat with
 |false=>simp[h]
 |true=>
  have:nQ c.toNat=ab:=by simp[nQ,h]
  simp[h,this,Bool.and_comm]
def XT(s:List UInt8):CC 154 af [iS s] (iB (iE s)):=by
 refine CC.eF atd kr (λ_=>kr) ay (by rfl) ?_;have hr:=atv s;cases s with
 |nil=>simp[aac,SE.den];rfl
 |cons c s'=>
  have ha:=alk (c.toNat:Int);simp[aac,SE.den];by_cases h1:(40:Int)<s'.length+1
  .left;refine⟨h1,?_⟩;rw[M0];simp;omega
  right;refine⟨by omega,_,ha,?_⟩;simp[afa];have hl:(decide (s'.length<=39))=ab:=by simp;omega
  rw[M0,hl];cases h2:rK c.toNat with
  |false=>simp
  |true=>
  simp;refine⟨iS s',?_,⟨_,ali s'⟩,?_⟩
  .have e1:((s'.length:Int)+1).toNat- 1=s'.length:=aj;simp[ie,ay4,e1];omega
  unfold XL;refine HM (λp:Nat=>[.aF [iS s',iI p]]) (λp=>p<=s'.length/\∀u∈s'.take p,nQ u.toNat=ab) (λp=>s'.length- p) 0 ?_ ay λp ⟨hp0,hI⟩=>?_
  .simp[SE.den]
  by_cases hp:p<s'.length
  .have nY:p<(⟨s'.toArray⟩:ByteArray).size:=by simpa[ay4]using hp
   have px:((⟨s'.toArray⟩:ByteArray)[p]'nY)=s'[p]:=by simp[aBE]
   have hn:¬((p:Int)<0):=aj;have fC:nQ s'[p].toNat=af->(∀x∈s',nQ x.toNat=ab)->HR (c::s')=ab:=λh ha=>absurd (ha _ (awd hp)) (by simp[h]);by_cases afb:s'[p].toNat<128
   .have Ds:=decode_ascii ⟨s'.toArray⟩ p nY (by rw[px];exact afb);rw[px]at Ds;have vR:=alk (s'[p].toNat:Int)
    have n_:aBm.wrap (s'[p].toNat:Int)=s'[p].toNat:=by
     simp only[IntKind.wrap,IntKind.bits,IntKind.signed];simp;omega
    simp[SE.den,hp,Ds,hn,n_];by_cases T2:122<(s'[p].toNat:Int)
    .left;exact⟨T2,fC (by simp[nQ,rK,Dr];omega)⟩
    right;refine⟨by omega,_,vR,?_⟩;simp[aiH,ap9];cases hc:nQ s'[p].toNat with
    |false=>simp;exact fC hc
    |true=>simp;exact⟨p+1,by omega,⟨by omega,cI (p:=λu:UInt8=>nQ u.toNat=ab) hp hI hc⟩,by omega⟩
   .obtain⟨wE,uY⟩:=decode_high ⟨s'.toArray⟩ p nY (by rw[px];omega);generalize Ds:axU ⟨s'.toArray⟩ p=dd at wE uY;obtain⟨rn,w⟩:=dd;simp only at wE uY;simp[SE.den,hp,Ds,hn];left;exact⟨by omega,fC (by simp[nQ,rK,Dr];omega)⟩
  .have:=dq hp hI;have ha:(s'.all λc=>nQ c.toNat)=ab:=by simpa using this
   simp[SE.den,hp];exact⟨_,hr,by simp[ha]⟩
end
mutual
def dU:Tm->Bool
 |.mk k n s ts=>if k=0 then decide (-2147483648<=n)&&decide (n<=2147483648)&&s.isEmpty&&ts.isEmpty
  else if k=1 then decide (0<=n)&&decide (n<=1048576)&&s.isEmpty&&ts.isEmpty
  else if k=2 then decide (n=0)&&((uf s&&decide (ts.length=2))||(iE s&&decide (ts.length<=6)))&&Ee ts
  else af
def Ee:List Tm->Bool
 |[]=>ab
 |t::l=>dU t&&Ee l
end
theorem Ab:∀l:List Tm,Ee l=l.all dU
 |[]=>rfl
 |t::l=>by simp[Ee,Ab l]
def XU{t:Tm}(h:t.k=0):dU t=(decide (-2147483648<=t.n)&&decide (t.n<=2147483648)&&t.s.isEmpty&&t.ts.isEmpty):=by
 cases t;simp[Tm.k]at h;subst h;simp[dU,Tm.n,Tm.s,Tm.ts];rfl
def OG{t:Tm}(h:t.k=1):dU t=(decide (0<=t.n)&&decide (t.n<=1048576)&&t.s.isEmpty&&t.ts.isEmpty):=by
 cases t;simp[Tm.k]at h;subst h;simp[dU,Tm.n,Tm.s,Tm.ts];rfl
def OH{t:Tm}(h:t.k=2):dU t=(decide (t.n=0)&&((uf t.s&&decide (t.ts.length=2))||(iE t.s&&decide (t.ts.length<=6)))&&t.ts.all dU):=by
 cases t;simp[Tm.k]at h;subst h;simp[dU,Tm.n,Tm.s,Tm.ts,Ab];rfl
def XV{t:Tm}(h0:t.k≠0)(h1:t.k≠1)(h2:t.k≠2):dU t=af:=by
 cases t;simp[Tm.k]at h0 h1 h2;simp[dU,h0,h1,h2]
def M1{α:Type}{p:α->Bool}{l:List α}{i:Nat}(h:i<l.length)(hp:p l[i]=af):l.all p=af:=aAI.2 ⟨l[i],awd h,by simp[hp]⟩
def ap_(t:Tm)(hs:Sm t.s)(hl:Sm t.ts)(ih:∀u∈t.ts,CC 224 af [er u] (iB (dU u))):CC 224 af [er t] (iB (dU t)):=by
 refine CC.eF apT kr (λ_=>kr) (by simpa using rH t) (by rfl) ?_;rw[bL];have h1:=att t.s;have h2:=v89 t.s hs
 have l2:∀b,b=t.ts.all dU->∀x y,FW.sat Tryz.prog CC (xo (·=b)) [] [.agg [iI t.k,iI t.n,iS t.s,iT t.ts],x,y]:=λb hb x y=>by
  unfold FW;refine ir t.ts.length (λi (_:Unit)=>[iI i]) (λi _=>∀u∈t.ts.take i,dU u=ab) () ?_ ?_ λi _ hi hI=>?_
  .simp[SE.den]
  .simp
  by_cases ak:i<t.ts.length
  .have hw:=aI ak hl;have hb:=ih t.ts[i] (awd ak);rw[bL]at hb;simp only[uK,Uz,Ux,Uy,XH,UA];simp[SE.den,ak,hw,nP ak,bL,ao];refine⟨_,hb,?_⟩;cases hf:dU t.ts[i]<;>simp
   .subst b;exact M1 ak hf
   .exact⟨by omega,cI (p:=λu=>dU u=ab) ak hI hf⟩
  .have:=dq ak hI;simp[SE.den,ak];subst b;simpa using this
 have l1:∀b,b=t.ts.all dU->∀x,KQ.sat Tryz.prog CC (xo (·=b)) [] [.agg [iI t.k,iI t.n,iS t.s,iT t.ts],x]:=λb hb x=>by
  unfold KQ;refine ir t.ts.length (λi (_:Unit)=>[iI i]) (λi _=>∀u∈t.ts.take i,dU u=ab) () ?_ ?_ λi _ hi hI=>?_
  .simp[SE.den]
  .simp
  by_cases ak:i<t.ts.length
  .have hw:=aI ak hl;have hb:=ih t.ts[i] (awd ak);rw[bL]at hb;simp only[uK,Uz,Ux,Uy,XH,UA];simp[SE.den,ak,hw,nP ak,bL,ao];refine⟨_,hb,?_⟩;cases hf:dU t.ts[i]<;>simp
   .subst b;exact M1 ak hf
   .exact⟨by omega,cI (p:=λu=>dU u=ab) ak hI hf⟩
  .have:=dq ak hI;simp[SE.den,ak];subst b;simpa using this
 have e02:UH=FW:=rfl;simp[acu,SE.den,e02,ao];have ee:∀l:List Tm,l.isEmpty=decide (l.length=0):=λl=>by cases l<;>simp
 have em:=aAJ (t.s=[]);by_cases k0:t.k=0
 .left;refine⟨k0,?_⟩;rw[XU k0];simp;grind
 right;refine⟨k0,?_⟩;by_cases k1:t.k=1
 .left;refine⟨k1,?_⟩;rw[OG k1];simp;grind
 right;refine⟨k1,?_⟩;by_cases k2:t.k=2
 .left;refine⟨k2,_,h1,?_⟩;rw[OH k2];by_cases n0:t.n=0
  .cases b1:uf t.s with
   |true=>
    simp[n0];by_cases gg:(t.ts.length:Int)=2
    .right;refine⟨by omega,?_⟩;have BI:t.ts.length=2:=aj;exact n0▸l1 _ (by simp[BI]) _
    .left;have BI:¬t.ts.length=2:=aj;refine⟨by omega,_,h2,?_⟩;cases b2:iE t.s<;>simp[BI];by_cases h6:6<(t.ts.length:Int)
     .left;exact⟨h6,λ_=>by omega⟩
     .right;exact⟨by omega,n0▸l2 _ (by simp;omega) _ _⟩
   |false=>
    simp[n0];refine⟨_,h2,?_⟩;cases b2:iE t.s<;>simp;by_cases h6:6<(t.ts.length:Int)
    .left;exact⟨h6,λ_=>by omega⟩
    .right;exact⟨by omega,n0▸l2 _ (by simp;omega) _ _⟩
  .cases b1:uf t.s<;>simp[n0]
 .right;exact⟨k2,XV k0 k1 k2⟩
theorem alm:∀t:Tm,lX t->CC 224 af [er t] (iB (dU t))
 |.mk k n s ts,h=>ap_ _ ((oP _).1 h).1 ((oP _).1 h).2.1 λu hu=>alm u (((oP _).1 h).2.2 u hu)
 decreasing_by simp[Tm.ts]at hu;have:=axf hu;simp;omega
mutual
def jC:Tm->Nat
 |.mk k _ _ ts=>if k=2 then cQ ts+1 else 1
def cQ:List Tm->Nat
 |[]=>0
 |t::l=>jC t+cQ l
end
mutual
def zu:Tm->Nat
 |.mk k _ _ ts=>if k=2 then iJ ts+1 else 1
def iJ:List Tm->Nat
 |[]=>0
 |t::l=>max (zu t) (iJ l)
end
def tJ(t:Tm):jC t=cQ (bX t)+1:=by
 obtain⟨k,n,s,ts⟩:=t;show jC (.mk k n s ts)=cQ (if k=2 then ts else[])+1;by_cases hk:k=2<;>simp[jC,hk,cQ]
def HS(t:Tm):zu t=iJ (bX t)+1:=by
 obtain⟨k,n,s,ts⟩:=t;show zu (.mk k n s ts)=iJ (if k=2 then ts else[])+1;by_cases hk:k=2<;>simp[zu,hk,iJ]
def xV(a b:List Tm):cQ (a++b)=cQ a+cQ b:=by
 induction a with
 |nil=>simp[cQ]
 |cons t l ih=>simp[cQ,ih];omega
def Wz(a b:List Tm):iJ (a++b)=max (iJ a) (iJ b):=by
 induction a with
 |nil=>simp[iJ]
 |cons t l ih=>simp[iJ,ih]
def F1{t:Tm}{l:List Tm}(h:t∈l):jC t<=cQ l:=by
 induction l with
 |nil=>cases h
 |cons u l ih=>rcases aws.1 h with rfl|h
               .simp[cQ]
               .have:=ih h;simp[cQ];omega
def KZ{t:Tm}{l:List Tm}(h:t∈l):zu t<=iJ l:=by
 induction l with
 |nil=>cases h
 |cons u l ih=>rcases aws.1 h with rfl|h
               .simp[iJ];omega
               .have:=ih h;simp[iJ];omega
def XW(t:Tm):1<=jC t:=by rw[tJ];omega
def aiI(t:Tm):1<=zu t:=by rw[HS];omega
def aiJ{t u:Tm}(h:u∈bX t):jC u<jC t:=by
 have:=F1 h;rw[tJ t];omega
def XX(l:List Tm)(h:∀t∈l,zu t<=jC t):iJ l<=cQ l:=by
 induction l with
 |nil=>simp[iJ]
 |cons t l ih=>have:=h t ay;have:=ih λu hu=>h u (by simp[hu]);simp[iJ,cQ];omega
theorem acL:∀t:Tm,zu t<=jC t
 |.mk k n s ts=>by
  have h:=XX (bX (.mk k n s ts)) λu hu=>acL u;rw[tJ,HS];omega
 decreasing_by have:=rJ hu;simp[Tm.ts]at this;have:=axf this;simp;omega
theorem U4:∀(l:List Tm) (acc:Nat),(∀t∈l,sC t=jC t)->acc+cQ l<=1000000000000->wm acc l=((acc+cQ l:Nat):Int)
 |[],acc,_,_=>by simp[wm,cQ]
 |t::l,acc,h,hb=>by
  simp only[cQ]at hb⊢;rw[wm,h t ay,eT aj aj];have:=U4 l (acc+jC t) (λu hu=>h u (by simp[hu])) aj;rw[show((acc:Int)+(jC t:Int))=((acc+jC t:Nat):Int) by simp,this]
  congr 1;omega
theorem HT:∀t:Tm,jC t<=1000000000000->sC t=jC t
 |.mk k n s ts,hb=>by
  have h:=U4 (bX (.mk k n s ts)) 1 (λu hu=>HT u (by have:=aiJ hu;omega)) (by rw[tJ]at hb;omega);rw[U0,tJ,show(1:Int)=((1:Nat):Int)from rfl,h]
  congr 1;omega
 decreasing_by have:=rJ hu;simp[Tm.ts]at this;have:=axf this;simp;omega
def aln(a b:Int):Nq Tryz.prog [iI a,iI b]=aa (iI (if b>a then b else a)):=rfl
def HU{l:List Tm}{i:Nat}(h:i<l.length):iJ (l.take (i+1))=max (iJ (l.take i)) (zu l[i]):=by
 rw[awh h,Wz];simp[iJ]
def HV{l:List Tm}{i:Nat}(h:i<l.length):cQ (l.take (i+1))=cQ (l.take i)+jC l[i]:=by
 rw[awh h,xV];simp[cQ]
def HW(l:List Tm)(i:Nat):cQ (l.take i)<=cQ l:=by
 have:=xV (l.take i) (l.drop i);rw[axn]at this;omega
def BT(t:Tm):Prop:=lX t/\jC t<=1000000000000
def QB(l:List Tm):Prop:=Sm l/\(∀t∈l,lX t)/\cQ l<=1000000000000
def QB.at{l:List Tm}(h:QB l){t:Tm}(ht:t∈l):BT t:=⟨h.2.1 t ht,by have:=F1 ht;have:=h.2.2;omega⟩
def BT.args{t:Tm}(h:BT t):QB (bX t):=by
 have h1:=(oP t).1 h.1;have h2:=tJ t;refine⟨?_,λu hu=>h1.2.2 u (rJ hu),by have:=h.2;omega⟩;unfold bX;split
 .exact h1.2.1
 .simp
def aqa(t:Tm)(h:BT t)(ih:∀u∈bX t,CC 225 af [er u] (iI (zu u))):CC 225 af [er t] (iI (zu t)):=by
 refine CC.of apV kr kr (by simpa using rH t) ay ?_;have K3:=ae9 t;rw[bL]at K3⊢;simp[acw,UI,SE.den,ao];refine⟨_,K3,?_⟩;have ey:(bX t).length<=9223372036854775807:=h.args.1;have hdl:iJ (bX t)<=1000000000000:=awy (XX _ λu _=>acL u) h.args.2.2;refine⟨by simp,?_⟩;refine ir (bX t).length (λi (a:Int)=>[iI i,iI a]) (λi a=>a=iJ ((bX t).take i)) 0 ?_ ?_ λi a hi ha=>?_
 .simp[SE.den]
 .simp[iJ]
 by_cases ak:i<(bX t).length
 .have hw:=aI ak ey;have hb:=ih (bX t)[i] (awd ak);rw[bL]at hb;simp[SE.den,ak,hw,nP ak,bL,ao];refine⟨_,hb,?_⟩;simp[SE.den,aln,aN,hw];have g1:=HU ak;refine⟨?_,by omega⟩;rw[g1,ha];split<;>omega
 .have:(bX t).take i=bX t:=awr aj;rw[this]at ha;have n_:awK.wrap (a+1)=a+1:=eT aj aj;simp[SE.den,ak,n_];rw[HS,ha];simp
theorem alo:∀t:Tm,BT t->CC 225 af [er t] (iI (zu t))
 |.mk k n s ts,h=>aqa _ h λu hu=>alo u (h.args.at hu)
 decreasing_by have:=rJ hu;simp[Tm.ts]at this;have:=axf this;simp;omega
def my(t:Tm):Bool:=dU t&&decide (jC t<=200)&&decide (zu t<=20)
def lj(l:List Tm):Bool:=l.all dU&&decide (cQ l<=200)&&decide (iJ l<=20)
def lk(a:At):Bool:=iE a.s&&decide (a.ts.length<=6)&&lj a.ts
def fx(g:Gl):Bool:=if g.op=0 then lk ⟨g.s,g.ts⟩else g.s.isEmpty&&decide (jB g.op=g.ts.length)&&lj g.ts
def atx(t:Tm)(h:BT t):CC 183 af [er t] (iB (my t)):=by
 refine CC.eF apS kr (λ_=>kr) (by simpa using rH t) (by rfl) ?_;have h1:=alm t h.1;have h2:=aae t h.1.wf;have h3:=alo t h;rw[HT t h.2]at h2;rw[bL]at h1 h2 h3⊢;simp[acr,SE.den,ao];refine⟨_,h1,?_⟩;cases hf:dU t<;>simp[my,hf];refine⟨_,h2,?_⟩;simp;by_cases hs:jC t<=200
 .left;exact⟨by omega,_,h3,by simp[hs];omega⟩
 .right;exact⟨by omega,λh=>absurd h hs⟩
def acM{l:List Tm}{i:Nat}(h:i<l.length)(hp:my l[i]=af):lj l=af:=by
 have hm:=awd h;have h1:=F1 hm;have h2:=KZ hm;cases hf:dU l[i]with
 |false=>simp[lj,M1 h hf]
 |true=>
  simp[my,hf]at hp;simp[lj];intro _ _;have:=hp;omega
def v107(l:List Tm)(h:QB l):CC 138 af [iT l] (iB (lj l)):=by
 refine CC.eF apR kr (λ_=>kr) ay (by rfl) ?_;simp[acq,UG,SE.den,ao];refine ir l.length (λi (a:Int)=>[iI i,iI a]) (λi a=>a=cQ (l.take i)/\(∀u∈l.take i,dU u=ab)/\iJ (l.take i)<=20) 0 ?_ ?_ λi a hi hI=>?_
 .simp[SE.den]
 .simp[cQ,iJ]
 by_cases ak:i<l.length
 .have hw:=aI ak h.1;have hm:=awd ak;have hb:=atx l[i] (h.at hm);have h2:=aae l[i] (h.at hm).1.wf;rw[HT _ (h.at hm).2]at h2;rw[bL]at hb h2;simp[SE.den,ak,hw,nP ak,bL,ao];refine⟨_,hb,?_⟩;cases hr:my l[i]<;>simp
  .exact acM ak hr
  refine⟨_,h2,?_⟩;have qt:=hr;simp[my]at qt;have g1:=HV ak;have g2:=HW l (i+1);have g3:=h.2.2;have n_:awK.wrap (a+jC l[i])=a+jC l[i]:=by rw[hI.1];exact eT aj aj
  simp[hw,n_];refine⟨by omega,by rw[g1,hI.1];simp,cI (p:=λu=>dU u=ab) ak hI.2.1 qt.1.1,?_⟩;rw[HU ak];have:=hI.2.2;omega
 .have ht:l.take i=l:=awr aj;rw[ht]at hI;obtain⟨h1,h2,h3⟩:=hI;have wH:l.all dU=ab:=by simpa using h2
  simp[SE.den,ak,lj,wH,h3];subst a;by_cases hs:cQ l<=200<;>simp[hs]
  .omega
  .omega
def v49(a:At)(hs:Sm a.s)(h:QB a.ts):CC 75 af [.agg [iS a.s,iT a.ts]] (iB (lk a)):=by
 refine CC.eF atj kr (λ_=>kr) (by intro x hx;obtain rfl:=awo.1 hx;exact Cw a) (by rfl) ?_;have h1:=v89 a.s hs;have h2:=v107 a.ts h;simp[ag1,SE.den,ao];refine⟨_,h1,?_⟩;cases hn:iE a.s<;>simp[lk,hn];by_cases hs:a.ts.length<=6
 .left;exact⟨by omega,_,h2,by simp[hs]⟩
 .right;exact⟨by omega,λh=>absurd h hs⟩
def v152(g:Gl)(hs:Sm g.s)(h:QB g.ts):CC 76 af [.agg [iI g.op,iS g.s,iT g.ts]] (iB (fx g)):=by
 refine CC.eF apW kr (λ_=>kr) (by intro x hx;obtain rfl:=awo.1 hx;exact HQ g) (by rfl) ?_;have h1:=v49 ⟨g.s,g.ts⟩ hs h;have h2:=v107 g.ts h;have h3:=ato g.op;simp[acx,SE.den,ao];by_cases k0:g.op=0
 .left;exact⟨k0,_,h1,by simp[fx,k0]⟩
 right;refine⟨k0,?_⟩;by_cases ks:g.s=[]
 .left;refine⟨ks,_,h3,?_⟩;simp;by_cases ka:jB g.op=g.ts.length
  .left;exact⟨ka,_,h2,by simp[fx,k0,ka,ks]⟩
  .right;exact⟨ka,by simp[fx,k0,ka]⟩
 .right;exact⟨ks,by simp[fx,k0,ks]⟩
def ag3(p:Bool->Int->Prop)(z:IV):Prop:=∃(b:Bool) (n:Int),z=.aF [iB b,.agg [iI n]]/\p b n
@[simp] theorem avi(p:Bool->Int->Prop)(b:Bool)(n:Int):ag3 p (.aF [iB b,.agg [iI n]])↔p b n:=
  ⟨λ⟨b',n',h1,h2⟩=>by cases h1;exact h2,λh=>⟨b,n,rfl,h⟩⟩
def CC.XZ{n:Nat}{f:Nat}{di:aq}{m:Int}{xs:List IV}{cfg:fe}{s:Bool}{r:Int}(he:xk Tryz.prog cfg n [1] f=di)(hl:(Tryz.prog.funcs[f]?).map (·.params.size)=aa (1+xs.length))(hn:noTwo di=ab)
 (hs:di.sat Tryz.prog CC (ag3 λb k=>b=s/\(b=ab->k=r)) [] (iI m::xs)):∃k:Int,(s=ab->k=r)/\CC (612+f) ab (.agg [.agg [iI m]]::xs) (.aF [iB s,.agg [iI k]]):=by
 obtain⟨z,⟨b,k,rfl,rfl,hb⟩,h2⟩:=KX hn hs;refine⟨k,hb,?_⟩;have h:=CC.agT (new:=ab) (ins:=[[iI m]]) (outs:=[[iI k]]) (xs:=xs) (z:=iB b) (cfg:=cfg) (n:=n) (f:=f) he hl rfl (by simp[ao]) h2;rw[jO]at h;exact h
def sR(t:Tm)(n d:Int):Bool:=dU t&&decide ((jC t:Int)<=n)&&decide ((zu t:Int)<=d)
def CB(l:List Tm)(n d:Int):Bool:=l.all dU&&decide ((cQ l:Int)<=n)&&decide ((iJ l:Int)<=d)
def alp{l:List Tm}{i:Nat}{n d:Int}(h:i<l.length)(hp:sR l[i] (n- cQ (l.take i)) d=af):CB l n d=af:=by
 have hm:=awd h;have h2:=KZ hm;have g1:=HV h;have g2:=HW l (i+1);cases hf:dU l[i]with
 |false=>simp[CB,M1 h hf]
 |true=>
  simp[sR,hf]at hp;simp[CB];intro _ _;have:=hp;omega
def ag4(l:List Tm)(hl:Sm l)(d:Int)(hd:0<=d)(ih:∀u∈l,∀n:Int,0<=n->n<=1000->∃k:Int,(sR u n d=ab->k=n- jC u)/\CC 859 ab [.agg [.agg [iI n]],er u,iI d] (.aF [iB (sR u n d),.agg [iI k]]))(n:Int)(hn:0<=n)(dW:n<=1000):
 ∃k:Int,(CB l n d=ab->k=n- cQ l)/\CC 821 ab [.agg [.agg [iI n]],iT l,iI d] (.aF [iB (CB l n d),.agg [iI k]]):=by
 refine CC.XZ (f:=209) (xs:=[iT l,iI d]) apF kr (by rfl) ?_;simp[ach,SE.den,ao];unfold UE;refine aC l.length (λi (a:Int)=>[iI i,iI a]) (λi a=>a=n- cQ (l.take i)/\0<=a/\(∀u∈l.take i,dU u=ab)/\(iJ (l.take i):Int)<=d) n ?_ (by simp[cQ,iJ,hn,hd]) λi a hi hI=>?_
 .simp[SE.den]
 by_cases ak:i<l.length
 .have hw:=aI ak hl;obtain⟨fQ,jd,sS,hI4⟩:=hI;obtain⟨k,hp,hb⟩:=ih l[i] (awd ak) a jd aj;rw[bL]at hb;simp[SE.den,ak,hw,nP ak,bL,ao];refine⟨_,hb,?_⟩;cases hr:sR l[i] a d<;>simp[aN,ao]
  .exact alp ak (fQ▸hr)
  .have qt:=hr;simp[sR]at qt;have g1:=HV ak;have g2:=HU ak;have hk:=hp hr;exact .mk k rfl aj ⟨by omega,by omega,cI (p:=λu=>dU u=ab) ak sS qt.1.1,by omega⟩
 .have ht:l.take i=l:=awr aj;rw[ht]at hI;obtain⟨h1,h2,h3,h4⟩:=hI;have JF:l.all dU=ab:=by simpa using h3
  simp[SE.den,ak,aN];refine⟨?_,h1⟩;simp[CB,JF,h4];omega
def OI{t:Tm}(h:t.k=2):bX t=t.ts:=by simp[bX,h]
def OJ{t:Tm}(h:t.k≠2):bX t=[]:=by simp[bX,h]
def sz1{t:Tm}(h:t.k≠2):jC t=1:=by simp[tJ,OJ h,cQ]
def dp1{t:Tm}(h:t.k≠2):zu t=1:=by simp[HS,OJ h,iJ]
def aaf{t:Tm}(h:t.k≠2)(n d:Int)(h1:1<=n)(h2:1<=d):sR t n d=dU t:=by
 have e1:decide (((1:Nat):Int)<=n)=ab:=by simp;omega
 have e2:decide (((1:Nat):Int)<=d)=ab:=by simp;omega
 rw[sR,sz1 h,dp1 h,e1,e2];simp
def aqb{t:Tm}(h:t.k=2)(n d:Int):sR t n d=(decide (t.n=0)&&((uf t.s&&decide (t.ts.length=2))||(iE t.s&&decide (t.ts.length<=6)))&&CB t.ts (n- 1) (d- 1)):=by
 have e1:decide ((jC t:Int)<=n)=decide ((cQ t.ts:Int)<=n- 1):=by rw[tJ,OI h];simp;omega
 have e2:decide ((zu t:Int)<=d)=decide ((iJ t.ts:Int)<=d- 1):=by rw[HS,OI h];simp;omega
 rw[sR,e1,e2,OH h,CB];simp only[Bool.and_assoc]
def aqc(t:Tm)(hs:Sm t.s)(hl:Sm t.ts)(d:Int)(ih:1<=d->∀u∈t.ts,∀n:Int,0<=n->n<=1000->∃k:Int,(sR u n (d- 1)=ab->k=n- jC u)/\CC 859 ab [.agg [.agg [iI n]],er u,iI (d- 1)] (.aF [iB (sR u n (d- 1)),.agg [iI k]]))(n:Int)(hn:0<=n)(dW:n<=1000)(AF:0<=d)(Jv:d<=1000):
 ∃k:Int,(sR t n d=ab->k=n- jC t)/\CC 859 ab [.agg [.agg [iI n]],er t,iI d] (.aF [iB (sR t n d),.agg [iI k]]):=by
 refine CC.XZ (f:=247) (xs:=[er t,iI d]) apE kr (by rfl) ?_;rw[bL];have h1:=XT t.s;have h2:=atw t.s;have w1:awK.wrap (n- 1)=n- 1:=eT aj aj;have w2:awK.wrap (d- 1)=d- 1:=eT aj aj;simp[acg,SE.den,ao,aN,w1,w2];have hz:=XW t;have hq:=aiI t;by_cases y0:n- 1<0
 .left;refine⟨y0,?_⟩;simp[sR];omega
 right;refine⟨by omega,?_⟩;by_cases y1:d<1
 .left;refine⟨y1,?_⟩;simp[sR];omega
 right;refine⟨by omega,?_⟩;obtain⟨k3,hp3,h3⟩:=ag4 t.ts hl (d- 1) aj (ih aj) (n- 1) aj aj;have ee:t.ts.isEmpty=decide (t.ts.length=0):=by cases t.ts<;>simp
 have es:t.s.isEmpty=decide (t.s=[]):=by cases t.s<;>simp
 have em:=aAJ (t.s=[]);by_cases k0:t.k=0
 .left;refine⟨k0,?_⟩;have k2:t.k≠2:=aj;rw[aaf k2 n d aj aj,XU k0,sz1 k2];rw[ee,es];clear ih h3 hp3 h1 h2 w1 w2;simp;grind
 right;refine⟨k0,?_⟩;by_cases k1:t.k=1
 .left;refine⟨k1,?_⟩;have k2:t.k≠2:=aj;rw[aaf k2 n d aj aj,OG k1,sz1 k2];rw[ee,es];clear ih h3 hp3 h1 h2 w1 w2;simp;grind
 right;refine⟨k1,?_⟩;by_cases k2:t.k=2
 rotate_left
 .right;refine⟨k2,?_⟩;rw[aaf k2 n d aj aj,XV k0 k1 k2]
 left;refine⟨k2,?_⟩
 have Da:∀b:Bool,sR t n d=(b&&CB t.ts (n- 1) (d- 1))->b=ab->CB t.ts (n- 1) (d- 1)=sR t n d/\(CB t.ts (n- 1) (d- 1)=ab->k3=n- jC t):=λb e1 e2=>by
  subst e2;refine⟨by simp[e1],λh=>?_⟩;rw[hp3 h,tJ,OI k2];simp;omega
 rw[aqb k2]at Da⊢;by_cases n0:t.n=0
 rotate_left
 .left;simp[n0]
 right;refine⟨n0,?_⟩;by_cases z6:(6:Int)<t.ts.length
 .left;have:¬t.ts.length<=6:=aj;have:¬t.ts.length=2:=aj;simp[*]
 have z6':t.ts.length<=6:=aj;right;refine⟨by omega,_,h1,?_⟩;cases b1:iE t.s with
 |true=>
  simp[b1,n0,z6']at Da⊢;exact⟨_,h3,by simp[ao,aN];exact Da⟩
 |false=>
  simp;refine⟨_,h2,?_⟩;cases b2:uf t.s with
  |false=>simp
  |true=>
   simp;by_cases z2':t.ts.length=2
   .simp[b1,b2,n0,z2']at Da⊢;exact⟨_,h3,by simp[ao,aN];exact Da⟩
   .left;exact⟨by omega,λ_ h=>absurd h z2'⟩
theorem v159:∀t:Tm,lX t->∀n d:Int,0<=n->n<=1000->0<=d->d<=1000->∃k:Int,(sR t n d=ab->k=n- jC t)/\CC 859 ab [.agg [.agg [iI n]],er t,iI d] (.aF [iB (sR t n d),.agg [iI k]])
 |.mk k n s ts,h=>λn d h1 h2 h3 h4=>by
  exact aqc _ ((oP _).1 h).1 ((oP _).1 h).2.1 d (λhd u hu n a b=>v159 u (((oP _).1 h).2.2 u hu) n (d- 1) a b aj aj) n h1 h2 h3 h4
 decreasing_by simp[Tm.ts]at hu;have:=axf hu;simp;omega
def alq(l:List Tm)(hl:Sm l)(h:∀t∈l,lX t)(n d:Int)(h1:0<=n)(h2:n<=1000)(h3:0<=d)(h4:d<=1000):
 ∃k:Int,CC 821 ab [.agg [.agg [iI n]],iT l,iI d] (.aF [iB (CB l n d),.agg [iI k]]):=by
 obtain⟨k,_,h⟩:=ag4 l hl d h3 (λu hu n a b=>v159 u (h u hu) n d a b h3 h4) n h1 h2;exact⟨k,h⟩
def QC(l:List Tm):CB l 200 20=lj l:=by
 have e1:∀a b:Nat,decide ((a:Int)<=b)=decide (a<=b):=λa b=>by simp
 rw[CB,lj,show(200:Int)=((200:Nat):Int)from rfl,show(20:Int)=((20:Nat):Int)from rfl,e1,e1]
def v45(a:At)(h:pZ a):CC 194 af [.agg [iS a.s,iT a.ts]] (iB (lk a)):=by
 refine CC.eF ate kr (λ_=>kr) (by intro x hx;obtain rfl:=awo.1 hx;exact Cw a) (by rfl) ?_;have h1:=XT a.s;obtain⟨k2,h2⟩:=alq a.ts h.2.1 h.2.2 200 20 aj aj aj aj;rw[QC]at h2;simp[agX,SE.den,ao];refine⟨_,h1,?_⟩;cases hn:iE a.s<;>simp[lk,hn];by_cases hs:a.ts.length<=6
 .left;exact⟨by omega,_,h2,by simp[ao,hs]⟩
 .right;exact⟨by omega,λh=>absurd h hs⟩
def v138(g:Gl)(h:qO g):CC 166 af [.agg [iI g.op,iS g.s,iT g.ts]] (iB (fx g)):=by
 refine CC.eF apH kr (λ_=>kr) (by intro x hx;obtain rfl:=awo.1 hx;exact HQ g) (by rfl) ?_;have h1:=XT g.s;obtain⟨k2,h2⟩:=alq g.ts h.2.1 h.2.2 200 20 aj aj aj aj;rw[QC]at h2;have es:g.s.isEmpty=decide (g.s=[]):=by cases g.s<;>simp
 have ez:(g.ts=[])=(g.ts.length=0):=by cases g.ts<;>simp
 simp[aci,SE.den,ao];by_cases k0:g.op=0
 .left;refine⟨k0,_,h1,?_⟩;cases hn:iE g.s<;>simp[fx,k0,lk,hn];by_cases h6:g.ts.length<=6
  .left;exact⟨by omega,_,h2,by simp[ao,h6]⟩
  .right;exact⟨by omega,λh=>absurd h h6⟩
 right;refine⟨k0,?_⟩;have hG:∀A:Int,jB g.op=A->fx g=(decide (g.s=[])&&decide (A=g.ts.length)&&lj g.ts):=λA e=>by simp only[fx,k0,if_false,es,e]
 by_cases k1:g.op=1
 .left;refine⟨k1,?_⟩;left;refine⟨by omega,?_⟩;left;refine⟨by omega,?_⟩;have gA:=hG 0 (by simp[jB,k1]);by_cases ks:g.s=[]
  .left;refine⟨ks,?_⟩;by_cases kt:g.ts=[]
   .left;exact⟨kt,_,h2,by simp[ao,gA,ks,kt]⟩
   .right;exact⟨kt,by rw[gA];have:¬(0:Int)=g.ts.length:=λe=>kt (awG aj);simp[this]⟩
  .right;exact⟨ks,by simp[gA,ks]⟩
 right;refine⟨k1,?_⟩;by_cases k2:g.op=2
 .left;refine⟨k2,?_⟩;left;refine⟨by omega,?_⟩;left;refine⟨by omega,?_⟩;have gA:=hG 0 (by simp[jB,k2]);by_cases ks:g.s=[]
  .left;refine⟨ks,?_⟩;by_cases kt:g.ts=[]
   .left;exact⟨kt,_,h2,by simp[ao,gA,ks,kt]⟩
   .right;exact⟨kt,by rw[gA];have:¬(0:Int)=g.ts.length:=λe=>kt (awG aj);simp[this]⟩
  .right;exact⟨ks,by simp[gA,ks]⟩
 right;refine⟨k2,?_⟩;by_cases M3:g.op=11
 .left;refine⟨M3,?_⟩;left;refine⟨by omega,?_⟩;left;refine⟨by omega,?_⟩;have gA:=hG 1 (by simp[jB,M3]);by_cases ks:g.s=[]
  .left;refine⟨ks,?_⟩;by_cases kt:(g.ts.length:Int)=1
   .left;exact⟨kt,_,h2,by simp[ao,gA,ks,kt]⟩
   .right;exact⟨kt,by rw[gA];simp[ks];omega⟩
  .right;exact⟨ks,by simp[gA,ks]⟩
 right;refine⟨M3,?_⟩;by_cases U5:g.op=12
 .left;refine⟨U5,?_⟩;left;refine⟨by omega,?_⟩;left;refine⟨by omega,?_⟩;have gA:=hG 1 (by simp[jB,U5]);by_cases ks:g.s=[]
  .left;refine⟨ks,?_⟩;by_cases kt:(g.ts.length:Int)=1
   .left;exact⟨kt,_,h2,by simp[ao,gA,ks,kt]⟩
   .right;exact⟨kt,by rw[gA];simp[ks];omega⟩
  .right;exact⟨ks,by simp[gA,ks]⟩
 right;refine⟨U5,?_⟩;by_cases p0:0<g.op
 rotate_left
 .right;refine⟨by omega,?_⟩;have:¬(2<g.op/\g.op<11):=aj;rw[hG (-1) (by simp[jB,k1,k2,M3,U5,this])];simp;try omega
 left;refine⟨p0,?_⟩;by_cases p12:g.op<=12
 rotate_left
 .right;refine⟨by omega,?_⟩;have:¬(2<g.op/\g.op<11):=aj;rw[hG (-1) (by simp[jB,k1,k2,M3,U5,this])];simp;try omega
 left;refine⟨p12,?_⟩;have hp:2<g.op/\g.op<11:=aj;have gA:=hG 2 (by simp[jB,k1,k2,M3,U5,hp]);by_cases ks:g.s=[]
 .left;refine⟨ks,?_⟩;by_cases kt:(g.ts.length:Int)=2
  .left;exact⟨kt,_,h2,by simp[ao,gA,ks,kt]⟩
  .right;exact⟨kt,by rw[gA];simp[ks];omega⟩
 .right;exact⟨ks,by simp[gA,ks]⟩
def Vr(l:List Int):Prop:=l.Nodup/\∀x∈l,0<=x/\x<=1048576
theorem acN:∀(N:Nat) (l:List Int),l.Nodup->(∀x∈l,0<=x/\x<N)->l.length<=N
 |0,[],_,_=>by simp
 |0,x::l,_,h=>by have:=h x ay;omega
 |N+1,l,hn,h=>by
  have ih:=acN N (l.erase (N:Int)) (hn.erase _) λx hx=>by
   have h1:=h x (aAf hx);have h2:x≠(N:Int):=λhe=>by rw[hn.mem_erase_iff]at hx;exact hx.1 he
   omega
  rw[aAK]at ih;split at ih<;>omega
def Vr.len{l:List Int}(h:Vr l):l.length<=1048577:=acN 1048577 l h.1 λx hx=>by have:=h.2 x hx;omega
def Vr.nil:Vr []:=⟨by simp,by simp⟩
def Vr.snoc{l:List Int}{n:Int}(h:Vr l)(h1:n∉l)(h2:0<=n/\n<=1048576):Vr (l++[n]):=by
 refine⟨?_,λx hx=>?_⟩
 .rw[ayD];exact⟨h.1,by simp,λa ha b hb=>by simp at hb;subst hb;exactλhe=>h1 (he▸ha)⟩
 .rcases awm.1 hx with hx|hx
  .exact h.2 x hx
  .simp at hx;subst hx;exact h2
def aqd:Tryz.prog.funcs.size=306:=by kernel_rfl
def y8(p:List Int->Prop)(z:IV):Prop:=∃l:List Int,z=iL l/\p l
def alr{a b:List Int}(h:iL a=iL b):a=b:=by
 injection h with _ h2
 exact(List.map_inj_right (λx y hh=>by injection hh with hh;injection hh)).1 h2
@[simp] theorem Av(p:List Int->Prop)(l:List Int):y8 p (iL l)↔p l:=⟨λ⟨b',h1,h2⟩=>by rw[alr h1];exact h2,λh=>⟨l,rfl,h⟩⟩
def CC.als{n:Nat}{new:Bool}{f:FuncId}{di:aq}{cfg:fe}{l:List Int}{xs:List IV}(p:List Int->Prop)(he:Au Tryz.prog cfg n 1 f=di)(hl:(Tryz.prog.funcs[f]?).map (·.params.size)=aa (xs.length+1))(hn:noTwo di=ab)
 (hs:di.sat Tryz.prog CC (y8 p) [] (iL l::xs)):∃l',p l'/\CC (306+f) new (iL l::xs) (iL l'):=by
 obtain⟨z,⟨l',rfl,hp⟩,h2⟩:=KX hn hs;refine⟨l',hp,?_⟩;rw[<-aqd];exact CC.ofRow he hl h2
def CC.aty{n:Nat}{new:Bool}{f:FuncId}{di:aq}{cfg:fe}{args:List IV}(p:List Int->Prop)(he:aQ Tryz.prog cfg n new f=di)(hl:(Tryz.prog.funcs[f]?).map (·.params.size)=aa args.length)(ht:∀z,oq Tryz.prog f z=ab)(hp:∀x∈args,Pure x)(hn:noTwo di=ab)
 (hs:di.sat Tryz.prog CC (y8 p) [] args):∃l',p l'/\CC f new args (iL l'):=by
 obtain⟨z,⟨l',rfl,hb⟩,h2⟩:=CC.HO he hl (λz _=>ht z) hp (by rintro _ ⟨b,rfl,_⟩;exact Ec b) hn hs;exact⟨l',hb,h2⟩
def alu:aQ Tryz.prog (f_ [⟨0,140,3,[(0,(3,0)),(0,(4,0))],[(0,0)],[],[]⟩]) 400 ab 140=MX:=by kernel_rfl
section
variable{Q:IV->Prop}{k0 k1 k2 k3 k4 k5:List IV->Prop}
def py{l:List At}{i:Nat}(h:i<l.length):cq 2 (c_ l) (iI (i:Nat))=aa (.agg [iS l[i].s,iT l[i].ts]):=atm h
def RU{a b:List At}(h:a.length+b.length<=1000):dg 2 40 (c_ a) (c_ b)=aa (c_ (a++b)):=by
 have h2:fV 2 (b.map dH)=ab:=by
  unfold fV;rw[awt];intro e he;obtain⟨x,_,rfl⟩:=awB.1 he;rfl
 simp[dg,h2];omega
end
def Ad{α:Type}{s:Nat}{enc:α->IV}(h:∀a,∃cs,enc a=.agg cs/\cs.length=s/\cs.all ao=ab)(l:List α):fV s (l.map enc)=ab:=by
 unfold fV;rw[awt];intro e he;obtain⟨x,_,rfl⟩:=awB.1 he;obtain⟨cs,h1,h2,h3⟩:=h x;rw[h1];simp only[cellsOf,awb,beq_iff_eq];exact⟨h2,h3⟩
section
section sorting
variable{α:Type}{lt:α->α->Bool}
end sorting
end
def ag5{a b:List Gl}(h:a.length+b.length<=1000):dg 3 48 (gK a) (gK b)=aa (gK (a++b)):=by
 have h2:=Ad (s:=3) (enc:=lH) (λx=>⟨_,rfl,rfl,rfl⟩) b;simp[dg,h2];omega
def cu(r:Rl):cU r=.agg [iS r.name,c_ r.aw,c_ r.az,gK r.aG,gK r.bc,iI r.vars]:=rfl
def aag(r:Rl)(h:r.aw.length+r.az.length<=1000):CC 73 af [cU r] (c_ (r.aw++r.az)):=by
 refine CC.of apP kr kr (by simpa using jn r) ay ?_;have h1:=RU (a:=[]) (b:=r.aw) (by simp;omega);have h2:=RU h;simp only[axp,ayf]at h1;rw[cu];simp[aco,SE.den,ao];exact⟨_,h1,h2⟩
def afc(r:Rl)(h:r.aG.length+r.bc.length<=1000):CC 74 af [cU r] (gK (r.aG++r.bc)):=by
 refine CC.of apQ kr kr (by simpa using jn r) ay ?_;have h1:=ag5 (a:=[]) (b:=r.aG) (by simp;omega);have h2:=ag5 h;simp only[axp,ayf]at h1;rw[cu];simp[acp,SE.den,ao];exact⟨_,h1,h2⟩
def aiK(x:Tm):∃cs,er x=.agg cs/\cs.length=4/\cs.all ao=ab:=⟨_,bL x,rfl,rfl⟩
def RV{a b:List Tm}(h:a.length+b.length<=1000):dg 4 56 (iT a) (iT b)=aa (iT (a++b)):=by
 have h2:=Ad (s:=4) (enc:=er) aiK b;simp[dg,h2];omega
def y9{l:List Rl}{i:Nat}(h:i<l.length):cq 6 (mw l) (iI (i:Nat))=aa (.agg [iS l[i].name,c_ l[i].aw,c_ l[i].az,gK l[i].aG,gK l[i].bc,iI l[i].vars]):=cP (by simp[h,cU]) rfl
def lI{l:List Int}{i:Nat}(h:i<l.length):cq 1 (iL l) (iI (i:Nat))=aa (iI l[i]):=MW (by simp[h])
structure oa(r:Rl):Prop where
 h:r.aw.length+r.az.length<=3
 g:r.aG.length<=6
 b:r.bc.length<=6
 hs:∀a∈r.aw++r.az,a.ts.length<=8
 gs:∀a∈r.aG++r.bc,a.ts.length<=8
structure qP(r:Rl):Prop where
 n:Sm r.name
 hs:∀a∈r.aw++r.az,pZ a
 gs:∀a∈r.aG++r.bc,qO a
def WF(t:Tm):Prop:=Cy t/\dM t
structure lY(r:Rl):Prop where
 hs:∀a∈r.aw++r.az,∀t∈a.ts,WF t
 gs:∀a∈r.aG++r.bc,(a.op≠0->jB a.op=a.ts.length)/\∀t∈a.ts,WF t
def K4(a b:Int):dc Tryz.prog .neq 38 (iI a) (iI b)=aa (iB (a !=b)):=rfl
def wo(p:Int->Prop)(z:IV):Prop:=∃b:Int,z=iI b/\p b
@[simp] theorem avj(p:Int->Prop)(b:Int):wo p (iI b)↔p b:=⟨λ⟨b',h1,h2⟩=>by cases h1;exact h2,λh=>⟨b,rfl,h⟩⟩
def CC.HX{n:Nat}{new:Bool}{f:FuncId}{di:aq}{args:List IV}{cfg:fe}(p:Int->Prop)(he:aQ Tryz.prog cfg n new f=di)(hl:(Tryz.prog.funcs[f]?).map (·.params.size)=aa args.length)(ht:∀z,oq Tryz.prog f z=ab)(hp:∀x∈args,Pure x)(hn:noTwo di=ab)
 (hs:di.sat Tryz.prog CC (wo p) [] args):∃b,p b/\CC f new args (iI b):=by
 obtain⟨z,⟨b,rfl,hb⟩,h2⟩:=CC.HO he hl (λz _=>ht z) hp (by rintro _ ⟨b,rfl,_⟩;exact .raw _) hn hs;exact⟨b,hb,h2⟩
def alv(p:Int->Prop)(z:IV):Prop:=∃a b:Int,z=.aF [iI a,iI b]/\p b
@[simp] theorem avk(p:Int->Prop)(a b:Int):alv p (.aF [iI a,iI b])↔p b:=⟨λ⟨a',b',h1,h2⟩=>by cases h1;exact h2,λh=>⟨a,b,rfl,h⟩⟩
def CC.alw{n:Nat}{new:Bool}{f:FuncId}{di:aq}{args:List IV}{cfg:fe}(p:Int->Prop)(he:aQ Tryz.prog cfg n new f=di)(hl:(Tryz.prog.funcs[f]?).map (·.params.size)=aa args.length)(ht:∀a b,oq Tryz.prog f (.aF [iI a,iI b])=ab)(hp:∀x∈args,Pure x)(hn:noTwo di=ab)
 (hs:di.sat Tryz.prog CC (alv p) [] args):∃a b,p b/\CC f new args (.aF [iI a,iI b]):=by
 obtain⟨z,⟨a,b,rfl,hb⟩,h2⟩:=CC.HO he hl (by rintro _ ⟨a,b,rfl,_⟩;exact ht a b) hp (by rintro _ ⟨a,b,rfl,_⟩;exact .aF _ ay) hn hs;exact⟨a,b,hb,h2⟩
def qP.for{r:Rl}(hn:qP r)(h1:∀a∈r.aw++r.az,∀t∈a.ts,dM t)(h2:∀a∈r.aG++r.bc,(a.op≠0->jB a.op=a.ts.length)/\∀t∈a.ts,dM t):lY r:=
 ⟨λa ha t ht=>⟨((hn.hs a ha).2.2 t ht).wf,h1 a ha t ht⟩,λa ha=>⟨(h2 a ha).1,λt ht=>⟨((hn.gs a ha).2.2 t ht).wf,(h2 a ha).2 t ht⟩⟩⟩
def alx:List Nat:=[266,24,25,7,69,257,72,26,71,137,70,139,225,145,183,75,76,136,186,140,184,224,138,185,9,28,27,143,77,142,141,74,144,73,146,78,39,95,93,162]
def aly:List Nat:=[269,226,259,217]
def alz:List Nat:=[201]
def alA:List Nat:=[185]
def aqe(l:List Hint):fe:=⟨alx,aly,alz,l++[],alA⟩
def U6:aq:=
 (kP dE 3 dE 2 bA 3 (tX 2 4 9 Jc cb (ph 2 bA 3 (tX 2 5 3 (fc 5) bZ (tc gP) si)) si) (tc e_))
def acO:aq:=
 (sf (dV 2 U6))
def aqf:aQ Tryz.prog (aqe [⟨0,27,2,[(0,(7,0))],[],[],[]⟩]) 400 ab 27=acO:=by kernel_rfl
structure oe(p:Pg):Prop where
 d:p.bN.length<=12
 r:p.aV.length<=8
 dn:∀d∈p.bN,Sm d.s
 rs:∀r∈p.aV,oa r
 rn:∀r∈p.aV,qP r
def aqg{L:List De}{l:Nat}(h1:l<=L.length):pU 2 (fY L) (iI 0) (iI (l:Nat))=aa (fY (L.take l)):=by
 simp[pU,ie,h1,List.map_take]
def t34(a b:Int):oq Tryz.prog 9 (.aF [iI a,iI b])=ab:=by kernel_rfl
section
def Ef{a b:List Int}(h:a.length+b.length<=1000000000):dg 1 8 (iL a) (iL b)=aa (iL (a++b)):=by
 have h2:fV 1 (b.map iI)=ab:=by
  unfold fV;rw[awt];intro e he;obtain⟨x,_,rfl⟩:=awB.1 he;rfl
 simp[dg,h2];omega
section rule
variable{Q:IV->Prop}{k0 k1 k2 k3 k4 k5:List IV->Prop}
end rule
variable{Q:IV->Prop}{k0 k1 k2 k3 k4 k5:List IV->Prop}
def U7:Tryz.prog.underlying 3=aa (.int .i64):=by kernel_rfl
end
def alB:List Nat:=[266,24,25,7,69,257,72,26,71,137,70,139,225,145,183,75,76,136,186,140,184,224,138,185,9,28,27,143,77,142,141,74,144,73,146,78,39,95,93,162]
def alC:List Nat:=[269,259,217]
def alD:List Nat:=[201]
def alE:List Nat:=[185]
def ag6(l:List Hint):fe:=⟨alB,alC,alD,l++[],alE⟩
def X0:aq:=
 (kP dE 2 dE 3 bA 2 (il 3 3 69 (jY 3) (uJ c8 c8 xM)) kV)
def ag7:aq:=
 (sf (gz dE .gtr dE cb bF X0))
def atz:aQ Tryz.prog (ag6 [⟨0,25,4,[(0,(5,0))],[],[],[]⟩]) 400 af 25=ag7:=by kernel_rfl
def U8:aq:=
 (kP fP 1 fP 6 fS 1 (fR 6 2 (zP 2 1 2 1 3 (zP 2 2 2 2 3 (gn (lF 2) (ni 2) (pq (I5 2 2) .gtr (I5 2 2) 3 bF (zP 2 3 2 3 6 (zP 2 4 2 4 6 (z_ 24 xK dG dG (z_ 24 FJ c8 c8 (j2 25 (FR 2) (.i 6) (uJ c9 c9 (j2 25 (vT 2 4) (.i 6) (uJ dR dR sh))))))))))))) kV)
def U9:aq:=
 (fR 2 0 (zP 0 0 0 0 12 (zP 0 1 0 1 8 U8)))
def aqh:aQ Tryz.prog (ag6 [⟨0,7,4,[(0,(3,0))],[],[],[]⟩]) 400 af 7=U9:=by kernel_rfl
def ag8{l:List Tm}(h:Cz l=ab):l.length<=8:=by
 unfold Cz at h;split at h
 .cases h
 .omega
def e79(l:List Gl)(n:Int)(hl:Sm l)(hw:∀g∈l,qO g):∃b,(b=ab->l.length<=n/\∀g∈l,g.ts.length<=8)/\CC 25 af [gK l,iI n] (iB b):=by
 refine CC.FY _ atz kr (λ_=>kr) ay (by rfl) ?_;simp[ag7,SE.den,ao];by_cases z:n<l.length
 .left;exact z
 right;refine⟨by omega,?_⟩;unfold X0;refine aC l.length (λi (_:Unit)=>[iI i]) (λi _=>∀g∈l.take i,g.ts.length<=8) () ?_ ay λi _ hi hI=>?_
 .simp[SE.den]
 by_cases ak:i<l.length
 .have n_:=aI ak hl;have hg:=hw _ (awd ak);have afd:=alj l[i].ts λt ht=>(hg.2.2 t ht).wf;simp[SE.den,ak,n_,xq ak,ao];refine⟨_,afd,?_⟩;cases ht:Cz l[i].ts<;>simp;exact .mk () rfl aj (cI ak hI (ag8 ht))
 .simp[SE.den,ak];exact⟨by omega,dq ak hI⟩
def e44(l:List At)(hl:Sm l)(hw:∀g∈l,pZ g):∃b,(b=ab->∀g∈l,g.ts.length<=8)/\CC 24 af [c_ l] (iB b):=by
 refine CC.FY _ as5 kr (λ_=>kr) ay (by rfl) ?_;simp[agS,SE.den,ao];refine aC l.length (λi (_:Unit)=>[iI i]) (λi _=>∀g∈l.take i,g.ts.length<=8) () ?_ ay λi _ hi hI=>?_
 .simp[SE.den]
 by_cases ak:i<l.length
 .have n_:=aI ak hl;have hg:=hw _ (awd ak);have afd:=alj l[i].ts λt ht=>(hg.2.2 t ht).wf;simp[SE.den,ak,n_,py ak,ao];refine⟨_,afd,?_⟩;cases ht:Cz l[i].ts<;>simp;exact .mk () rfl aj (cI ak hI (ag8 ht))
 .simp[SE.den,ak];exact dq ak hI
structure NmP(p:Pg):Prop where
 sd:Sm p.bN
 sr:Sm p.aV
 d:∀d∈p.bN,Sm d.s
 r:∀r∈p.aV,qP r/\Sm r.aw/\Sm r.az/\Sm r.aG/\Sm r.bc
def e30(p:Pg)(h:NmP p):∃b,(b=ab->oe p)/\CC 7 af [bn p] (iB b):=by
 refine CC.FY _ aqh kr (λ_=>kr) (by simpa using dN p) (by rfl) ?_;obtain⟨ds,rs⟩:=p;obtain⟨sd,sr,hd,hr⟩:=h;simp only at*
 show U9.sat _ _ _ _ [.agg [fY ds,mw rs]];simp[U9,SE.den,ao];by_cases z:12<ds.length
 .left;omega
 right;refine⟨by omega,?_⟩;by_cases z:8<rs.length
 .left;omega
 right;refine⟨by omega,?_⟩;unfold U8;refine aC rs.length (λi (_:Unit)=>[iI i]) (λi _=>∀r∈rs.take i,oa r) () ?_ ay λi _ hi hI=>?_
 .simp[SE.den]
 by_cases ak:i<rs.length
 .have n_:=aI ak sr;obtain⟨eN,s1,s2,s3,s4⟩:=hr _ (awd ak);obtain⟨b1,f1,h1⟩:=e44 rs[i].aw s1 λa ha=>eN.hs a (aw3 _ ha);obtain⟨b2,f2,h2⟩:=e44 rs[i].az s2 λa ha=>eN.hs a (axg _ ha);obtain⟨b3,f3,h3⟩:=e79 rs[i].aG 6 s3 λa ha=>eN.gs a (aw3 _ ha);obtain⟨b4,f4,h4⟩:=e79 rs[i].bc 6 s4 λa ha=>eN.gs a (axg _ ha);simp[SE.den,ak,n_,y9 ak,ao];by_cases y1:3<rs[i].aw.length
  .left;omega
  right;refine⟨by omega,?_⟩;by_cases y2:3<rs[i].az.length
  .left;omega
  right;refine⟨by omega,?_⟩;have hwl:awK.wrap ((rs[i].aw.length:Int)+(rs[i].az.length:Int))=rs[i].aw.length+rs[i].az.length:=eT aj aj;simp[hwl];by_cases y3:(3:Int)<rs[i].aw.length+rs[i].az.length
  .left;exact y3
  right;refine⟨by omega,?_⟩;by_cases y4:6<rs[i].aG.length
  .left;omega
  right;refine⟨by omega,?_⟩;by_cases y5:6<rs[i].bc.length
  .left;omega
  right;refine⟨by omega,?_⟩;refine⟨_,h1,?_⟩;cases b1<;>simp;refine⟨_,h2,?_⟩;cases b2<;>simp;refine⟨_,h3,?_⟩;cases b3<;>simp;refine⟨_,h4,?_⟩;cases b4<;>simp;refine .mk () rfl aj (cI ak hI ⟨by omega,by omega,by omega,λa ha=>?_,λa ha=>?_⟩)
  .rcases awm.1 ha with ha|ha
   .exact f1 rfl a ha
   .exact f2 rfl a ha
  .rcases awm.1 ha with ha|ha
   .exact(f3 rfl).2 a ha
   .exact(f4 rfl).2 a ha
 .simp[SE.den,ak];exact⟨by simp;omega,by simp;omega,hd,dq ak hI,λr qt=>(hr r qt).1⟩
def aqi:Tryz.prog.underlying 9=aa .string:=by kernel_rfl
def eq9(d:Nat)(a b:ByteArray):aH Tryz.prog (axa (d+1) 9 (.string a) (.string b))=aa (a==b):=by
 rw[axa,aP,Go.Ev.run_underlying aqi,awc];rfl
def QD(d:Nat)(a b:Int):aH Tryz.prog (axa (d+1) 3 (.int .i64 a) (.int .i64 b))=aa (a==b):=by
 rw[axa,aP,Go.Ev.run_underlying U7,awc];rfl
def alF(d:Nat)(x y x' y':Value)(b1 b2:Bool)(h1:aH Tryz.prog (axa (d+1) 9 x x')=aa b1)(h2:aH Tryz.prog (axa (d+1) 3 y y')=aa b2):
 aH Tryz.prog (axa (d+2) 82 (.agg #[x,y]) (.agg #[x',y']))=aa (b1&&b2):=by
 rw[axa,aP,Go.Ev.run_underlying Tryz.underlying82,awc];have cy:Tryz.prog.stoodInHeld 82=af:=by kernel_rfl
 have p9:∀(a b:Value),aH Tryz.prog (part 9 #[a,b] 0)=aa a:=λa b=>by kernel_rfl
 have p3:∀(a b:Value),aH Tryz.prog (part 3 #[a,b] 1)=aa b:=λa b=>by kernel_rfl
 have hp:aH Tryz.prog program=aa Tryz.prog:=rfl;rw[aP,hp,awc,cy];simp only[awA,if_false,<-aAs,azW,az4,aP,ne_eq,aAL,not_false_eq_true,if_true,p9,p3,awc,h1,h2];have q:∀{α:Type} (a:α),aH Tryz.prog (pure a)=aa a:=λ_=>rfl;cases b1
 .rfl
 .simp only[axu,awA,if_false,q,awc,aP,p3,h2];cases b2<;>rfl
def bq(a b:List UInt8):((⟨a.toArray⟩:ByteArray)==⟨b.toArray⟩)=(a==b):=by
 show(a.toArray==b.toArray)=_;simp
def alG(P:Program)(t:TypeId)(a b c d:Value)(r:Bool)(hg:aH P (eqGuard .eql t (.func 0) (.func 0) (.agg #[a,b]) (.agg #[c,d]))=aa ())(h:aH P (ayF t (.agg #[a,b]) (.agg #[c,d]))=aa r):
 dc P .eql t (.agg [.raw a,.raw b]) (.agg [.raw c,.raw d])=aa (iB r):=by
 show(aH P (do eqGuard .eql t (.func 0) (.func 0) (.agg #[a,b]) (.agg #[c,d]);Go.binOp .eql t (.agg #[a,b]) (.agg #[c,d]))).map lift=_;rw[aP,hg];show(aH P (do pure (.bool (<-ayF t (.agg #[a,b]) (.agg #[c,d]))))).map lift=_;rw[aP,h];rfl
deriving instance DecidableEq for De
def acP(s s':List UInt8)(n n':Int):dc Tryz.prog .eql 82 (.agg [iS s,iI n]) (.agg [iS s',iI n'])=aa (iB (s==s'&&n==n')):=by
 refine alG _ _ _ _ _ _ _ (by kernel_rfl) ?_;rw[<-bq];exact alF 9998 _ _ _ _ _ _ (eq9 _ _ _) (QD _ _ _)
def gB(d:De):Value:=.agg #[.string ⟨d.s.toArray⟩,.int .i64 d.n]
def eqK(k e:De):aH Tryz.prog (ayF 82 (gB k) (gB e))=aa (decide (k=e)):=by
 have h:aH Tryz.prog (ayF 82 (gB k) (gB e))=aa (k.s==e.s&&k.n==e.n):=by
  rw[<-bq];exact alF 9998 _ _ _ _ _ _ (eq9 _ _ _) (QD _ _ _)
 rw[h];obtain⟨a,b⟩:=k;obtain⟨c,d⟩:=e;simp;rw[Bool.eq_iff_iff];simp
def wq{α:Type}(P:Program)(a:α):aH P (pure a)=aa a:=rfl
theorem ag9(k:De):∀(ks:List De) (i:Nat),(k∈ks->∃j,aH Tryz.prog (aw1 82 (gB k) (ks.map λe=>⟨gB e,awT,0⟩) i)=aa (aa (i+j,awT))/\ks[j]?=aa k)/\
 (k∉ks->aH Tryz.prog (aw1 82 (gB k) (ks.map λe=>⟨gB e,awT,0⟩) i)=aa ah)
 |[],i=>by simp[aw1,wq]
 |e::ks,i=>by
  obtain⟨h1,h2⟩:=ag9 k ks (i+1)
  have hu:aH Tryz.prog (aw1 82 (gB k) ((e::ks).map λe=>⟨gB e,awT,0⟩) i)=aH Tryz.prog (if decide (k=e)=ab then pure (aa (i,awT))else aw1 82 (gB k) (ks.map λe=>⟨gB e,awT,0⟩) (i+1)):=by
   rw[awZ,aw1,aP,eqK,awc]
  rw[hu];by_cases h:k=e
  .subst h;exact⟨λ_=>⟨0,by rw[if_pos ay];simp[wq],rfl⟩,λhn=>absurd ay hn⟩
  .rw[if_neg (by simpa using h)];refine⟨λhm=>?_,λhn=>h2 λhm=>hn (by simp[hm])⟩;obtain⟨j,g1,g2⟩:=h1 (by simpa[h]using hm);exact⟨j+1,by rw[g1,show i+1+j=i+(j+1) by omega],by simpa using g2⟩
def Eg(b:Bool)(k:De):aH Tryz.prog (Instr.checkKey b 10000 82 (gB k))=aa ():=by
 obtain⟨s,n⟩:=k;cases b<;>kernel_rfl
def U_(k:De)(ks:List De):aH Tryz.prog (axr 82 (gB k) (ks.map λe=>⟨gB e,awT,0⟩))=aH Tryz.prog (aw1 82 (gB k) (ks.map λe=>⟨gB e,awT,0⟩) 0):=by
 unfold axr;rw[aP,Go.Ev.run_underlying Tryz.underlying82,awc];cases ks with
 |nil=>rfl
 |cons e ks=>rfl
def aiL(b:Bool)(k:De)(ks:List De):(k∈ks->∃j,fy Tryz.prog b 82 (gB k) ((ks.map gB).map λe=>(e,.undef,0))=aa (aa j)/\ks[j]?=aa k)/\(k∉ks->fy Tryz.prog b 82 (gB k) ((ks.map gB).map λe=>(e,.undef,0))=aa ah):=by
 have hm:(((ks.map gB).map λe=>(e,(.undef:IV),0)).map λe=>({key:=e.1,val:=awT,born:=e.2.2}:MapEntry))=ks.map λe=>⟨gB e,awT,0⟩:=by
  rw[azb,azb];rfl
 obtain⟨h1,h2⟩:=ag9 k ks 0;refine⟨λh=>?_,λh=>?_⟩
 .obtain⟨j,g1,g2⟩:=h1 h;refine⟨j,?_,g2⟩;unfold fy;rw[aP,Eg,awc,hm,U_,g1];simp
 .unfold fy;rw[aP,Eg,awc,hm,U_,h2 h]
def acQ(k:De):ayi 10000 (gB k) (gB k)=ab:=by
 show((#[_,_]:Array Value).size==2&&_)=ab;simp[ayi,bq]
def F2(d:De):IV:=.aF [.agg [iS d.s,iI d.n],iB ab]
theorem acR:∀ds:List De,mf (ds.map F2)=aa (ds.map gB)
 |[]=>rfl
 |k::ks=>by simp[mf,F2,Ev.keyOf,acR ks,gB];rfl
def aiM(ds:List De)(k:De):(k∈ds->∃j,eZ Tryz.prog 82 (ds.map F2) (.agg [iS k.s,iI k.n])=aa (aa j)/\ds[j]?=aa k)/\(k∉ds->eZ Tryz.prog 82 (ds.map F2) (.agg [iS k.s,iI k.n])=aa ah):=by
 have h:eZ Tryz.prog 82 (ds.map F2) (.agg [iS k.s,iI k.n])=D5 Tryz.prog 82 (ds.map gB) (gB k):=by
  unfold eZ;rw[acR];have:xf Tryz.prog 82=ah:=by kernel_rfl
  rw[this];rfl
 rw[h];obtain⟨a1,a2⟩:=aiL ab k ds
 have hb:fy Tryz.prog af 82 (gB k) ((ds.map gB).map λe=>(e,.undef,0))=fy Tryz.prog ab 82 (gB k) ((ds.map gB).map λe=>(e,.undef,0)):=by
  unfold fy;rw[aP,aP,Eg,Eg]
 unfold D5;rw[hb];refine⟨λhm=>?_,λhm=>?_⟩
 .obtain⟨j,g1,g2⟩:=a1 hm;refine⟨j,?_,g2⟩;rw[g1];simp only[if_true];rw[awu,g2];simp only[Option.map_some,acQ,if_true]
 .rw[a2 hm];simp
abbrev dr(ls:List (List Int)):IV:=.tree 1 (ls.map iL)
def acS{ls:List (List Int)}{i:Nat}(h:i<ls.length):cq 1 (dr ls) (iI (i:Nat))=aa (iL ls[i]):=cP (by simp[h]) rfl
def QE{ls:List (List Int)}{i:Nat}(h:i<ls.length):(ls.take (i+1)).flatten=(ls.take i).flatten++ls[i]:=by
 rw[awh h,axh];simp only[ax6,ay0,aww]
def OK(ls:List (List Int))(i:Nat):(ls.take i).flatten.length<=ls.flatten.length:=by
 conv=>rhs;rw[<-axn i ls,axh,awi]
 omega
def F3(ls:List (List Int)):Pure (dr ls):=by
 refine .tree 1 _ λe he c hc=>?_;obtain⟨x,_,rfl⟩:=awB.1 he;simp[cellsOf]at hc;subst hc;exact Ec x
end Go.Proofs.YtabefplkfkfdfaaGreat
namespace Go.Proofs.YtabefplkfkfdfaaGreat
open Go Go.RowKit Go.Shelf
attribute [local go_sem] ay5
set_option maxRecDepth 100000 in
set_option maxHeartbeats 1000000 in
def X1(F:Fence)(n:Nat)(h:F.fn 267)(ej:F.round=ah)(k m:Int)(s:ByteArray)(sl r:Value)(hr:r=if k=2 then sl else .slice ah 0 0)(w:World):
 CallsIn F n Tryz.prog 267 #[.agg #[.int .i64 k,.int .i64 m,.string s,sl]] w λe w'=>e=.returned r/\w'=w.alloc (.cells #[.int .i64 k,.int .i64 m,.string s,sl] 106):=by
 refine callsIn_of_wp Tryz.func267 rfl h ?_ ej;simp only[Tryz.ntmps267,axJ,awJ,axM,ax3,ax4,axy,axz,axK,axD,axp,axk];subst hr
 gi_wp2
 all_goals first|(go_ret;exact⟨rfl,rfl⟩)|(exfalso;simp_all)
def wrap_small(i:Nat)(h:i+1<=9223372036854775807):wrap64 ((i:Int)+1)=((i+1:Nat):Int):=by unfold wrap64;omega
def Je(n i:Nat)(h:i<n):n-(intOf (.int .i64 ((i+1:Nat):Int))).toNat<n-(intOf (.int .i64 (i:Int))).toNat:=by simp only[intOf];omega
abbrev ic:={x:Int//0<=x/\x<=1048576}
def SW(n₀:Nat)(W:World)(R:Value->List ic->Prop)(sl:Value)(kD:List (List ic)):Prop:=
 kD.length<=9223372036854775807/\((kD=[]/\∃a cap,sl=.slice a 0 cap)\/
 ∃b off cap,sl=.slice (aa ⟨b,off,ah⟩) kD.length cap/\b<n₀/\∀(i:Nat) (xs:List ic),kD[i]?=aa xs->∃u0 u1 u2 u3,W.cell? ⟨b,off+i*4,ah⟩=aa u0/\W.cell? ⟨b,off+i*4+1,ah⟩=aa u1/\
  W.cell? ⟨b,off+i*4+2,ah⟩=aa u2/\W.cell? ⟨b,off+i*4+3,ah⟩=aa u3/\R (.agg #[u0,u1,u2,u3]) xs)
def TW(n₀:Nat)(W:World):Nat->Value->List ic->Prop
 |0,_,_=>False
 |d+1,v,xs=>∃k n s a l c,v=.agg #[.int .i64 k,.int .i64 n,.string s,.slice a l c]/\((k=1/\∃h,xs=[⟨n,h⟩])\/(k≠1/\k≠2/\xs=[])\/(k=2/\∃kD,SW n₀ W (TW n₀ W d) (.slice a l c) kD/\xs=kD.flatten))
def TW.form{n₀:Nat}{W:World}:∀{d:Nat} {v:Value} {xs:List ic},TW n₀ W d v xs->∃k n s a l c,v=.agg #[.int .i64 k,.int .i64 n,.string s,.slice a l c]
 |0,_,_,ht=>ht.elim
 |d+1,_,_,⟨k,n,s,a,l,c,h1,_⟩=>⟨k,n,s,a,l,c,h1⟩
def SW.below{n₀:Nat}{A B:World}(h:Below n₀ A B){R R':Value->List ic->Prop}(hR:∀v xs,R v xs->R' v xs){sl:Value}{kD:List (List ic)}(hs:SW n₀ A R sl kD):SW n₀ B R' sl kD:=by
 rcases hs with⟨hl,hs|⟨b,off,cap,h1,h2,h3⟩⟩
 .exact⟨hl,.inl hs⟩
 .refine⟨hl,.inr ⟨b,off,cap,h1,h2,λi xs hi=>?_⟩⟩;obtain⟨u0,u1,u2,u3,g0,g1,g2,g3,g4⟩:=h3 i xs hi;exact⟨u0,u1,u2,u3,(h.cell h2).trans g0,(h.cell h2).trans g1,(h.cell h2).trans g2,(h.cell h2).trans g3,hR _ _ g4⟩
theorem TW.below{n₀:Nat}{A B:World}(h:Below n₀ A B):∀{d:Nat} {v:Value} {xs:List ic},TW n₀ A d v xs->TW n₀ B d v xs
 |0,_,_,ht=>ht
 |d+1,_,_,⟨k,n,s,a,l,c,h1,h2⟩=>⟨k,n,s,a,l,c,h1,h2.imp id λh2=>h2.imp id λ⟨hk,kD,h3,h4⟩=>⟨hk,kD,h3.below h λ_ _=>TW.below h,h4⟩⟩
def Rk{F:Fence}(hd:F.depth=ah)(k:Nat):F.room k:=λd h=>by rw[hd]at h;cases h
def RoundIn.HY{F:Fence}(hd:F.depth=ah){m m':Nat}{P:Program}{l:Nat}{f:FuncId}{tmps:Array Value}{assign body:Code}{w:World}{R:Ending->World->Prop}
 (h:RoundIn F m P l f tmps assign body w R):RoundIn F m' P l f tmps assign body w R:=⟨h.1,λc cs _=>h.2 c cs (Rk hd _)⟩
theorem YieldAt.HY{F:Fence}(hd:F.depth=ah){m:Nat}(m':Nat){P:Program}{l:Nat}{args:Array Value}{W:World}{R:Ending->World->Prop}(h:YieldAt F m P l args W R):YieldAt F m' P l args W R:=by
 obtain⟨fn,tmps,assign,body,hy,hR⟩:=h;exact⟨fn,tmps,assign,body,hy,RoundIn.HY hd hR⟩
set_option maxRecDepth 100000 in
set_option maxHeartbeats 2000000 in
def aiN(F:Fence)(hd:F.depth=ah)(y_:F.fn 246)(Dt:F.fn 267)(ej:F.round=ah)(l n₀ N:Nat)(J Jx:List ic->World->Prop)
 (Qu:∀pre W W',J pre W->W.grownBy W' ah->J pre W')
 (hY:∀m pre (x:ic) W,J pre W->pre.length<N->YieldAt F m Tryz.prog l #[.int .i64 x.1] W λe W'=>
  (e=.returned (.bool ab)/\J (pre++[x]) W'/\Below n₀ W W')\/(e=.returned (.bool af)/\Jx (pre++[x]) W')):
 ∀(d n:Nat) (v:Value) (xs pre:List ic) (W:World),TW n₀ W d v xs->n₀<=W.heap.size->J pre W->pre.length+xs.length<=N->
  CallsIn F n Tryz.prog 246 #[v,.func (.yield l) #[] #[]] W λe W'=>
   (e=.returned (.bool ab)/\J (pre++xs) W'/\Below n₀ W W')\/(e=.returned (.bool af)/\∃q,q<+:xs/\Jx (pre++q) W'):=by
 have Jw:∀k:Nat,(F.depth.isSome=ab->1<=k):=λk h=>by rw[hd]at h;cases h
 intro d;induction d with
 |zero=>intro n v xs pre W ht;exact ht.elim
 |succ d ih=>
  intro n v xs pre W ht hn hJ hN;obtain⟨k,m,s,a0,l0,c0,rfl,X2⟩:=ht;obtain⟨sl,wC⟩:∃sl,sl=aAg a0 l0 c0:=⟨_,rfl⟩;rw[<-wC]at X2⊢;clear wC a0 l0 c0;refine callsIn_of_wp Tryz.func246 rfl y_ ?_ ej;simp only[Tryz.ntmps246,axJ,awJ,axM,ax3,ax4,axy,axz,axK,axD,axp,axk];have bH:=Qu pre W (W.alloc (.cells #[.int .i64 k,.int .i64 m,.string s,sl] 106)) hJ (ayN W _ ah);rcases X2 with⟨hk,hmw,rfl⟩|X2
  .subst hk;simp only[List.length_singleton]at hN⊢;obtain⟨fn,tmps,assign,body,hy,hR⟩:=hY (n- 1) pre ⟨m,hmw⟩ _ bH (by omega)
   gi_wp2_with ((try refine⟨Jw _,?_⟩);refine hR.mono ?_;clear hR;rintro e W2 (⟨rfl,fg,dv⟩|⟨rfl,sG⟩))
   .go_ret
    exact .inl ⟨rfl,fg,((ax1 n₀ W).alloc hn _).trans dv⟩
   .go_ret
    exact .inr ⟨rfl,_,⟨[],aww _⟩,sG⟩
  .have hk:k≠1:=by
    rcases X2 with⟨h,_⟩|⟨h,_⟩
    .exact h
    .omega
   obtain⟨r,hr⟩:∃r,r=if k=2 then sl else aAg ah 0 0:=⟨_,rfl⟩
   obtain⟨us,hrs,nZ⟩:∃us:List (List ic),SW n₀ W (TW n₀ W d) r us/\us.flatten=xs:=by
    rcases X2 with⟨_,h2,rfl⟩|⟨h2,kD,hs,rfl⟩
    .exact⟨[],by rw[hr,if_neg h2];exact⟨by simp,.inl ⟨rfl,ah,0,rfl⟩⟩,rfl⟩
    .exact⟨kD,by rw[hr,if_pos h2];exact hs,rfl⟩
   rw[<-nZ]at hN⊢;have hH:Hid (r=if k=2 then sl else aAg ah 0 0):=hr;clear nZ hr X2;rcases hrs with⟨GQ,⟨rfl,a,cap,rfl⟩|⟨b,off,cap,rfl,zj,oF⟩⟩
   .gi_wp2_with (first
     |((try refine⟨Jw _,?_⟩);gi_at_call 267;refine(X1 F _ Dt ej k m s sl _ hH.out _).mono ?_;rintro e w' ⟨rfl,rfl⟩))
    gi_loopw [17] (λp wr=>p=.int .i64 0/\J pre wr/\Below n₀ W wr) (λ_ _=>0)
    case atStart=>exact⟨rfl,Qu _ _ _ bH (ayN _ _ ah),((ax1 n₀ W).alloc hn _).alloc (by simp;omega) _⟩
    case round=>
     obtain⟨rfl,CE,vf⟩:=hrel
     gi_wp2
     go_ret
     exact .inl ⟨rfl,by simpa using CE,vf⟩
   .gi_wp2_with (first
     |((try refine⟨Jw _,?_⟩);gi_at_call 267;refine(X1 F _ Dt ej k m s sl _ hH.out _).mono ?_;rintro e w' ⟨rfl,rfl⟩))
    gi_loopw [17] (λp wr=>∃i:Nat,p=.int .i64 i/\i<=us.length/\J (pre++(us.take i).flatten) wr/\Below n₀ W wr) (λp _=>us.length-(intOf p).toNat)
    case atStart=>exact⟨0,rfl,by omega,by simpa using Qu _ _ _ bH (ayN _ _ ah),((ax1 n₀ W).alloc hn _).alloc (by simp;omega) _⟩
    case round=>
     obtain⟨i,rfl,hi,CE,vf⟩:=hrel;by_cases ak:i<us.length
     .have gj:(i:Int)<(us.length:Int):=by omega
      obtain⟨u0,u1,u2,u3,g0,g1,g2,g3,g4⟩:=oF i us[i] (av_ ak);have c0:wr.cell? ⟨b,off+i*4,ah⟩=aa u0:=(vf.cell zj).trans g0;have c1:wr.cell? ⟨b,off+i*4+1,ah⟩=aa u1:=(vf.cell zj).trans g1;have c2:wr.cell? ⟨b,off+i*4+2,ah⟩=aa u2:=(vf.cell zj).trans g2;have c3:wr.cell? ⟨b,off+i*4+3,ah⟩=aa u3:=(vf.cell zj).trans g3;obtain⟨k',n',s',a',l',c',he⟩:=g4.form;simp only[aAn,aAy,axC,and_true]at he;obtain⟨rfl,rfl,rfl,rfl⟩:=he;have bf:n₀<=wr.heap.size:=awy hn vf.size;have M4:(us.take (i+1)).flatten=(us.take i).flatten++us[i]:=by rw[awh ak,axh];simp only[ax6,ay0,aww]
      have hle:(us.take i).flatten.length+us[i].length<=us.flatten.length:=by
       rw[<-awi,<-M4]
       conv=>rhs;rw[<-axn (i+1) us,axh,awi]
       omega
      have ihc:=ih (n- 1) _ us[i] (pre++(us.take i).flatten) (wr.alloc (.cells #[.int .i64 k',.int .i64 n',.string s',.slice a' l' c'] 106)) (g4.below (vf.alloc bf _)) (by simp;omega) (Qu _ _ _ CE (ayN _ _ ah)) (by rw[awi];omega);clear g4 oF;have n_:wrap64 ((i:Int)+1)=((i+1:Nat):Int):=wrap_small i (by omega)
      gi_wp2_with ((try refine⟨Jw _,?_⟩);refine ihc.mono ?_;clear ihc;rintro e W3 (⟨rfl,vM,dL⟩|⟨rfl,q,hq,JP⟩))
      .go_roundw
       case rel=>exact⟨i+1,by first|rfl|rw[n_],ak,by rw[M4,<-awv];exact vM,(vf.alloc bf _).trans dL⟩
       case measure=>first|exact Je _ _ ak|(rw[n_];exact Je _ _ ak)
      .go_ret
       obtain⟨t,ht⟩:=hq;refine .inr ⟨rfl,(us.take i).flatten++q,⟨t++(us.drop (i+1)).flatten,?_⟩,by rw[<-awv];exact JP⟩
       conv=>rhs;rw[<-axn (i+1) us,axh,M4,<-ht]
       simp[awv]
     .have gj:¬(i:Int)<(us.length:Int):=by omega
      gi_wp2
      go_ret
      have:us.take i=us:=awr (by omega);exact .inl ⟨rfl,by rw[this]at CE;exact CE,vf⟩
set_option maxRecDepth 100000 in
set_option maxHeartbeats 2000000 in
def afe(F:Fence)(hd:F.depth=ah)(uL:F.fn 245)(y_:F.fn 246)(Dt:F.fn 267)(ej:F.round=ah)(n d l Bn n₀:Nat)(sl:Value)(us:List (List ic))(J Jx:List ic->World->Prop)
 (Qu:∀pre W W',J pre W->W.grownBy W' ah->J pre W')
 (hY:∀pre (x:ic) W,J pre W->pre.length<us.flatten.length->YieldAt F (n- 1) Tryz.prog l #[.int .i64 x.1] W λe W'=>
  (e=.returned (.bool ab)/\J (pre++[x]) W'/\Below n₀ W W')\/(e=.returned (.bool af)/\Jx (pre++[x]) W'))
 (W:World)(hb:Bn<n₀)(hn:n₀<=W.heap.size)(hBn:W.cell? ⟨Bn,0,ah⟩=aa sl)(hL:SW n₀ W (TW n₀ W d) sl us)(h0:J [] W):
 CallsIn F n Tryz.prog 245 #[.func (.yield l) #[] #[],.pointer (aa ⟨Bn,0,ah⟩)] W λe W'=>(∃v,e=.returned v)/\
  ((∃ys,ys=us.flatten/\J ys W')\/(∃pre,pre<+:us.flatten/\Jx pre W')):=by
 have Jw:∀k:Nat,(F.depth.isSome=ab->1<=k):=λk h=>by rw[hd]at h;cases h
 have hw:=aiN F hd y_ Dt ej l n₀ us.flatten.length J Jx Qu (λm pre x W hj hl=>YieldAt.HY hd m (hY pre x W hj hl)) d (n- 1);obtain⟨GQ,⟨rfl,a,cap,rfl⟩|⟨b,off,cap,rfl,zj,oF⟩⟩:=hL
 .refine callsIn_of_wp Tryz.func245 rfl uL ?_ ej;simp only[Tryz.ntmps245,axJ,awJ,axM,ax3,ax4,axy,axz,axK,axD,axp,axk]
  gi_wp2
  gi_loopw [6] (λp wr=>p=.int .i64 0/\J [] wr/\Below n₀ W wr) (λ_ _=>0)
  case atStart=>exact⟨rfl,h0,ax1 n₀ W⟩
  case round=>
   obtain⟨rfl,CE,vf⟩:=hrel
   gi_wp2
   go_end0
   exact⟨⟨_,rfl⟩,.inl ⟨_,rfl,CE⟩⟩
 .refine callsIn_of_wp Tryz.func245 rfl uL ?_ ej;simp only[Tryz.ntmps245,axJ,awJ,axM,ax3,ax4,axy,axz,axK,axD,axp,axk]
  gi_wp2
  gi_loopw [6] (λp wr=>∃i:Nat,p=.int .i64 i/\i<=us.length/\J (us.take i).flatten wr/\Below n₀ W wr) (λp _=>us.length-(intOf p).toNat)
  case atStart=>exact⟨0,rfl,by omega,by simpa using h0,ax1 n₀ W⟩
  case round=>
   obtain⟨i,rfl,hi,CE,vf⟩:=hrel;have hBc:wr.cell? ⟨Bn,0,ah⟩=aa (.slice (aa ⟨b,off,ah⟩) us.length cap):=(vf.cell hb).trans hBn;by_cases ak:i<us.length
   .have gj:(i:Int)<(us.length:Int):=by omega
    obtain⟨u0,u1,u2,u3,g0,g1,g2,g3,g4⟩:=oF i us[i] (av_ ak);have c0:wr.cell? ⟨b,off+i*4,ah⟩=aa u0:=(vf.cell zj).trans g0;have c1:wr.cell? ⟨b,off+i*4+1,ah⟩=aa u1:=(vf.cell zj).trans g1;have c2:wr.cell? ⟨b,off+i*4+2,ah⟩=aa u2:=(vf.cell zj).trans g2;have c3:wr.cell? ⟨b,off+i*4+3,ah⟩=aa u3:=(vf.cell zj).trans g3;have M4:(us.take (i+1)).flatten=(us.take i).flatten++us[i]:=by rw[awh ak,axh];simp only[ax6,ay0,aww]
    have hle:(us.take i).flatten.length+us[i].length<=us.flatten.length:=by
     rw[<-awi,<-M4]
     conv=>rhs;rw[<-axn (i+1) us,axh,awi]
     omega
    have ihc:=hw _ us[i] (us.take i).flatten wr (g4.below vf) (awy hn vf.size) CE hle;obtain⟨k',n',s',a',l',c',he⟩:=g4.form;simp only[aAn,aAy,axC,and_true]at he;obtain⟨rfl,rfl,rfl,rfl⟩:=he;clear g4 oF hw;have n_:wrap64 ((i:Int)+1)=((i+1:Nat):Int):=wrap_small i (by omega)
    gi_wp2_with ((try refine⟨Jw _,?_⟩);refine ihc.mono ?_;clear ihc;rintro e W3 (⟨rfl,vM,dL⟩|⟨rfl,q,hq,JP⟩))
    .go_roundw
     case rel=>exact⟨i+1,by first|rfl|rw[n_],ak,by rw[M4];exact vM,vf.trans dL⟩
     case measure=>first|exact Je _ _ ak|(rw[n_];exact Je _ _ ak)
    .refine bodyPost_ret (results_none rfl _ _ _) rfl ?_;obtain⟨t,ht⟩:=hq;refine⟨⟨_,rfl⟩,.inr ⟨(us.take i).flatten++q,⟨t++(us.drop (i+1)).flatten,?_⟩,JP⟩⟩
     conv=>rhs;rw[<-axn (i+1) us,axh,M4,<-ht]
     simp[awv]
   .have gj:¬(i:Int)<(us.length:Int):=by omega
    gi_wp2
    go_end0
    have:us.take i=us:=awr (by omega);rw[this]at CE
    first|exact CE|exact⟨⟨_,rfl⟩,.inl CE⟩|exact .inl CE|exact⟨⟨_,rfl⟩,.inl ⟨_,rfl,CE⟩⟩
def aah(F:Fence)(hd:F.depth=ah)(uL:F.fn 245)(y_:F.fn 246)(Dt:F.fn 267)(ej:F.round=ah)(n d Bn n₀:Nat)(sl:Value)(us:List (List ic))(w:World)(hb:Bn<n₀)(hn:n₀<=w.heap.size)
 (hc:w.cell? ⟨Bn,0,ah⟩=aa sl)(hL:SW n₀ w (TW n₀ w d) sl us):
 SeqStopsK F n Tryz.prog 245 #[.pointer (aa ⟨Bn,0,ah⟩)] (λx:ic=> #[axQ .i64 x.1]) (Below n₀) (λys=>ys=us.flatten) (λpre=>pre<+:us.flatten) us.flatten.length w:=λl J Jx W hW hJ _ hY h0=>
 afe F hd uL y_ Dt ej n d l Bn n₀ sl us J Jx (λpre A B hj hg=>hJ pre A B ah hj hg (λr e=>by cases e)) hY W hb (awy hn hW.size) ((hW.cell (p:=⟨Bn,0,ah⟩) (by show Bn<_;omega)).trans hc) (hL.below (hW.mono hn) λ_ _=>TW.below (hW.mono hn)) h0
set_option maxHeartbeats 1000000 in
def OL(F:Fence)(n:Nat)(h:F.fn 208)(ej:F.round=ah)(a:Option Addr)(ln cp:Nat)(w:World):
 CallsIn F n Tryz.prog 208 #[.slice a ln cp] w λe w'=>e=.returned (.func (.func 245) #[] #[.pointer (aa ⟨w.heap.size,0,ah⟩)])/\w'=w.alloc (.cells #[.slice a ln cp] 68):=by
 refine callsIn_of_wp Tryz.func208 rfl h ?_ ej;simp only[Tryz.ntmps208,axJ,awJ,axM,ax3,ax4,axy,axz,axK,axD,axp,axk]
 gi_wp2
 go_ret
 exact⟨rfl,rfl⟩
section
attribute [local go_sem] ay5
def uq(l:List ic):List ic:=l.foldl (λacc x=>if x∈acc then acc else acc++[x]) []
def Va(pre:List ic){x:ic}(h:x∈uq pre):uq (pre++[x])=uq pre:=by
 unfold uq at h⊢;rw[azA];simp only[awW,aBa];rw[if_pos h]
def OM(pre:List ic){x:ic}(h:x∉uq pre):uq (pre++[x])=uq pre++[x]:=by
 unfold uq at h⊢;rw[azA];simp only[awW,aBa];rw[if_neg h]
def atA(x:ic):(Lit.int .i64 x.1).wf=ab:=by
 obtain⟨x,h1,h2⟩:=x;have e1:awK.min= -9223372036854775808:=by decide
 have e2:awK.max=9223372036854775807:=by decide
 simp[Lit.wf,e1,e2];omega
theorem ON:∀(N:Nat) (l:List Int),l.Nodup->(∀x∈l,0<=x/\x<N)->l.length<=N
 |0,[],_,_=>by simp
 |0,x::l,_,h=>by have:=h x (by simp);omega
 |N+1,l,hn,h=>by
  have ih:=ON N (l.erase (N:Int)) (hn.erase _) λx hx=>by
   have h1:=h x (aAf hx);have h2:x≠(N:Int):=λhe=>by rw[hn.mem_erase_iff]at hx;exact hx.1 he
   omega
  rw[aAK]at ih;split at ih<;>omega
def aff(pre:List ic):(uq pre).Nodup:=by
 have key:∀(l acc:List ic),acc.Nodup->(l.foldl (λacc x=>if x∈acc then acc else acc++[x]) acc).Nodup:=by
  intro l;induction l with
  |nil=>intro acc h;exact h
  |cons y l ih=>
   intro acc h;rw[awW];refine ih _ ?_;split
   .exact h
   .rename_i hy;rw[ayD];exact⟨h,by simp,λa ha b hb=>by simp at hb;subst hb;exactλhe=>hy (he▸ha)⟩
 exact key pre [] (by simp)
def afg(pre:List ic):(uq pre).length<=1048577:=by
 have hn:((uq pre).map (·.1)).Nodup:=azy (λx:ic=>x.1) (λa b h he=>h (az7 he)) (aff pre)
 have:=ON 1048577 ((uq pre).map (·.1)) hn λx hx=>by
  obtain⟨y,_,rfl⟩:=awB.1 hx;have:=y.2;omega
 simpa using this
def CG{H:Type}(xs:List ic):DataW H:=xs.foldl (λD x=>D.put (.int .i64 x.1) (.lit (.bool ab))) (.map [])
def M5{H:Type}(pre:List ic)(x:ic):CG (H:=H) (pre++[x])=(CG pre).put (.int .i64 x.1) (.lit (.bool ab)):=by simp[CG]
def WA{H:Type}(xs:List ic):aAz (CG (H:=H) xs):=by
 have key:∀(l:List ic) (D:DataW H),aAz D->aAz (l.foldl (λD x=>D.put (.int .i64 x.1) (.lit (.bool ab))) D):=by
  intro l;induction l with
  |nil=>intro D h;exact h
  |cons y l ih=>
   intro D h;rw[awW];obtain⟨es,rfl⟩:=h;exact ih _ ⟨_,rfl⟩
 exact key xs _ ⟨[],rfl⟩
theorem K5{H:Type}(x:ic):∀(n:Nat) (xs:List ic),xs.length=n->(CG (H:=H) xs).atKey (.int .i64 x.1) (.lit (.bool af))=.lit (.bool (decide (x∈xs)))
 |0,xs,h=>by
  rw[awG h];rfl
 |n+1,xs,h=>by
  rcases List.eq_nil_or_concat xs with rfl|⟨ys,y,rfl⟩
  .simp at h
  .rw[List.concat_eq_append]at h⊢;rw[M5];by_cases hxy:x=y
   .subst hxy;rw[Maps.atKey_put_same (WA ys) (by simp[WideAt.IsKeyLit])];simp
   .rw[Maps.atKey_put_other (λhe=>hxy (az7 (by simpa using he))),K5 x n ys (by simpa using h)];simp[hxy]
section
variable{H:Type}{F:Fence}{nF:Nat}{P:Program}(w:World){ops:Array Oper}{rest:List Oper}{o:Oper}{a:Act}{Q:Exit->Act->World->Prop}
def HZ{e:TypeId}(he:P.underlying e=aa .bool){v:Value}{c:Bool}{ps:List MemPlace}(h:plainElem (H:=H) P e v=aa (.lit (.bool c),ps)):v=.bool c:=by
 unfold plainElem at h;rw[he]at h;cases v<;>simp at h;rw[h.1]
def rL(hg:o.guard=ah)(m x:Operand)(t:TypeId)(ew:o.op=Op.lookup t m x af)
 (k e:TypeId)(K:Maps.Keyed P k)(ht:P.underlying t=aa (.map k e))(he:P.underlying e=aa .bool)(hz:(zeroValue e).run P w=.ok (.bool af) w)(b n:Nat)(D:DataW H)
 (hm:a.eval m=.map (aa b))(o6:w.ownsMap P k (plainElem P e) b n D)(key:Value)(kl:Lit)(hx:a.eval x=key)(s6:keyOf P k key=aa kl)(c:Bool)(aM:D.atKey kl (.lit (.bool af))=.lit (.bool c))
 (hK:wpListIn F nF P ops Q rest (a.put o.dst (.bool c)) w):
 wpListIn F nF P ops Q (o::rest) a w:=by
 refine wpListIn_plain hg λK' hK'=>?_;obtain⟨v,ps,gN,hv⟩:=o6.lookup K ht hz (plainElem_bool he af) s6;rw[aM]at hv;obtain rfl:=HZ he hv;unfold Oper.wpIn;refine⟨by simp[Oper.about,ew],?_⟩;rw[Oper.semAt_plain F _ _ (by rw[ew];intro c pM;cases pM)];simp[execOp,ew,hm,hx,gN,Result.andThen];exact hK' _ _ hK
end
def Vb{H:Type}{P:Program}{k:TypeId}{R:Value->Option (DataW H×List MemPlace)}{W W':World}{b n:Nat}{D:DataW H}(h:W.ownsMap P k R b n D)(hb:W'.heap[b]?=W.heap[b]?):W'.ownsMap P k R b n D:=by
 obtain⟨es,clock,h1,h2⟩:=h;exact⟨es,clock,hb.trans h1,h2⟩
def aqj:(Tryz.prog.info? 3).map (λi=>(i.zero,i.size,i.bytes))=aa (aa (.int .i64 0),1,8):=by kernel_rfl
set_option maxRecDepth 100000 in
set_option maxHeartbeats 4000000 in
def aiO(F:Fence)(hd:F.depth=ah)(n:Nat)(atB:F.fn 207)(uL:F.fn 245)(y_:F.fn 246)(Dt:F.fn 267)(ej:F.round=ah)(d Bn:Nat)(sl:Value)(us:List (List ic))(w:World)(hb:Bn<w.heap.size)
 (hc:w.cell? ⟨Bn,0,ah⟩=aa sl)(hL:SW w.heap.size w (TW w.heap.size w d) sl us):
 CallsIn F (n+3) Tryz.prog 207 #[.func (.func 245) #[] #[.pointer (aa ⟨Bn,0,ah⟩)]] w λe W'=>∃v,e=.returned v/\W'.ownsRow w.heap.size 3 1 v (uq us.flatten).length ((uq us.flatten).map λx=>axQ .i64 x.1)/\(v=.slice ah 0 0↔uq us.flatten=[])/\Below w.heap.size w W':=by
 have h1:1<=n+3:=by omega
 obtain⟨i0,hi,qX,oL,Hv⟩:=info_parts aqj;have hmm:= @run_makeMap Tryz.prog;refine callsIn_of_wp_marks Tryz.func207 rfl atB ?_ ej;simp only[Tryz.ntmps207,axJ,awJ,axM,ax3,ax4,axy,axz,axK,axD,axp,axk]
 gi_wp2
 have bO0:=aAM w 29 (.slice ah 0 0);have ye:=World.ownsMap_made (w.alloc (.cells #[.slice ah 0 0] 29)) Tryz.prog 3 (plainElem (H:=Unit) Tryz.prog 4);have bS0:=aAM ((w.alloc (.cells #[.slice ah 0 0] 29)).alloc (.map #[] 0)) 235 (.map (aa (w.heap.size+1)));simp only[aAN]at ye bS0;have DU:Below w.heap.size w (((w.alloc (.cells #[.slice ah 0 0] 29)).alloc (.map #[] 0)).alloc (.cells #[.map (aa (w.heap.size+1))] 235)):=(((ax1 _ w).alloc (awe _) _).alloc (by simp) _).alloc (by simp;omega) _
 refine wpIn_rangeFunc_ownG ej h1 (gf:=245) (lb:= #[.pointer (aa ⟨Bn,0,ah⟩)]) rfl uL (enters_of Tryz.func245 (by kernel_rfl) rfl)
  (aah F hd uL y_ Dt ej _ d Bn w.heap.size sl us _ hb (by simp;omega) ((DU.cell (p:=⟨Bn,0,ah⟩) hb).trans hc) (hL.below DU λ_ _=>TW.below DU)) belowK_t (belowK_b (by simp;omega)) (ax1 _ _) (λ_=>rfl)
  (λpre W=>((∃v,Boxed W w.heap.size 29 v/\W.ownsRow w.heap.size 3 1 v (uq pre).length ((uq pre).map λx=>axQ .i64 x.1)/\(v=.slice ah 0 0↔uq pre=[]))/\
   (Boxed W (w.heap.size+1+1) 235 (.map (aa (w.heap.size+1)))/\W.ownsMap Tryz.prog 3 (plainElem (H:=Unit) Tryz.prog 4) (w.heap.size+1) (uq pre).length (CG (uq pre))))/\Below w.heap.size w W)
  (λ_ _ _=>False)
  (aBb (aBb (Own.from (holdsRow_own w.heap.size w.heap.size 29 3 1 (λpre=>(uq pre).length) (λpre=>(uq pre).map λx=>axQ .i64 x.1) (λpre v=>v=.slice ah 0 0↔uq pre=[])) _)
   (λs A B row hs hg hr=>⟨hs.1.kept hg (λe=>by have:=(hr _ e.symm).1;simp at this;omega),hs.2.kept hg (λe=>by have:=(hr _ e.symm).1;simp at this;omega)⟩)) (ownFrom_below (awe _) (by simp;omega)))
  (λ_ _ _ _ _ hs _ _=>hs)
  ⟨⟨⟨_,(bO0.alloc _).alloc _,World.ownsRow_nil _ _ _ _,by simp[uq]⟩,⟨bS0,ye.alloc _⟩⟩,DU⟩
  (λx=>{tmps:= #[.func (.func 245) #[] #[.pointer (aa ⟨Bn,0,ah⟩)],undef,.slice ah 0 0,.pointer (aa ⟨w.heap.size,0,ah⟩),.pointer (aa ⟨w.heap.size+1+1,0,ah⟩),.int .i64 x.1,.map (aa (w.heap.size+1)),.func (.func 245) #[] #[.pointer (aa ⟨Bn,0,ah⟩)],.int .i64 x.1,undef,undef,undef,undef,undef,undef,undef,undef,undef,undef,undef],defers:=[]}) ?assign ?body ?done ?stop
 case assign=>
  intro l x W K hK
  gi_wp2
  exact hK
 case body=>
  rintro l pre x W ⟨⟨⟨v,hv,mT,yQ⟩,ji,o6⟩,hB⟩ ak;have bD:=ji.cell;have s6:=Maps.keyOf_int_mk Tryz.underlying3 (atA x);have dZ:=afg pre;have bf:w.heap.size<=W.heap.size:=hB.size;by_cases hx:x∈uq pre
  .have aM:(CG (H:=Unit) (uq pre)).atKey (.int .i64 x.1) (.lit (.bool af))=.lit (.bool ab):=by rw[K5 x _ _ rfl];simp[hx]
   gi_wp2_with (gi_at_lookup;refine rL _ rfl _ _ 235 rfl 3 4 (azX Tryz.underlying3) Tryz.underlying235 Tryz.underlying4 (Tryz.zeroValue4 _) (w.heap.size+1) (uq pre).length _ rfl o6 _ _ rfl s6 ab aM ?_)
   exact⟨aBT _ _,ax1 _ _,⟨⟨v,hv,by rw[Va pre hx];exact mT,by rw[Va pre hx];exact yQ⟩,ji,by rw[Va pre hx];exact o6⟩,hB⟩
  .have aM:(CG (H:=Unit) (uq pre)).atKey (.int .i64 x.1) (.lit (.bool af))=.lit (.bool af):=by rw[K5 x _ _ rfl];simp[hx]
   have DM:2000000<=maxLen:=by decide
   have hum:(uq pre).length<maxLen:=by omega
   have atC:(uq pre).length+1<=maxLen:=by omega
   have hub:((uq pre).length+1)*8<=140737488355328:=by omega
   gi_wp2_with (first
    |(gi_at_lookup;refine rL _ rfl _ _ 235 rfl 3 4 (azX Tryz.underlying3) Tryz.underlying235 Tryz.underlying4 (Tryz.zeroValue4 _) (w.heap.size+1) (uq pre).length _ rfl o6 _ _ rfl s6 af aM ?_)
    |(gi_at_mapUpdate;refine wpListIn_mapUpdate_own _ rfl _ _ _ 235 rfl 3 4 (azX Tryz.underlying3) Tryz.underlying235 _ (w.heap.size+1) (uq pre).length _ rfl o6 hum _ _ _ rfl rfl s6 _ [] (plainElem_bool Tryz.underlying4 ab) ?_;intro w1 ag_ Eh;
      obtain⟨v1,Qs,aai,avU⟩:=holdsRow_own (β:=Unit) w.heap.size w.heap.size 29 3 1 (λ_=>(uq pre).length) (λ_=>(uq pre).map λx=>axQ .i64 x.1) (λ_ v=>v=.slice ah 0 0↔uq pre=[]) () W w1 (aa (w.heap.size+1)) ⟨v,hv,mT,yQ⟩ Eh (λr e=>by cases e;obtain⟨es,ck,hh,_⟩:=o6;exact⟨_,hh,rfl⟩);
      have bU:=Qs.cell;have alH:w.heap.size<=w1.heap.size:=awy bf Eh.size)
    |(gi_at_builtin;refine wpListIn_append_own _ rfl _ _ 29 rfl w.heap.size 3 i0 (.int .i64 0) 1 8 Tryz.underlying29 hi qX oL Hv rfl (by decide) _ _ _ rfl (aai.alloc _) ⟨w1.heap.size,0,ah⟩ 1 1 [.int .i64 x.1] rfl rfl (cell_one_new _ _ _) (by simp[Value.oneCell']) atC hub (awy alH (by simp)) ?_;
      intro v' w2 Lw acT _;obtain⟨g',KE,rfl⟩:=ownsRow_succ Lw;obtain⟨hv2,hv3,hr3,wQ,dL⟩:=Qs.appended (by decide) aai alH (awe _) Lw acT;have mN:=hv2.cell;have hf2:=hv2.frozen))
   have G_:Boxed w1 (w.heap.size+1+1) 235 (.map (aa (w.heap.size+1))):=ji.kept Eh (λe=>by simp at e);have atD:Boxed w2 (w.heap.size+1+1) 235 (.map (aa (w.heap.size+1))):=(G_.alloc _).kept acT (G_.not_row (by decide) aai);have atE:=atD.other (B':=w.heap.size) (by omega) (.slice (aa ⟨g',0,ah⟩) ((uq pre).length+1) KE);have Mo:w1.heap[w.heap.size+1]?=_:=ayy (ayy ag_)|>.1
   refine⟨(aBU Eh (λj e=>by cases e;simp)).trans (wQ.from _),((ax1 _ W).grown Eh bf (λk e=>by cases e;omega)).trans dL,
    ⟨⟨_,hv3,by rw[OM pre hx];simpa using hr3,by rw[OM pre hx];simp⟩,atE,?_⟩,(hB.grown Eh bf (λk e=>by cases e;omega)).trans dL⟩
   rw[OM pre hx,M5,awi];exact Vb ag_ ((wQ.same _ _ Mo rfl).trans Mo.symm)
 case done=>
  rintro D ys W hD rfl ⟨⟨⟨v,hv,mT,yQ⟩,ji,o6⟩,hB⟩ hK;have hc:=hv.cell
  gi_wp2
  refine⟨by simp,.inl ⟨_,_,rfl,run_takeDeferred hK,?_⟩⟩;exact⟨_,results_tmp rfl _ _ _,v,rfl,ownsRow_putObj mT _ hK rfl,yQ,hB.trans (belowK_b (w:=w) (awe _) W D _ _ (by simp at hD;omega) hK rfl rfl)⟩
 case stop=>
  rintro D c pre W _ _ h _;exact h.elim
end
attribute [local go_sem] ay5
def gC:Tm->List Int
 |.mk k n _ ts=>if k=1 then[n]else if k=2 then RX ts else[]
where RX:List Tm->List Int
 |[]=>[]
 |t::ts=>gC t++RX ts
theorem F4:∀l:List Tm,gC.RX l=(l.map gC).flatten
 |[]=>rfl
 |t::l=>by simp[gC.RX,F4 l]
def gh{Z:Ev.Io}{v u:Value}(h:Ev.Rv Z (.raw v) u):u=v:=by cases h;rfl
def aiP{Z:Ev.Io}{a b c d:Ev.IV}{v:Value}(h:Ev.Rv Z (.agg [a,b,c,d]) v):∃x y z u,v=.agg #[x,y,z,u]/\Ev.Rv Z a x/\Ev.Rv Z b y/\Ev.Rv Z c z/\Ev.Rv Z d u:=by
 cases h with
 |agg _ vs hl hh=>
  match vs,hl,hh with
  |[x,y,z,u],_,hh=>exact⟨x,y,z,u,rfl,hh 0 _ _ rfl rfl,hh 1 _ _ rfl rfl,hh 2 _ _ rfl rfl,hh 3 _ _ rfl rfl⟩
def aiQ{Z:Ev.Io}{a b:Ev.IV}{v:Value}(h:Ev.Rv Z (.agg [a,b]) v):∃x y,v=.agg #[x,y]/\Ev.Rv Z a x/\Ev.Rv Z b y:=by
 cases h with
 |agg _ vs hl hh=>
  match vs,hl,hh with
  |[x,y],_,hh=>exact⟨x,y,rfl,hh 0 _ _ rfl rfl,hh 1 _ _ rfl rfl⟩
def aiR{Z:Ev.Io}{a b c:Ev.IV}{v:Value}(h:Ev.Rv Z (.agg [a,b,c]) v):∃x y z,v=.agg #[x,y,z]/\Ev.Rv Z a x/\Ev.Rv Z b y/\Ev.Rv Z c z:=by
 cases h with
 |agg _ vs hl hh=>
  match vs,hl,hh with
  |[x,y,z],_,hh=>exact⟨x,y,z,rfl,hh 0 _ _ rfl rfl,hh 1 _ _ rfl rfl,hh 2 _ _ rfl rfl⟩
def K6{Z:Ev.Io}{s:Nat}{es:List Ev.IV}{v:Value}(h:Ev.Rv Z (.tree s es) v):∃a l c,v=.slice a l c:=by
 cases h with
 |tree=>exact⟨_,_,_,rfl⟩
 |eB=>exact⟨_,_,_,rfl⟩
def aaj{M:Ev.Fz}{w:World}(hM:Ev.BO M w):∀(d:Nat) (t:Tm) (v:Value),ayE t<=d->lX t->dM t->Ev.Rv (Ev.iY M) (er t) v->∃xs,TW w.heap.size w d v xs/\xs.map (·.1)=gC t:=by
 intro d;induction d with
 |zero=>intro t v h;obtain⟨k,n,s,ts⟩:=t;simp at h
 |succ d ih=>
  rintro⟨k,n,s,ts⟩ v hd hn hf hr;rw[xn]at hr;obtain⟨x,y,z,u,rfl,h1,h2,h3,h4⟩:=aiP hr;obtain rfl:=gh h1;obtain rfl:=gh h2;obtain rfl:=gh h3;obtain⟨a,l,c,rfl⟩:=K6 h4;obtain⟨_,JS,bR⟩:=(oP _).1 hn;obtain⟨hf1,hf2⟩:=(CA _).1 hf;simp only[Tm.k,Tm.n,Tm.ts]at JS bR hf1 hf2;by_cases kj:k=1
  .exact⟨[⟨n,hf1 kj⟩],⟨k,n,_,a,l,c,rfl,.inl ⟨kj,hf1 kj,rfl⟩⟩,by simp[gC,kj]⟩
  by_cases lR:k=2
  rotate_left
  .exact⟨[],⟨k,n,_,a,l,c,rfl,.inr (.inl ⟨kj,lR,rfl⟩)⟩,by simp[gC,kj,lR]⟩
  obtain⟨kD,hs,hv⟩:∃kD,SW w.heap.size w (TW w.heap.size w d) (.slice a l c) kD/\kD.map (λxs=>xs.map (·.1))=ts.map gC:=aha hM JS h4 λt ht v hv=>by
   have:=axf ht;exact ih t v (by simp at hd;omega) (bR t ht) (hf2 lR t ht) hv
  refine⟨kD.flatten,⟨k,n,_,a,l,c,rfl,.inr (.inr ⟨lR,kD,hs,rfl⟩)⟩,?_⟩;rw[aAW];simp[gC,lR,F4,hv]
where
 aha {M:Ev.Fz} {w:World} (hM:Ev.BO M w) {ts:List Tm} {a:Option Addr} {l c:Nat} (JS:Sm ts) (h4:Ev.Rv (Ev.iY M) (iT ts) (.slice a l c)) {R:Value->List ic->Prop} (ih:∀t∈ts,∀v,Ev.Rv (Ev.iY M) (er t) v->∃xs,R v xs/\xs.map (·.1)=gC t):
  ∃kD,SW w.heap.size w R (.slice a l c) kD/\kD.map (λxs=>xs.map (·.1))=ts.map gC:=by
  have iR:∀(b off k:Nat) (u:Value),Ev.qq M b (off+k)=aa u->b<w.heap.size/\w.cell? ⟨b,off+k,ah⟩=aa u:=by
   intro b off k u h;unfold Ev.qq at h;cases hb:M b with
   |none=>rw[hb]at h;cases h
   |some cs=>
    rw[hb]at h;obtain⟨e,f,hh⟩:=hM b cs hb;exact⟨hM.lt hb,by simp only[aAl,hh];exact h⟩
  obtain⟨es,jR⟩:∃es,es=ts.map er:=⟨_,rfl⟩;have h4':Ev.Rv (Ev.iY M) (.tree 4 es) (.slice a l c):=by rw[jR];exact h4
  cases h4' with
  |eB _ _ _ hs hn=>
   have:ts=[]:=by simpa using jR.symm
   subst this;exact⟨[],⟨by simp,.inl ⟨rfl,_,_,rfl⟩⟩,rfl⟩
  |tree _ _ b off _ us hs hc bD hu hh=>
   subst jR;rcases Nat.eq_zero_or_pos ts.length with h0|wW
   .have:ts=[]:=awG h0;subst this;exact⟨[],⟨by simp,.inl ⟨rfl,_,_,rfl⟩⟩,rfl⟩
   have oF:∀i (hi:i<ts.length),∃xs,R (.agg #[us (i*4),us (i*4+1),us (i*4+2),us (i*4+3)]) xs/\xs.map (·.1)=gC ts[i]:=by
    intro i hi;refine ih ts[i] (awd hi) _ ?_;have GY:(ts.map er)[i]?=aa (er ts[i]):=by simp[hi]
    have tz:=λj c=>hh i (er ts[i]) j c GY;generalize ts[i]=t at tz;obtain⟨k,n,s,ts'⟩:=t;rw[xn]at tz⊢;refine .agg _ [us (i*4),us (i*4+1),us (i*4+2),us (i*4+3)] rfl λj c v h1 h2=>?_;have:=tz j c h1;have hj:j<4:=by have:=(awa.1 h1).1;simpa using this
    match j,hj with
    |0,_=>simp at h2;subst h2;exact this
    |1,_=>simp at h2;subst h2;exact this
    |2,_=>simp at h2;subst h2;exact this
    |3,_=>simp at h2;subst h2;exact this
   have huk:∀k,k<ts.length*4->b<w.heap.size/\w.cell? ⟨b,off+k,ah⟩=aa (us k):=λk hk=>iR b off k _ (hu k (by simpa using hk));refine⟨List.ofFn λi:Fin ts.length=>aBV (oF i.1 i.2),⟨by simpa using JS,.inr ⟨b,off,_,by simp;rfl,(huk 0 (by omega)).1,λi xs hi=>?_⟩⟩,?_⟩
   .rw[List.getElem?_ofFn]at hi;split at hi
    .rename_i ak;simp only[awf]at hi;subst hi;refine⟨_,_,_,_,(huk (i*4) (by omega)).2,?_,?_,?_,(ayy (oF i ak)).1⟩
     .rw[ax2];exact(huk (i*4+1) (by omega)).2
     .rw[ax2];exact(huk (i*4+2) (by omega)).2
     .rw[ax2];exact(huk (i*4+3) (by omega)).2
    .cases hi
   .refine List.ext_getElem (by simp) λi h1 h2=>?_;simp only[aAX,List.getElem_ofFn];exact(ayy (oF i (by simpa using h1))).2
def K7{M:Ev.Fz}{w W':World}{new:Bool}{u:Value}{l:List Int}(hM:Ev.BO M w)(hB:Below w.heap.size w W')(hr:W'.ownsRow w.heap.size 3 1 u l.length (l.map λx=>axQ .i64 x)):Ev.ND new M w (Ev.iL l) u W':=by
 have AI:∀b,b<w.heap.size->W'.heap[b]?=w.heap[b]? :=hB.block;refine⟨Ev.ux new M w W',?_,?_,?_,?_,hB.os,hB.tape,hB.output,hB.size,AI⟩
 .intro b c hb;unfold Ev.ux at hb;split at hb
  .rename_i ak;split at hb
   .cases hb
   .rw[AI b ak];exact hM b c hb
  .split at hb
   .rename_i c' e f hh;cases hb;exact⟨e,f,hh⟩
   .cases hb
 .intro b c hb;unfold Ev.ux at hb;split at hb
  .split at hb
   .cases hb
   .rename_i hn;exact .inl ⟨by simpa using hn,hb⟩
  .exact .inr (by omega)
 .intro hn b c hb;have ak:=hM.lt hb;unfold Ev.ux;rw[if_pos ak,if_neg (by simp[hn])];exact hb
 .obtain⟨hlen,⟨rfl,h0⟩|⟨g,cap,cur,rfl,hg,hh,jG,_,bf,M4⟩⟩:=hr
  .have:l=[]:=awG h0;subst this;exact .eB 1 ah 0 (by omega) (λ_=>rfl)
  .by_cases hl:l=[]
   .subst hl;exact .eB 1 _ _ (by omega) (by simp)
   have dD:∀(k:Nat) (x:Int),l[k]?=aa x->cur[k]?=aa (axQ .i64 x):=by
    intro k x hk;have eX:=(awa.1 hk).1;have:(cur.toList.take (l.length*1))[k]?=aa (axQ .i64 x):=by rw[M4];simp[hk]
    rw[List.getElem?_take,if_pos (by omega)]at this;simpa using this
   have hcm:Ev.qq (Ev.ux new M w W') g=λk=>cur[k]? :=by
    funext k;unfold Ev.qq Ev.ux;rw[if_neg (by omega),hh];rfl
   have:=Ev.Rv.tree (Z:=Ev.iY (Ev.ux new M w W')) 1 (l.map Ev.iI) g 0 cap (λk=>(cur[k]?).getD awT) (by omega) (by simpa using jG) (λe he=>by obtain⟨x,_,rfl⟩:=awB.1 he;rfl)
    (λk hk=>by
     show Ev.qq (Ev.ux new M w W') g (0+k)=_;rw[hcm];simp only[aw0,aBH]at hk;have:=dD k l[k] (av_ hk);simp[this]) (λi e j c he hc=>by
     rw[awu]at he;obtain⟨x,hx,rfl⟩:=Option.map_eq_some_iff.1 he
     have hj:j=0:=by
      have:=(awa.1 hc).1;simp[Ev.cellsOf]at this;exact this
     subst hj;simp[Ev.cellsOf]at hc;subst hc;have:=dD i x hx;simp only[aBH,Nat.add_zero,this,Option.getD_some];exact .raw _)
   simpa using this
attribute [local go_sem] ay5
def SW.wide{n₀ n₁:Nat}{A:World}(h:n₀<=n₁){R R':Value->List ic->Prop}(hR:∀v xs,R v xs->R' v xs){sl:Value}{kD:List (List ic)}(hs:SW n₀ A R sl kD):SW n₁ A R' sl kD:=by
 rcases hs with⟨hl,hs|⟨b,off,cap,h1,h2,h3⟩⟩
 .exact⟨hl,.inl hs⟩
 .refine⟨hl,.inr ⟨b,off,cap,h1,by omega,λi xs hi=>?_⟩⟩;obtain⟨u0,u1,u2,u3,g0,g1,g2,g3,g4⟩:=h3 i xs hi;exact⟨u0,u1,u2,u3,g0,g1,g2,g3,hR _ _ g4⟩
theorem TW.wide{n₀ n₁:Nat}{A:World}(h:n₀<=n₁):∀{d:Nat} {v:Value} {xs:List ic},TW n₀ A d v xs->TW n₁ A d v xs
 |0,_,_,ht=>ht
 |d+1,_,_,⟨k,n,s,a,l,c,h1,h2⟩=>⟨k,n,s,a,l,c,h1,h2.imp id λh2=>h2.imp id λ⟨hk,kD,h3,h4⟩=>⟨hk,kD,h3.wide h λ_ _=>TW.wide h,h4⟩⟩
def Vc{W:World}{b b':Nat}{e:TypeId}{s:Nat}{v:Value}{n:Nat}{xs:List Value}(h:b<=b')(hr:W.ownsRow b' e s v n xs):W.ownsRow b e s v n xs:=by
 obtain⟨h1,h2|⟨g,cap,cur,h2,h3,h4⟩⟩:=hr
 .exact⟨h1,.inl h2⟩
 .exact⟨h1,.inr ⟨g,cap,cur,h2,by omega,h4⟩⟩
def Bg(l:List Int):List Int:=l.foldl (λacc x=>if x∈acc then acc else acc++[x]) []
def alI(xs:List ic):(uq xs).map (·.1)=Bg (xs.map (·.1)):=by
 have key:∀(l acc:List ic),(l.foldl (λacc x=>if x∈acc then acc else acc++[x]) acc).map (·.1)=(l.map (·.1)).foldl (λacc x=>if x∈acc then acc else acc++[x]) (acc.map (·.1)):=by
  intro l;induction l with
  |nil=>intro acc;rfl
  |cons y l ih=>
   intro acc;rw[awW,ih,awZ,awW]
   congr 1
   have hm:y∈acc↔y.1∈acc.map (·.1):=by
    rw[awB];exact⟨λh=>⟨y,h,rfl⟩,λ⟨a,h1,h2⟩=>by rw[az7 h2.symm];exact h1⟩
   by_cases h:y∈acc
   .rw[if_pos h,if_pos (hm.1 h)]
   .rw[if_neg h,if_neg (λh'=>h (hm.2 h'))];simp
 exact key xs []
def varsOf(ts:List Tm):List Int:=Bg (ts.map gC).flatten
def X3{w w2:World}{ts:List Tm}{a:Option Addr}{l c d:Nat}{kD:List (List ic)}(n Bn:Nat)(hB:Below w.heap.size w w2)(gJ:SW w2.heap.size w2 (TW w2.heap.size w2 d) (.slice a l c) kD)(hv:kD.map (λxs=>xs.map (·.1))=ts.map gC)(hb:Bn<w2.heap.size)
 (hc:w2.cell? ⟨Bn,0,ah⟩=aa (.slice a l c)):
 CallsIn awP n Tryz.prog 207 #[.func (.func 245) #[] #[.pointer (aa ⟨Bn,0,ah⟩)]] w2 λe W'=>∃v,e=.returned v/\W'.ownsRow w.heap.size 3 1 v (varsOf ts).length ((varsOf ts).map λx=>axQ .i64 x)/\Below w.heap.size w W':=by
 have dP:(uq kD.flatten).map (·.1)=varsOf ts:=by
  rw[alI,aAW,varsOf,hv]
 refine callsIn_wide.2 (callsIn_wide.1 ((aiO awP rfl 0 trivial trivial trivial trivial rfl d Bn _ kD w2 hb hc gJ).mono ?_));rintro e W' ⟨v,rfl,h1,_,h3⟩;refine⟨v,rfl,?_,hB.trans (h3.mono hB.size)⟩;rw[<-dP,azb,aw0];exact Vc hB.size h1
def QF{M:Ev.Fz}{w w2:World}(hM:Ev.BO M w){ts:List Tm}(JS:Sm ts)(hn:∀t∈ts,lX t)(hf:∀t∈ts,dM t){a:Option Addr}{l c:Nat}(hr:Ev.Rv (Ev.iY M) (iT ts) (.slice a l c))(n Bn:Nat)(hB:Below w.heap.size w w2)(hb:Bn<w2.heap.size)
 (hc:w2.cell? ⟨Bn,0,ah⟩=aa (.slice a l c)):
 CallsIn awP n Tryz.prog 207 #[.func (.func 245) #[] #[.pointer (aa ⟨Bn,0,ah⟩)]] w2 λe W'=>∃v,e=.returned v/\W'.ownsRow w.heap.size 3 1 v (varsOf ts).length ((varsOf ts).map λx=>axQ .i64 x)/\Below w.heap.size w W':=by
 obtain⟨d,hd⟩:∃d,∀t∈ts,ayE t<=d:=⟨ayE ts,λt ht=>Nat.le_of_lt (axf ht)⟩;obtain⟨kD,hs,hv⟩:=aaj.aha (R:=TW w.heap.size w d) hM JS hr λt ht v hv=>aaj hM d t v (hd t ht) (hn t ht) (hf t ht) hv;exact X3 n Bn hB ((hs.below hB λ_ _=>TW.below hB).wide hB.size λ_ _=>TW.wide hB.size) hv hb hc
def Du(W:World)(v:Value)(t:TypeId):(W.alloc (.cells #[v] t)).cell? ⟨W.heap.size,0,ah⟩=aa v:=(aAM W t v).cell
set_option maxRecDepth 100000 in
set_option maxHeartbeats 2000000 in
def atG(new:Bool)(s:List UInt8){ts:List Tm}(JS:Sm ts)(hn:∀t∈ts,lX t)(hf:∀t∈ts,dM t):Ev.eC Tryz.prog af new 164 [.agg [Ev.iS s,iT ts]] (Ev.iL (varsOf ts)):=by
 intro M w us hM qu;obtain⟨v,wA,rfl,h1,h2⟩:=qu.x_;obtain rfl:=h2.of_nil;obtain⟨x,y,rfl,g1,g2⟩:=aiQ h1;obtain rfl:=gh g1;obtain⟨a,l,c,rfl⟩:=K6 g2;have Uj:Below w.heap.size w ((w.alloc (.cells #[.string ⟨s.toArray⟩,.slice a l c] 99)).alloc (.cells #[.slice a l c] 68)):=((ax1 _ w).alloc (awe _) _).alloc (by simp) _;have QG:=QF hM JS hn hf g2 0 (w.heap.size+1) Uj (by simp) (by have:=Du (w.alloc (.cells #[.string ⟨s.toArray⟩,.slice a l c] 99)) (.slice a l c) 68;simpa using this);clear g1 g2 h1 h2 qu;refine callsIn_of_wp Tryz.func164 rfl trivial ?_ rfl;simp only[Tryz.ntmps164,axJ,awJ,axM,ax3,ax4,axy,axz,axK,axD,axp,axk]
 gi_wp2_with (first
  |(refine⟨trivial,rfl,?_⟩;refine(OL awP _ trivial rfl a l c _).mono ?_;rintro e w' ⟨rfl,rfl⟩)
  |(refine⟨trivial,rfl,?_⟩;refine QG.mono ?_;clear QG;rintro e W2 ⟨u,rfl,mT,hB⟩))
 go_ret
 exact⟨rfl,K7 hM hB mT⟩
set_option maxRecDepth 100000 in
set_option maxHeartbeats 2000000 in
def atH(new:Bool)(op:Int)(s:List UInt8){ts:List Tm}(JS:Sm ts)(hn:∀t∈ts,lX t)(hf:∀t∈ts,dM t):Ev.eC Tryz.prog af new 230 [.agg [Ev.iI op,Ev.iS s,iT ts]] (Ev.iL (varsOf ts)):=by
 intro M w us hM qu;obtain⟨v,wA,rfl,h1,h2⟩:=qu.x_;obtain rfl:=h2.of_nil;obtain⟨x,z,y,rfl,g1,g3,g2⟩:=aiR h1;obtain rfl:=gh g1;obtain rfl:=gh g3;obtain⟨a,l,c,rfl⟩:=K6 g2;have Uj:Below w.heap.size w ((w.alloc (.cells #[.int .i64 op,.string ⟨s.toArray⟩,.slice a l c] 70)).alloc (.cells #[.slice a l c] 68)):=((ax1 _ w).alloc (awe _) _).alloc (by simp) _;have QG:=QF hM JS hn hf g2 0 (w.heap.size+1) Uj (by simp) (by have:=Du (w.alloc (.cells #[.int .i64 op,.string ⟨s.toArray⟩,.slice a l c] 70)) (.slice a l c) 68;simpa using this);clear g1 g2 h1 h2 qu;refine callsIn_of_wp Tryz.func230 rfl trivial ?_ rfl;simp only[Tryz.ntmps230,axJ,awJ,axM,ax3,ax4,axy,axz,axK,axD,axp,axk]
 gi_wp2_with (first
  |(refine⟨trivial,rfl,?_⟩;refine(OL awP _ trivial rfl a l c _).mono ?_;rintro e w' ⟨rfl,rfl⟩)
  |(refine⟨trivial,rfl,?_⟩;refine QG.mono ?_;clear QG;rintro e W2 ⟨u,rfl,mT,hB⟩))
 go_ret
 exact⟨rfl,K7 hM hB mT⟩
set_option maxRecDepth 100000 in
set_option maxHeartbeats 2000000 in
def atI(new:Bool)(t:Tm)(hn:lX t)(hf:dM t):Ev.eC Tryz.prog af new 204 [er t] (Ev.iL (varsOf [t])):=by
 intro M w us hM qu;obtain⟨v,wA,rfl,h1,h2⟩:=qu.x_;obtain rfl:=h2.of_nil;obtain⟨xs,htw,nZ⟩:=aaj hM (ayE t) t v (awe _) hn hf h1;obtain⟨k,n,s,a,l,c,rfl⟩:=htw.form;have DU:Below w.heap.size w (w.alloc (.cells #[.int .i64 k,.int .i64 n,.string s,.slice a l c] 106)):=(ax1 _ w).alloc (awe _) _;have Uj:Below w.heap.size w ((w.alloc (.cells #[.int .i64 k,.int .i64 n,.string s,.slice a l c] 106)).alloc (.cells #[.int .i64 k,.int .i64 n,.string s,.slice a l c] 106)):=DU.alloc (by simp) _;have hB2:Below w.heap.size w (((w.alloc (.cells #[.int .i64 k,.int .i64 n,.string s,.slice a l c] 106)).alloc (.cells #[.int .i64 k,.int .i64 n,.string s,.slice a l c] 106)).alloc (.cells #[.slice (aa ⟨w.heap.size+1,0,ah⟩) 1 1] 68)):=Uj.alloc (by simp;omega) _;have gk:=World.alloc_heap_new (w.alloc (.cells #[.int .i64 k,.int .i64 n,.string s,.slice a l c] 106)) (.cells #[.int .i64 k,.int .i64 n,.string s,.slice a l c] 106);rw[aAN]at gk;have ahb:(((w.alloc (.cells #[.int .i64 k,.int .i64 n,.string s,.slice a l c] 106)).alloc (.cells #[.int .i64 k,.int .i64 n,.string s,.slice a l c] 106)).alloc (.cells #[.slice (aa ⟨w.heap.size+1,0,ah⟩) 1 1] 68)).heap[w.heap.size+1]?=aa (.cells #[.int .i64 k,.int .i64 n,.string s,.slice a l c] 106):=(Below.heap_alloc _ _ _ (by simp)).trans gk
 have QG:=X3 (ts:=[t]) (kD:=[xs]) (d:=ayE t) (a:=aa ⟨w.heap.size+1,0,ah⟩) (l:=1) (c:=1) 0 (w.heap.size+1+1) hB2
  ⟨by simp,.inr ⟨w.heap.size+1,0,1,rfl,by simp,λi ys hi=>by
   cases i with
   |succ i=>simp at hi
   |zero=>
    simp at hi;subst hi;refine⟨.int .i64 k,.int .i64 n,.string s,.slice a l c,?_,?_,?_,?_,(TW.below hB2 htw).wide hB2.size⟩
    all_goals (simp only[aAl];rw[ahb];rfl)⟩⟩ (by simp only[awZ,ayf,nZ]) (by simp) (by have:=Du ((w.alloc (.cells #[.int .i64 k,.int .i64 n,.string s,.slice a l c] 106)).alloc (.cells #[.int .i64 k,.int .i64 n,.string s,.slice a l c] 106)) (.slice (aa ⟨w.heap.size+1,0,ah⟩) 1 1) 68;simpa using this)
 clear gk ahb h1 h2 qu htw;refine callsIn_of_wp Tryz.func204 rfl trivial ?_ rfl;simp only[Tryz.ntmps204,axJ,awJ,axM,ax3,ax4,axy,axz,axK,axD,axp,axk]
 gi_wp2_with (first
  |(refine⟨trivial,rfl,?_⟩;refine(OL awP _ trivial rfl _ 1 1 _).mono ?_;rintro e w' ⟨rfl,rfl⟩)
  |(refine⟨trivial,rfl,?_⟩;refine QG.mono ?_;clear QG;rintro e W2 ⟨u,rfl,mT,hB⟩))
 go_ret
 exact⟨rfl,K7 hM hB mT⟩
end Go.Proofs.YtabefplkfkfdfaaGreat
namespace Go.Proofs.YtabefplkfkfdfaaGreat
open Go Go.RowKit
end Go.Proofs.YtabefplkfkfdfaaGreat
namespace Go.Proofs.YtabefplkfkfdfaaGreat
open Go Go.Ev
def alJ:List Nat:=[266,24,25,7,69,257,72,26,71,137,70,139,225,145,183,75,76,136,186,140,184,224,138,185,9,28,27,143,77,142,141,74,144,73,146,78,39,268,192,154,227,33,85,155,233,199,164,230,194,166,204,95,93,162,280]
def alK:List Nat:=[]
def alL:List Nat:=[201]
def alM:List Nat:=[185,247,209,222000151,500195,500196]
def RY(l:List Hint):fe:=⟨alJ,alK,alL,l++[⟨999999,0,0,[],[],[],[]⟩],alM⟩
def ahc:aq:=
 (jo 6 0 fP (ML 0 2 (I0 fP I_) (.aE (.dec 7 (I0 fP I_) gP) (KJ 2 40 qL fS (Ba 2 40 1 qD Ci)))))
def atJ:aQ Tryz.prog (RY []) 400 af 33=ahc:=by kernel_rfl
def acU:aq:=
 (pq bA .geq bA 5 (.nr (sj .leq bA 12)) bF)
def aqk:aQ Tryz.prog (RY []) 400 af 199=acU:=by kernel_rfl
def X4:aq:=
 (sf (j2 162 bA cb (gn bZ (sj .geq bZ 0) (tc (sj .geq bZ 0)))))
def alN:aQ Tryz.prog (RY []) 400 ab 95=X4:=by kernel_rfl
def Vd:aq:=
 (nf 2 dE 1 bA 2 (dV 3 (ph 1 cb 2 (gz c8 .neq dG c8 (tc e_) xM))) (tc gP))
def acV:aq:=
 (sf (.aE dE (gz j8 .neq dE j8 (tc e_) (.aE dE Vd))))
def aql:aQ Tryz.prog (RY [⟨0,93,4,[(0,(13,0))],[],[],[]⟩]) 400 ab 93=acV:=by kernel_rfl
def acW:List Nat:=[266,24,25,7,69,257,72,26,71,137,70,139,225,145,183,75,76,136,186,140,184,224,138,185,9,28,27,143,77,142,141,74,144,73,146,78,39,268,192,154,227,33,85,155,233,199,164,230,194,166,204,95,93,162,280]
def acX:List Nat:=[151,190]
def acY:List Nat:=[201]
def acZ:List Nat:=[185,247,209,222000151,500195,500196]
def ahd(l:List Hint):fe:=⟨acW,acX,acY,l++[⟨999999,0,0,[],[],[],[]⟩,⟨999998,0,0,[],[],[],[]⟩],acZ⟩
def RZ(l:List Hint):fe:=⟨acW,acX,acY,l++[⟨999999,0,0,[],[],[],[]⟩],acZ⟩
def QH:aq:=
 (js (tW 2) 4 3 2 dG 4 (il 2 6 164 (mJ 6 6) (gn kQ (.rws kQ) (Ba 1 8 5 kQ (lG 4 8)))) (fZ 1 5))
def QI:aq:=
 (tV 1 1 dE 1 bA 1 (ja dG 3 QH) (.ret (.rws mH)))
def OO:aq:=
 (tS dE QI)
def alO:ve Tryz.prog (RZ [⟨0,195,3,[(0,(3,0)),(0,(10,0))],[(0,0)],[],[]⟩,⟨0,195,6,[(0,(3,0)),(0,(16,0))],[(0,0)],[],[]⟩]) 400 af 195=OO:=by kernel_rfl
def QJ:aq:=
 (js s_ 3 2 2 bZ 3 (il 2 4 164 (mJ 4 4) (gn c9 (.sub 1 c9 (qo 5) bu) (mU 1 3))) sh)
def QK:aq:=
 (nf 1 dE 1 bA 1 (ja bZ 2 QJ) (.ret MP))
def OP:aq:=
 (tS dE QK)
def alP:ve Tryz.prog (ahd [⟨0,195,3,[(0,(10,0))],[],[],[]⟩,⟨0,195,6,[(0,(16,0))],[],[],[]⟩]) 400 ab 195=OP:=by kernel_rfl
def QL:aq:=
 (js (tW 2) 4 3 3 dG 4 (il 3 6 230 (pw 6 6 6) (gn kQ (.rws kQ) (Ba 1 8 5 kQ (lG 4 8)))) (fZ 1 5))
def QM:aq:=
 (tV 1 1 dE 1 bA 1 (ja dG 3 QL) (.ret (.rws mH)))
def OQ:aq:=
 (tS dE QM)
def alQ:ve Tryz.prog (RZ [⟨0,196,3,[(0,(3,0)),(0,(10,0))],[(0,0)],[],[]⟩,⟨0,196,6,[(0,(3,0)),(0,(16,0))],[(0,0)],[],[]⟩]) 400 af 196=OQ:=by kernel_rfl
def QN:aq:=
 (js s_ 3 2 3 bZ 3 (il 3 4 230 (pw 4 4 4) (gn c9 (.sub 1 c9 (qo 5) bu) (mU 1 3))) sh)
def QO:aq:=
 (nf 1 dE 1 bA 1 (ja bZ 2 QN) (.ret MP))
def OS:aq:=
 (tS dE QO)
def alR:ve Tryz.prog (ahd [⟨0,196,3,[(0,(10,0))],[],[],[]⟩,⟨0,196,6,[(0,(16,0))],[],[],[]⟩]) 400 ab 196=OS:=by kernel_rfl
def X5:aq:=
 (nf 3 dE 2 bA 3 (tX 2 4 82 (ij cb bZ) (mJ 4 4) (.nr (oB 3)) si) bF)
def ahe:aq:=
 (sf (gn bZ dE X5))
def atK:aQ Tryz.prog (RZ [⟨2,233012008,2,[(2,(8,0))],[],[],[]⟩]) 400 af 233=ahe:=by kernel_rfl
def X6:aq:=
 (mG zQ 2 FK 2 oz 2 (il 2 4 154 Jc (ik c9 c9 (I8 (.i 7) 0 7) (oN .geq 4 1 0 (ik (Z2 .leq 4 1 6) (Z2 .leq 4 1 6) (I8 (.i 9) 0 9) (Z5 (.get 82 pj (mJ 4 4) e_) (ik (ae7 6) (ae7 6) (I8 (.i 8) 0 8) (MI 82 pj (mJ 4 4) gP (lG 2 7))))) (I8 (.i 9) 0 9)))) (jZ 1 (ik (KK .leq 0 1 40) (KK .leq 0 1 40) (I8 (.i 6) 0 6) (.next 0 s_))))
def X7:aq:=
 (nf 2 fP 6 fS 2 (fR 6 3 (j2 155 oz (jb 3 3 3 3 3 3) (y7 c8 .neq 38 c8 0 (A_ mH c8) xM))) (A_ bu bu))
def X8:aq:=
 (.tG (jN 1069 (IU 221) (jZ 0 (ik (KK .leq 0 0 30) (KK .leq 0 0 30) (I8 (.i 6) 0 6) (jZ 0 X6)))) 1 (.nt (Z0 .neq 38 1 0) (Z1 (uI qE 1)) (jZ 1 X7)))
def aak:aq:=
 (fR 2 0 X8)
def atL:aQ Tryz.prog (RZ [⟨0,85,5,[(0,(15,0))],[],[],[]⟩,⟨2,85010000,3,[(2,(13,0))],[(2,0)],[],[]⟩,⟨0,85,1000008,[(0,(8,0))],[],[],[]⟩]) 400 af 85=aak:=by kernel_rfl
def aiS(l:List Int)(x:Int):x∈Bg l↔x∈l:=by
 have key:∀(l acc:List Int),x∈(l.foldl (λacc x=>if x∈acc then acc else acc++[x]) acc)↔x∈acc\/x∈l:=by
  intro l;induction l with
  |nil=>simp
  |cons y l ih=>
   intro acc;rw[awW,ih];split
   .rename_i h;constructor
    .rintro(h1|h1)
     .exact .inl h1
     .exact .inr (by simp[h1])
    .rintro(h1|h1)
     .exact .inl h1
     .rcases aws.1 h1 with rfl|h1
      .exact .inl h
      .exact .inr h1
   .simp[or_assoc]
 simpa[Bg]using key l []
def ac0(l:List Int):(Bg l).Nodup:=by
 have key:∀(l acc:List Int),acc.Nodup->(l.foldl (λacc x=>if x∈acc then acc else acc++[x]) acc).Nodup:=by
  intro l;induction l with
  |nil=>intro acc h;exact h
  |cons y l ih=>
   intro acc h;rw[awW];refine ih _ ?_;split
   .exact h
   .rename_i hy;rw[ayD];exact⟨h,by simp,λa ha b hb=>by simp at hb;subst hb;exactλhe=>hy (he▸ha)⟩
 exact key l [] ay
theorem M6:∀(d:Nat) (t:Tm),ayE t<=d->dM t->∀x∈gC t,0<=x/\x<=1048576
 |0,.mk k n s ts,hd,_,_,_=>by simp at hd
 |d+1,.mk k n s ts,hd,h,x,hx=>by
  obtain⟨h1,h2⟩:=(CA _).1 h;simp only[Tm.k,Tm.n,Tm.ts]at h1 h2;unfold gC at hx;split at hx
  .simp at hx;subst hx;exact h1 ‹_›
  .split at hx
   .rw[F4]at hx;obtain⟨l,hl,hx⟩:=ays.1 hx;obtain⟨u,hu,rfl⟩:=awB.1 hl;refine M6 d u ?_ (h2 ‹_› u hu) x hx;have:=axf hu;simp at hd;omega
   .simp at hx
def CH(t:Tm)(h:dM t):∀x∈gC t,0<=x/\x<=1048576:=M6 _ t (awe _) h
def Ve{ts:List Tm}(hf:∀t∈ts,dM t):(varsOf ts).length<=1048577:=
 ON 1048577 _ (ac0 _) λx hx=>by
  rw[varsOf,aiS]at hx;obtain⟨l,hl,hx⟩:=ays.1 hx;obtain⟨u,hu,rfl⟩:=awB.1 hl;have:=CH u (hf u hu) x hx;omega
def Dv(a:At):Prop:=∀t∈a.ts,dM t
def Dw(g:Gl):Prop:=∀t∈g.ts,dM t
def c46(new:Bool)(a:At)(h:pZ a)(hf:Dv a):CC 164 new [.agg [iS a.s,iT a.ts]] (iL (varsOf a.ts)):=
 CC.plain (by rw[jO];decide) (atG new a.s h.2.1 h.2.2 hf) (Ec _) kr
def c87(new:Bool)(g:Gl)(h:qO g)(hf:Dw g):CC 230 new [.agg [iI g.op,iS g.s,iT g.ts]] (iL (varsOf g.ts)):=
 CC.plain (by rw[jO];decide) (atH new g.op g.s h.2.1 h.2.2 hf) (Ec _) kr
def c88(new:Bool)(t:Tm)(h:lX t)(hf:dM t):CC 204 new [er t] (iL (varsOf [t])):=
 CC.plain (by rw[jO];decide) (atI new t h hf) (Ec _) kr
def R0(l:List Int)(n:Int)(hl:Sm l):CC 95 ab [iL l,iI n] (iB (l.contains n)):=by
 refine CC.of alN kr kr ay ay ?_;simp[X4,SE.den];refine⟨_,atl l n hl,?_⟩;have:=UX n l 0;simp at this⊢;simp[aN];exact this
def JT(r:Rl)(h:r.aw.length+r.az.length<=1000):CC 33 af [cU r] (c_ (r.aw++r.az)):=by
 refine CC.of atJ kr kr (by simpa using jn r) ay ?_;have h1:=RU (a:=[]) (b:=r.aw) (by simp;omega);have h2:=RU h;have hw:awK.wrap ((r.aw.length:Int)+r.az.length)=r.aw.length+r.az.length:=eT aj aj;simp only[axp,ayf]at h1;rw[cu];simp[ahc,SE.den,ao,hw,jK];exact⟨by omega,_,h1,h2⟩
mutual
theorem aiT:∀t:Tm,dU t=ab->dM t
 |.mk k n s ts,h=>by
  rw[CA];simp only[Tm.k,Tm.n,Tm.ts];refine⟨λh1=>?_,λh2=>?_⟩
  .rw[OG (by exact h1)]at h;simp only[Tm.n,awb]at h;exact⟨of_decide_eq_true h.1.1.1,of_decide_eq_true h.1.1.2⟩
  .rw[OH (by exact h2),<-Ab]at h;simp only[awb]at h;exact K8 ts h.2
theorem K8:∀l:List Tm,Ee l=ab->∀u∈l,dM u
 |[],_=>by simp
 |t::l,h=>by
  simp only[Ee,awb]at h;intro u hu;rcases aws.1 hu with hu|hu
  .rw[hu];exact aiT t h.1
  .exact K8 l h.2 u hu
end
def Vf{l:List Tm}(h:lj l=ab):∀u∈l,dM u:=by
 simp only[lj,awb,<-Ab]at h;exact K8 l h.1.1
def th(acc:List Int)(x:Int):List Int:=if x∈acc then acc else acc++[x]
def db(l xs:List Int):List Int:=xs.foldl th l
def Bh(xs:List Int):db [] xs=Bg xs:=rfl
def nR(l xs ys:List Int):db l (xs++ys)=db (db l xs) ys:=by simp[db,azA]
theorem Vr.db{l xs:List Int}(h:Vr l)(hx:∀x∈xs,0<=x/\x<=1048576):Vr (db l xs):=by
 induction xs generalizing l with
 |nil=>exact h
 |cons x xs ih=>
  refine ih (l:=th l x) ?_ (λy hy=>hx y (by simp[hy]));unfold th;split
  .exact h
  .exact h.snoc (by assumption) (hx x ay)
def eA(l:List Tm):List Int:=(l.map gC).flatten
def QP{l:List Tm}{i:Nat}(h:i<l.length):eA (l.take (i+1))=eA (l.take i)++gC l[i]:=by
 unfold eA;rw[awh h,axw,axh];simp
def aal{l:List Tm}(h:∀t∈l,dM t):∀x∈eA l,0<=x/\x<=1048576:=λx hx=>by
 obtain⟨y,hy,hx⟩:=ays.1 hx;obtain⟨u,hu,rfl⟩:=awB.1 hy;exact CH u (h u hu) x hx
def QQ{t:Tm}(h:t.k≠1):gC t=eA (bX t):=by
 obtain⟨k,n,s,ts⟩:=t;simp only[Tm.k]at h;simp only[gC,h,if_false,bX,Tm.k,Tm.ts,F4,eA];by_cases h2:k=2<;>simp[h2]
def CC.atM{n:Nat}{new:Bool}{f:FuncId}{di:aq}{cfg:fe}{l r:List Int}{xs:List IV}(he:Au Tryz.prog cfg n 1 f=di)(hl:(Tryz.prog.funcs[f]?).map (·.params.size)=aa (xs.length+1))(hn:noTwo di=ab)
 (hs:di.sat Tryz.prog CC (y8 (·=r)) [] (iL l::xs)):CC (306+f) new (iL l::xs) (iL r):=by
 obtain⟨_,rfl,h⟩:=CC.als (·=r) he hl hn hs;exact h
def CC.CI{n:Nat}{new:Bool}{f:FuncId}{di:aq}{cfg:fe}{args:List IV}{r:List Int}(he:aQ Tryz.prog cfg n new f=di)(hl:(Tryz.prog.funcs[f]?).map (·.params.size)=aa args.length)(ht:∀z,oq Tryz.prog f z=ab)(hp:∀x∈args,Pure x)(hn:noTwo di=ab)
 (hs:di.sat Tryz.prog CC (y8 (·=r)) [] args):CC f new args (iL r):=by
 obtain⟨_,rfl,h⟩:=CC.aty (·=r) he hl ht hp hn hs;exact h
def aqm(t:Tm)(wO:Sm t.ts)(ht:dM t)(ih:∀u∈t.ts,dM u->∀l:List Int,Vr l->CC 491 ab [iL l,er u] (iL (db l (gC u))))(l:List Int)(hl:Vr l):
 CC 491 ab [iL l,er t] (iL (db l (gC t))):=by
 refine CC.atM (f:=185) ap8 kr (by rfl) ?_;have K3:=ae9 t;have GP:=hl.len;have ey:(bX t).length<=9223372036854775807:=by unfold bX;split<;>simp[wO]
 have hfa:∀u∈bX t,dM u:=λu hu=>acI ht hu;have iha:∀u∈bX t,∀l:List Int,Vr l->CC 491 ab [iL l,er u] (iL (db l (gC u))):=λu hu=>ih u (rJ hu) (hfa u hu);rw[bL]at K3⊢;have key:∀(m:List Int),Vr m->∀(x:List IV->List IV) (K:List (List IV->Prop)),True:=λ_ _ _ _=>trivial
 have step:∀{m:List Int} {i:Nat} {a:List Int} (ak:i<(bX t).length),Vr a/\a=db m (eA ((bX t).take i))->Vr (db a (gC (bX t)[i]))/\db a (gC (bX t)[i])=db m (eA ((bX t).take (i+1))):=by
  rintro m i a ak ⟨h1,rfl⟩;exact⟨h1.db (CH _ (hfa _ (awd ak))),by rw[QP ak,nR]⟩
 have fin:∀{m:List Int} {i:Nat} {a:List Int},¬i<(bX t).length->Vr a/\a=db m (eA ((bX t).take i))->a=db m (eA (bX t)):=by
  rintro m i a ak ⟨_,rfl⟩;rw[awr aj]
 have l4:t.k≠1->KV.sat Tryz.prog CC (y8 (·=db l (gC t))) [] [iL l,.agg [iI t.k,iI t.n,iS t.s,iT t.ts],iT (bX t)]:=by
  intro hk;rw[QQ hk];unfold KV;refine aC (bX t).length (λi (a:List Int)=>[iI i,iL a]) (λi a=>Vr a/\a=db l (eA ((bX t).take i))) l ?_ ?_ λi a hi hI=>?_
  .simp[SE.den]
  .exact⟨hl,rfl⟩
  by_cases ak:i<(bX t).length
  .have hw:=aI ak ey;have hb:=iha (bX t)[i] (awd ak) a hI.1;rw[bL]at hb;simp[SE.den,ak,hw,nP ak,bL,ao,aN,cellsOf];exact⟨_,hb,_,by simp,by omega,step ak hI⟩
  .simp[SE.den,ak];exact⟨_,⟨by simp[cellsOf,aN],rfl⟩,by rw[Av];exact fin ak hI⟩
 have l2:bX t=[]->∀x:IV,KU.sat Tryz.prog CC (y8 (·=l)) [] [iL l,.agg [iI t.k,iI t.n,iS t.s,iT t.ts],x,iT (bX t)]:=by
  intro ha x;unfold KU;rw[ha];refine aC 0 (λi (a:List Int)=>[iI i,iL a]) (λi a=>a=l) l ?_ rfl λi a hi hI=>?_
  .simp[SE.den]
  obtain rfl:i=0:=aj;simp[SE.den];subst a;exact⟨_,⟨by simp[cellsOf,aN],rfl⟩,by rw[Av]⟩
 have l1:bX t=[]->∀(x:IV) (m:List Int),KT.sat Tryz.prog CC (y8 (·=m)) [] [iL l,.agg [iI t.k,iI t.n,iS t.s,iT t.ts],x,iL m,iT (bX t)]:=by
  intro ha x m;unfold KT;rw[ha];refine aC 0 (λi (a:List Int)=>[iI i,iL a]) (λi a=>a=m) m ?_ rfl λi a hi hI=>?_
  .simp[SE.den]
  obtain rfl:i=0:=aj;simp[SE.den];subst a;exact⟨_,⟨by simp[cellsOf,aN],rfl⟩,by rw[Av]⟩
 have l0:KR.sat Tryz.prog CC (y8 (·=db l (gC t))) [HN λvs=>∃b:Bool,vs=[iB b]/\(b=decide (t.n∈l))] [iL l,.agg [iI t.k,iI t.n,iS t.s,iT t.ts]]:=by
  unfold KR;refine ir l.length (λi (_:Unit)=>[iI i]) (λi _=>∀x∈l.take i,x≠t.n) () ?_ ?_ λi _ hi hI=>?_
  .simp[SE.den]
  .simp
  by_cases ak:i<l.length
  .have hw:=aI ak aj;simp[SE.den,ak,hw,cellsOf,HN];by_cases he:l[i]=t.n
   .left;exact⟨he,he▸awd ak⟩
   .right;exact⟨he,by omega,cI ak hI he⟩
  .have:=dq ak hI;simp[SE.den,ak,HN];exactλh=>this _ h rfl
 simp[acH,SE.den,ao];by_cases k1:t.k=1
 .left;refine⟨k1,?_⟩;have atN:gC t=[t.n]:=by obtain⟨k,n,s,ts⟩:=t;simp only[Tm.k]at k1;simp[gC,k1,Tm.n]
  have bJ:bX t=[]:=OJ aj;rw[atN]at l0⊢;unfold UW;refine kW (λvs=>∃b:Bool,vs=[iB b]/\(b=decide (t.n∈l))) l0 ?_;rintro vs ⟨b,rfl,hb⟩;refine⟨rfl,?_⟩;simp[SE.den,ao,aN,cellsOf];have afh:db l [t.n]=th l t.n:=rfl;rw[afh];unfold th;cases b with
  |true=>
   have hm:t.n∈l:=by simpa using hb.symm
   rw[if_pos hm];right;exact⟨rfl,_,K3,by simp,l2 bJ _⟩
  |false=>
   have hm:t.n∉l:=by simpa using hb.symm
   rw[if_neg hm];left;refine⟨rfl,iL (l++[t.n]),?_,_,K3,by simp,l1 bJ _ _⟩;simp[dg,fV,cellsOf];exact⟨rfl,by omega,by omega⟩
 .right;exact⟨k1,_,K3,by simp,l4 k1⟩
theorem alS:∀t:Tm,Cy t->dM t->∀l:List Int,Vr l->CC 491 ab [iL l,er t] (iL (db l (gC t)))
 |.mk k n s ts,h,hf=>aqm _ ((Ed _).1 h).1 hf λu hu=>alS u (((Ed _).1 h).2 u hu)
 decreasing_by simp[Tm.ts]at hu;have:=axf hu;simp;omega
def ahf{Q:IV->Prop}(ts:List Tm)(wO:Sm ts)(hw:∀t∈ts,Cy t/\dM t)(hQ:Q (iL (varsOf ts))):MX.sat Tryz.prog CC Q [] [iT ts]:=by
 simp[MX,UL,SE.den,ao];refine aC ts.length (λi (a:List Int)=>[iI i,iL a]) (λi a=>Vr a/\a=db [] (eA (ts.take i))) [] ?_ ⟨Vr.nil,rfl⟩ λi a hi hI=>?_
 .simp[SE.den]
 by_cases ak:i<ts.length
 .have n_:=aI ak wO;have hf:=hw _ (awd ak);have hb:=alS ts[i] hf.1 hf.2 a hI.1;rw[bL]at hb;simp[SE.den,ak,n_,nP ak,bL,ao,aN,cellsOf];obtain⟨h1,rfl⟩:=hI;exact⟨_,hb,_,by simp,by omega,h1.db (CH _ hf.2),by rw[QP ak,nR]⟩
 .obtain⟨h1,h2⟩:=hI;rw[awr aj]at h2;simp[SE.den,ak];subst a;exact hQ
def atO(ts:List Tm)(wO:Sm ts)(hw:∀t∈ts,Cy t/\dM t):CC 140 af [iT ts] (iL (varsOf ts)):=
 CC.CI ap0 kr (λ_=>kr) ay (by rfl) (ahf ts wO hw (by rw[Av]))
def ahg(ts:List Tm)(wO:Sm ts)(hw:∀t∈ts,Cy t/\dM t):CC 140 ab [iT ts] (iL (varsOf ts)):=
 CC.CI alu kr (λ_=>kr) ay (by rfl) (ahf ts wO hw (by rw[Av]))
def v93(g:Gl)(wO:Sm g.ts)(hw:∀t∈g.ts,Cy t/\dM t):CC 145 af [.agg [iI g.op,iS g.s,iT g.ts]] (iL (varsOf g.ts)):=by
 refine CC.CI atk kr (λ_=>kr) (by intro x hx;obtain rfl:=awo.1 hx;exact HQ g) (by rfl) ?_;have hb:=atO g.ts wO hw;simp[ag2,SE.den,ao];exact⟨_,hb,by simp⟩
def ahh(ds:List De)(s:List UInt8)(n:Int):Prop:=∃d∈ds,d.s=s/\d.n=n
noncomputable def ju(ds:List De)(s:List UInt8)(n:Int):Bool:=ds.any λd=>d.s==s&&d.n==n
def yH(ds:List De)(s:List UInt8)(n:Int):ju ds s n=ab↔ahh ds s n:=by simp[ju,ahh]
def F5{ds:List De}{s:List UInt8}{n:Int}(h:∀d∈ds,(d.s=s->¬d.n=n)):ju ds s n=af:=by
 cases hb:ju ds s n with
 |false=>rfl
 |true=>obtain⟨d,h1,h2⟩:=(yH _ _ _).1 hb;exact absurd h2.2 (h d h1 h2.1)
def H0{ds:List De}{s:List UInt8}{n:Int}{d:De}(hd:d∈ds)(h:d.s=s/\d.n=n):ju ds s n=ab:=(yH _ _ _).2 ⟨d,hd,h⟩
def v51(l:List De)(s:List UInt8)(n:Int)(hl:Sm l):CC 27 af [fY l,iS s,iI n] (iB (ju l s n)):=by
 refine CC.eF ath kr (λ_=>kr) ay (by rfl) ?_;simp[agZ,XO,SE.den,ao];refine ir l.length (λi (_:Unit)=>[iI i]) (λi _=>∀d∈l.take i,(d.s=s->¬d.n=n)) () ?_ ay λi _ hi hI=>?_
 .simp[SE.den]
 by_cases ak:i<l.length
 .have hw:=aI ak hl;have hs:=λh=>cI (p:=λd:De=>(d.s=s->¬d.n=n)) ak hI h;have hy:=H0 (awd ak) (s:=s) (n:=n);simp[SE.den,ak,hw,OF ak,ao];by_cases h1:l[i].s=s
  .by_cases h2:l[i].n=n
   .simp[h1,h2];exact hy ⟨h1,h2⟩
   .simp[h1,h2];exact⟨by omega,hs λ_ h=>h2 h⟩
  .simp[h1];exact⟨by omega,hs λh=>absurd h h1⟩
 .simp[SE.den,ak];exact F5 (dq ak hI)
def atP(l:List De)(s:List UInt8)(n:Int)(hl:Sm l):CC 27 ab [fY l,iS s,iI n] (iB (ju l s n)):=by
 refine CC.eF aqf kr (λ_=>kr) ay (by rfl) ?_;simp[acO,U6,SE.den,ao];refine ir l.length (λi (_:Unit)=>[iI i]) (λi _=>∀d∈l.take i,(d.s=s->¬d.n=n)) () ?_ ay λi _ hi hI=>?_
 .simp[SE.den]
 by_cases ak:i<l.length
 .have hw:=aI ak hl;have hs:=λh=>cI (p:=λd:De=>(d.s=s->¬d.n=n)) ak hI h;have hy:=H0 (awd ak) (s:=s) (n:=n);simp[SE.den,ak,hw,OF ak,ao,aN];by_cases h1:l[i].s=s
  .by_cases h2:l[i].n=n
   .simp[h1,h2];exact hy ⟨h1,h2⟩
   .simp[h1,h2];exact⟨by omega,hs λ_ h=>h2 h⟩
  .simp[h1];exact⟨by omega,hs λh=>absurd h h1⟩
 .simp[SE.den,ak,aN];exact F5 (dq ak hI)
def alT(l:List De)(s:List UInt8)(n:Int)(hl:Sm l):∃b,(b=0↔ju l s n=ab)/\CC 141 af [fY l,iS s,iI n] (iI b):=by
 refine CC.HX _ ap2 kr (λ_=>kr) ay (by rfl) ?_;simp[acB,UR,SE.den,ao];refine ir l.length (λi (a:Int)=>[iI i,iI a]) (λ_ a=>a≠0) 7 ?_ ay λi a hi ha=>?_
 .simp[SE.den]
 by_cases ak:i<l.length
 .have hw:=aI ak hl;simp[SE.den,ak,hw,OF ak,ao];by_cases h1:l[i].s=s
  .simp[h1];omega
  .simp[h1];omega
 .have hb:=v51 l s n hl;simp[SE.den,ak];refine⟨_,hb,?_⟩;cases ju l s n<;>simp[ha]
def Vh(ds:List De)(gs:List Gl):Prop:=∀g∈gs,g.op=0->ju ds g.s g.ts.length=ab
def v201(l:List De)(g:List Gl)(hl:Sm l)(hg:Sm g):∃b,(b=0↔Vh l g)/\CC 142 af [fY l,gK g] (iI b):=by
 refine CC.HX _ ap3 kr (λ_=>kr) ay (by rfl) ?_;simp[acC,US,SE.den,ao];refine ir g.length (λi (_:Unit)=>[iI i]) (λi _=>∀x∈g.take i,x.op=0->ju l x.s x.ts.length=ab) () ?_ ay λi a hi hI=>?_
 .simp[SE.den]
 by_cases ak:i<g.length
 .have hw:=aI ak hg;obtain⟨b,hz,hb⟩:=alT l g[i].s g[i].ts.length hl;have hs:=λh=>cI (p:=λx:Gl=>x.op=0->ju l x.s x.ts.length=ab) ak hI h;simp[SE.den,ak,hw,xq ak,ao];by_cases h1:g[i].op=0
  .right;refine⟨h1,_,hb,?_⟩;simp[hw];by_cases h2:b=0
   .right;exact⟨h2,by omega,hs λ_=>hz.1 h2⟩
   .left;exact⟨h2,by simp[h2];exactλh=>h2 (hz.2 (h _ (awd ak) h1))⟩
  .left;exact⟨h1,by omega,hs λh=>absurd h h1⟩
 .simp[SE.den,ak];exact dq ak hI
def uM(n:Int):Bool:=decide (5<=n)&&decide (n<=12)
def alU(n:Int):CC 143 af [iI n] (iB (uM n)):=by
 refine CC.eF ap4 kr (λ_=>kr) ay (by rfl) ?_;simp[acD,SE.den,ao,uM];omega
def atQ(l:List Int)(n:Int)(hl:Sm l):CC 146 af [iL l,iI n] (iB (decide (n∈l))):=by
 refine CC.eF ap6 kr (λ_=>kr) ay (by rfl) ?_;simp[acG,UU,SE.den,ao];refine ir l.length (λi (_:Unit)=>[iI i]) (λi _=>∀x∈l.take i,x≠n) () ?_ ay λi _ hi hI=>?_
 .simp[SE.den]
 by_cases ak:i<l.length
 .have hw:=aI ak hl;simp[SE.den,ak,hw];by_cases h1:l[i]=n
  .left;exact⟨h1,h1▸awd ak⟩
  .right;exact⟨h1,by omega,cI ak hI h1⟩
 .have:=dq ak hI;simp[SE.den,ak];exactλh=>this _ h rfl
def eq4(d:Nat)(a b:Bool):aH Tryz.prog (axa (d+1) 4 (.bool a) (.bool b))=aa (a==b):=by
 rw[axa,aP,Go.Ev.run_underlying UC,awc];rfl
def atS(d:Nat)(x y z x' y' z':Value)(b1 b2 b3:Bool)(h1:aH Tryz.prog (axa (d+1) 3 x x')=aa b1)(h2:aH Tryz.prog (axa (d+1) 3 y y')=aa b2)(h3:aH Tryz.prog (axa (d+1) 4 z z')=aa b3):
 aH Tryz.prog (axa (d+2) 28 (.agg #[x,y,z]) (.agg #[x',y',z']))=aa (b1&&b2&&b3):=by
 rw[axa,aP,Go.Ev.run_underlying Tryz.underlying28,awc];have cy:Tryz.prog.stoodInHeld 28=af:=by kernel_rfl
 have p1:∀(a b c:Value),aH Tryz.prog (part 3 #[a,b,c] 0)=aa a:=λa b c=>by kernel_rfl
 have p2:∀(a b c:Value),aH Tryz.prog (part 3 #[a,b,c] 1)=aa b:=λa b c=>by kernel_rfl
 have p3:∀(a b c:Value),aH Tryz.prog (part 4 #[a,b,c] 2)=aa c:=λa b c=>by kernel_rfl
 have hp:aH Tryz.prog program=aa Tryz.prog:=rfl;rw[aP,hp,awc,cy];have q:∀{α:Type} (a:α),aH Tryz.prog (pure a)=aa a:=λ_=>rfl;simp only[awA,if_false,<-aAs,azW,az4,aP,ne_eq,aAL,not_false_eq_true,if_true,p1,p2,p3,awc,h1,h2,h3];cases b1
 .rfl
 .simp only[axu,awA,if_false,q,awc,aP,p2,p3,h2,h3];cases b2
  .rfl
  .simp only[axu,awA,if_false,q,awc,aP,p3,h3];cases b3<;>rfl
def alV(P:Program)(t:TypeId)(a b c a' b' c':Value)(r:Bool)(hg:aH P (eqGuard .eql t (.func 0) (.func 0) (.agg #[a,b,c]) (.agg #[a',b',c']))=aa ())(h:aH P (ayF t (.agg #[a,b,c]) (.agg #[a',b',c']))=aa r):
 dc P .eql t (.agg [.raw a,.raw b,.raw c]) (.agg [.raw a',.raw b',.raw c'])=aa (iB r):=by
 show(aH P (do eqGuard .eql t (.func 0) (.func 0) (.agg #[a,b,c]) (.agg #[a',b',c']);Go.binOp .eql t (.agg #[a,b,c]) (.agg #[a',b',c']))).map lift=_;rw[aP,hg];show(aH P (do pure (.bool (<-ayF t (.agg #[a,b,c]) (.agg #[a',b',c']))))).map lift=_;rw[aP,h];rfl
@[simp] theorem avV(a b a' b':Int)(c c':Bool):dc Tryz.prog .eql 28 (.agg [iI a,iI b,iB c]) (.agg [iI a',iI b',iB c'])=aa (iB (a==a'&&b==b'&&c==c')):=by
  refine alV _ _ _ _ _ _ _ _ _ (by kernel_rfl) ?_;exact atS 9998 _ _ _ _ _ _ _ _ _ (QD _ _ _) (QD _ _ _) (eq4 _ _ _)
def F6{ls:List (List Int)}{i:Nat}(h:i<ls.length):cq 1 (dr ls) (iI (i:Nat))=aa (iL ls[i]):=by
 simp[cq,ie,h,cellsOf]
section
structure Oc where
 r:Int
 h:Int
 k:Bool
 deriving DecidableEq
def jP(o:Oc):IV:=.agg [iI o.r,iI o.h,iB o.k]
abbrev p5(l:List Oc):IV:=.tree 3 (l.map jP)
def H2(o:Oc):Pure (jP o):=.agg _ ay
@[simp] theorem Vi(l:List Oc):Pure (p5 l):=jm 3 jP (λa=>⟨_,rfl,by simp⟩) l
def ahi{a b:List Oc}(h:a.length+b.length<=1000):dg 3 24 (p5 a) (p5 b)=aa (p5 (a++b)):=by
 have h2:=Ad (s:=3) (enc:=jP) (λx=>⟨_,rfl,rfl,rfl⟩) b;simp[dg,h2];omega
def aam{l:List Oc}{i:Nat}(h:i<l.length):cq 3 (p5 l) (iI (i:Nat))=aa (.agg [iI l[i].r,iI l[i].h,iB l[i].k]):=cP (by simp[h,jP]) rfl
def rM(i kl n:Nat):List Oc:=(List.range n).map λj=>⟨i,((n- 1- j:Nat):Int),decide (n- 1- j<kl)⟩
@[simp] theorem afi(i kl n:Nat):(rM i kl n).length=n:=by simp[rM]
def Bi(i:Nat)(r:Rl):List Oc:=rM i r.aw.length (r.aw.length+r.az.length)
def occs(l:List Rl):List Oc:=l.zipIdx.flatMap λq=>Bi q.2 q.1
def ac1(l:List Rl)(r:Rl):occs (l++[r])=occs l++Bi l.length r:=by simp[occs,List.zipIdx_append]
def ac2{l:List Rl}{i:Nat}(h:i<l.length):occs (l.take (i+1))=occs (l.take i)++Bi i l[i]:=by
 rw[awh h,ac1,axe,Nat.min_eq_left aj]
theorem QR:∀(l:List Rl) (k:Nat),(∀r∈l,oa r)->((l.zipIdx k).flatMap λq=>Bi q.2 q.1).length<=3*l.length
 |[],_,_=>by simp
 |r::l,k,h=>by
  have h1:=QR l (k+1) λr hr=>h r (by simp[hr]);have h2:=(h r ay).h;rw[List.zipIdx_cons,List.flatMap_cons,awi];simp only[Bi,afi,awJ];simp only[Bi]at h1;omega
def uN(l:List Rl)(h:∀r∈l,oa r):(occs l).length<=3*l.length:=QR l 0 h
def M7{m:Nat}(h:m<=1000):awK.wrap ((m:Int) - 1)=(m:Int) - 1:=by
 exact eT aj aj
def QS{i kl n m:Nat}(hm:m<n):(rM i kl n).take (n-(m+1)+1)=(rM i kl n).take (n-(m+1))++[⟨i,(m:Int),decide (m<kl)⟩]:=by
 have h:n-(m+1)<(rM i kl n).length:=by simp;omega
 rw[awh h]
 congr 2
 simp only[rM,aAX,List.getElem_range];rw[show n- 1-(n-(m+1))=m by omega]
section
variable{Q:IV->Prop}{k0:List IV->Prop}{x0:IV}
def aqn(i:Nat)(r:Rl)(acc:List Oc)(hi:i<1000)(K9:acc.length<=500)(hr:r.aw.length+r.az.length<=3)(hk:k0 [iI (i+1:Nat),p5 (acc++Bi i r)]):
 UD.sat Tryz.prog CC Q [k0] [x0,iI i,p5 acc,cU r,c_ (r.aw++r.az)]:=by
 obtain⟨rn,rk,rr,rg,rb,rv⟩:=r;unfold Bi at hk;simp only[cU]at*
 rw[<-awi]at hr hk;generalize Vj:rk++rr=hs at hr hk⊢;generalize hn:hs.length=n at hr hk;unfold UD;refine jc (λ(m:Nat)=>[iI ((m:Int) - 1),p5 (acc++(rM i rk.length n).take (n- m)),iS rn]) (λm=>m<=n) (λm=>m) n ?_ (awe _) λm hm=>?_
 .simp[SE.den,hn,M7 (show n<=1000 by omega),ao]
 cases m with
 |zero=>
  have hw:=aI hi aj;simp[SE.den,hw,ao];rw[awr ay];exact hk
 |succ m=>
  have hw:awK.wrap ((m:Int) - 1)=(m:Int) - 1:=M7 aj;have ak:m<hs.length:=aj;have hc:dg 3 24 (p5 (acc++(rM i rk.length n).take (n-(m+1)))) (.tree 3 [.agg [iI i,iI m,iB (decide (m<rk.length))]])=aa (p5 (acc++(rM i rk.length n).take (n-(m+1))++[⟨i,(m:Int),decide (m<rk.length)⟩])):=ahi (b:=[⟨i,(m:Int),decide (m<rk.length)⟩]) (by simp;omega);simp[SE.den,ao,aN,cellsOf,hc,hw,py ak];refine .mk m ?_ aj aj;rw[<-QS aj,show n-(m+1)+1=n- m by omega]
def k87(p:Pg)(h:oe p):CC 87 af [bn p] (p5 (occs p.aV)):=by
 refine CC.of ata kr kr (by simpa using dN p) ay ?_;obtain⟨ds,rs⟩:=p;have hr:=h.r;have hs:=h.rs;simp only at hr hs⊢;simp[ak4,bn,SE.den,ao];unfold aca;refine aC rs.length (λi (acc:List Oc)=>[iI i,p5 acc]) (λi acc=>acc=occs (rs.take i)) [] ?_ (by simp[occs]) λi acc hi hI=>?_
 .simp[SE.den]
 by_cases ak:i<rs.length
 .have X9:=(hs _ (awd ak)).h;have hl:=uN (rs.take i) λr hr=>hs r (List.mem_of_mem_take hr);rw[<-hI]at hl;simp only[axe]at hl;have zw:=JT rs[i] aj;rw[cu]at zw;simp[SE.den,ak,y9 ak,ao];refine⟨_,zw,?_⟩;simp;refine aqn i rs[i] acc aj aj X9 ?_;exact .mk _ rfl aj (by rw[ac2 ak,<-hI])
 .simp[SE.den,ak];rw[hI,awr aj]
structure Pn where
 o:Oc
 aJ:List Int
 dQ:List (List Int)
 dt:List (List Int)
 deriving DecidableEq
def cD(x:Pn):IV:=.agg [iI x.o.r,iI x.o.h,iB x.o.k,iL x.aJ,dr x.dQ,dr x.dt]
structure QT(x:Pn):Prop where
 o:Sm x.aJ
 k:Sm x.dQ
 t:Sm x.dt
 ks:∀l∈x.dQ,Sm l
 ts:∀l∈x.dt,Sm l
def yI(x:Pn):Pure (cD x):=.agg _ (by simp[F3])
end
abbrev Vk(ls:List (List At)):IV:=.tree 1 (ls.map c_)
abbrev QU(ls:List (List Gl)):IV:=.tree 1 (ls.map gK)
def j_(l:List At):List Int:=(l.map λa=>varsOf a.ts).flatten
def lJ(l:List Gl):List Int:=(l.map λa=>varsOf a.ts).flatten
def dS(ls:List (List At)):List Int:=(ls.map j_).flatten
def du(ls:List (List Gl)):List Int:=(ls.map lJ).flatten
def ac3{ls:List (List At)}{i:Nat}(h:i<ls.length):cq 1 (Vk ls) (iI (i:Nat))=aa (c_ ls[i]):=cP (by simp[h]) rfl
def ac4{ls:List (List Gl)}{i:Nat}(h:i<ls.length):cq 1 (QU ls) (iI (i:Nat))=aa (gK ls[i]):=cP (by simp[h]) rfl
def Vl(ls:List (List At)):Pure (Vk ls):=by
 refine .tree 1 _ λe he c hc=>?_;obtain⟨x,_,rfl⟩:=awB.1 he;simp[cellsOf]at hc;subst hc;exact ae8 x
def Vm(ls:List (List Gl)):Pure (QU ls):=by
 refine .tree 1 _ λe he c hc=>?_;obtain⟨x,_,rfl⟩:=awB.1 he;simp[cellsOf]at hc;subst hc;exact ae_ x
def CJ{α:Type}{f:α->List Int}{l:List α}{i:Nat}(h:i<l.length):((l.take (i+1)).map f).flatten=((l.take i).map f).flatten++f l[i]:=by
 rw[awh h,axw,axh];simp only[awZ,ayf,ax6,ay0,aww]
theorem K_{α:Type}{f:α->List Int}{n:Nat}:∀{l:List α},(∀a∈l,(f a).length<=n)->((l.map f).flatten).length<=l.length*n
 |[],_=>by simp
 |a::l,h=>by
  have:=K_ (f:=f) (l:=l) λa ha=>h a (by simp[ha]);have h1:=h a ay;rw[awZ,ax6,awi,awJ,Nat.add_mul];omega
def F7{α:Type}{f:α->List Int}(l:List α)(i:Nat):((l.take i).map f).flatten.length<=(l.map f).flatten.length:=by
 conv=>rhs;rw[<-axn i l,axw,axh,awi]
 omega
def F8(l:List Int):∀e∈l.map iI,(cellsOf e).length=1:=λe he=>by obtain⟨x,_,rfl⟩:=awB.1 he;rfl
def R4(l:List Int):∀c∈flat (l.map iI),(∃v,c=.raw v)/\ao c=ab:=λc hc=>by
 unfold flat at hc;obtain⟨e,he,hc⟩:=List.mem_flatMap.1 hc;obtain⟨x,_,rfl⟩:=awB.1 he;simp[cellsOf]at hc;subst hc;exact⟨⟨_,rfl⟩,rfl⟩
section
variable{k0:List IV->Prop}{Q:IV->Prop}
def alW(l:List At)(hl:Sm l)(hn:∀a∈l,pZ a/\Dv a){x0:IV}(acc:List Int)(i:Nat)(hi:i<1000)(hlen:acc.length+(j_ l).length<=1000000000)(hk:k0 [iI (i+1:Nat),iL (acc++j_ l)]):
 QH.sat Tryz.prog CC Q [k0] [x0,iI i,iL acc,c_ l]:=by
 have kh:=aI hi aj;refine aC l.length (λj (q:List Int)=>[iI j,iL q]) (λj q=>q=acc++j_ (l.take j)) acc ?_ (by simp[j_]) λj q hj hq=>?_
 .simp[SE.den]
 by_cases ak:j<l.length
 .have hw:=aI ak hl;obtain⟨h1,h2⟩:=hn _ (awd ak);have JU:=c46 af l[j] h1 h2;have ht:=CJ (f:=λa:At=>varsOf a.ts) ak;have dY:=F7 (f:=λa:At=>varsOf a.ts) l (j+1);rw[ht,awi]at dY;have hc:=Ef (a:=q) (b:=varsOf l[j].ts) (by rw[hq,awi];unfold j_ at hlen⊢;omega);simp[SE.den,ak,hw,py ak,ao];refine⟨_,JU,?_⟩;simp[hc, -axO];refine⟨λx a ha hx=>?_,.mk _ rfl aj (by rw[hq,j_,j_,ht,awv])⟩;simp[cellsOf]at hx;subst hx;rfl
 .rw[awr aj]at hq;simp[SE.den,ak,kh];rw[hq];exact hk
def atT(ls:List (List At))(hl:ls.length<=1000)(hn:∀l∈ls,Sm l/\∀a∈l,pZ a/\Dv a)(hlen:(dS ls).length<=1000000000):
 OO.sat Tryz.prog CC (·=iL (dS ls)) [] [Vk ls]:=by
 simp only[OO,uK,SE.den,axB,awc,Bb];refine⟨⟨_,rfl⟩,⟨_,rfl⟩,?_⟩;unfold QI;refine aC ls.length (λi (q:List Int)=>[iI i,iL q]) (λi q=>q=dS (ls.take i)) [] ?_ (by simp[dS]) λi q hi hq=>?_
 .simp[SE.den]
 by_cases ak:i<ls.length
 .obtain⟨h1,h2⟩:=hn _ (awd ak);have ht:=CJ (f:=j_) ak;have dY:=F7 (f:=j_) ls (i+1);rw[ht,awi]at dY;simp[SE.den,ak,ac3 ak, -axO];refine alW ls[i] h1 h2 q i aj (by rw[hq];unfold dS at hlen⊢;omega) ?_;exact .mk _ rfl aj (by rw[hq,dS,dS,ht])
 .rw[awr aj]at hq;simp[SE.den,ak];rw[hq];exact⟨λx a ha hx=>by simp[cellsOf]at hx;subst hx;rfl,rfl⟩
def alX(l:List At)(hl:Sm l)(hn:∀a∈l,pZ a/\Dv a){x0:IV}(i:Nat)(hi:i<1000)(hz:∀a∈l,varsOf a.ts=[])(hk:k0 [iI (i+1:Nat)]):
 QJ.sat Tryz.prog CC Q [k0] [x0,iI i,c_ l]:=by
 have kh:=aI hi aj;refine aC l.length (λj (_:Unit)=>[iI j]) (λ_ _=>True) () ?_ trivial λj _ hj _=>?_
 .simp[SE.den]
 by_cases ak:j<l.length
 .have hw:=aI ak hl;obtain⟨h1,h2⟩:=hn _ (awd ak);have JU:=c46 af l[j] h1 h2;rw[hz _ (awd ak)]at JU;simp[SE.den,ak,hw,py ak,ao];refine⟨_,JU,?_⟩;simp;exact⟨⟨.tree 1 [],by simp[pU,ie]⟩,.mk () rfl aj trivial⟩
 .simp[SE.den,ak,kh];exact hk
def z139(ls:List (List At))(hl:ls.length<=1000)(hn:∀l∈ls,Sm l/\∀a∈l,pZ a/\Dv a)(hz:dS ls=[]):
 OP.sat Tryz.prog CC (·=iL []) [] [Vk ls]:=by
 simp only[OP,uK,SE.den,axB,awc,Bb];refine⟨⟨_,rfl⟩,⟨_,rfl⟩,?_⟩;unfold QK;refine aC ls.length (λi (_:Unit)=>[iI i]) (λ_ _=>True) () ?_ trivial λi _ hi _=>?_
 .simp[SE.den]
 by_cases ak:i<ls.length
 .obtain⟨h1,h2⟩:=hn _ (awd ak);simp[SE.den,ak,ac3 ak];refine alX ls[i] h1 h2 i aj (λa ha=>?_) (.mk () rfl aj trivial);have:=ayw.1 hz _ (awB.2 ⟨_,awd ak,rfl⟩);exact ayw.1 this _ (awB.2 ⟨a,ha,rfl⟩)
 .simp[SE.den,ak]
def alY:eo Tryz.prog 195=1:=by kernel_rfl
def f139(ls:List (List At))(hl:ls.length<=1000)(hn:∀l∈ls,Sm l/\∀a∈l,pZ a/\Dv a)(hlen:(dS ls).length<=1000000000):qB Tryz.prog (eo Tryz.prog 195) 195 [Vk ls] ((dS ls).map iI):=by
 have h1:=alY;by_cases hp:dS ls=[]
 .exact .xI (nm:=ab) mixed KO alP kr (by simpa using Vl ls) (by rw[h1];exact F8 _) (R4 _) ay (by rw[h1,hp];exact z139 ls hl hn hp)
 .exact .xI (nm:=af) mixed KO alO kr (by simpa using Vl ls) (by rw[h1];exact F8 _) (R4 _) (λ_=>by simpa using hp) (by rw[h1];exact atT ls hl hn hlen)
def aqo(new:Bool)(ls:List (List At))(hl:ls.length<=1000)(hn:∀l∈ls,Sm l/\∀a∈l,pZ a/\Dv a)(hlen:(dS ls).length<=1000000000):CC 1419 new [Vk ls] (iL (dS ls)):=by
 have h:=wP.fresh (new:=new) (MV rfl) (f139 ls hl hn hlen);rw[jO,alY]at h;unfold CC;rw[jO];exact h
def alZ(l:List Gl)(hl:Sm l)(hn:∀a∈l,qO a/\Dw a){x0:IV}(acc:List Int)(i:Nat)(hi:i<1000)(hlen:acc.length+(lJ l).length<=1000000000)(hk:k0 [iI (i+1:Nat),iL (acc++lJ l)]):
 QL.sat Tryz.prog CC Q [k0] [x0,iI i,iL acc,gK l]:=by
 have kh:=aI hi aj;refine aC l.length (λj (q:List Int)=>[iI j,iL q]) (λj q=>q=acc++lJ (l.take j)) acc ?_ (by simp[lJ]) λj q hj hq=>?_
 .simp[SE.den]
 by_cases ak:j<l.length
 .have hw:=aI ak hl;obtain⟨h1,h2⟩:=hn _ (awd ak);have GH:=c87 af l[j] h1 h2;have ht:=CJ (f:=λa:Gl=>varsOf a.ts) ak;have dY:=F7 (f:=λa:Gl=>varsOf a.ts) l (j+1);rw[ht,awi]at dY;have hc:=Ef (a:=q) (b:=varsOf l[j].ts) (by rw[hq,awi];unfold lJ at hlen⊢;omega);simp[SE.den,ak,hw,xq ak,ao];refine⟨_,GH,?_⟩;simp[hc, -axO];refine⟨λx a ha hx=>?_,.mk _ rfl aj (by rw[hq,lJ,lJ,ht,awv])⟩;simp[cellsOf]at hx;subst hx;rfl
 .rw[awr aj]at hq;simp[SE.den,ak,kh];rw[hq];exact hk
def atU(ls:List (List Gl))(hl:ls.length<=1000)(hn:∀l∈ls,Sm l/\∀a∈l,qO a/\Dw a)(hlen:(du ls).length<=1000000000):
 OQ.sat Tryz.prog CC (·=iL (du ls)) [] [QU ls]:=by
 simp only[OQ,uK,SE.den,axB,awc,Bb];refine⟨⟨_,rfl⟩,⟨_,rfl⟩,?_⟩;unfold QM;refine aC ls.length (λi (q:List Int)=>[iI i,iL q]) (λi q=>q=du (ls.take i)) [] ?_ (by simp[du]) λi q hi hq=>?_
 .simp[SE.den]
 by_cases ak:i<ls.length
 .obtain⟨h1,h2⟩:=hn _ (awd ak);have ht:=CJ (f:=lJ) ak;have dY:=F7 (f:=lJ) ls (i+1);rw[ht,awi]at dY;simp[SE.den,ak,ac4 ak, -axO];refine alZ ls[i] h1 h2 q i aj (by rw[hq];unfold du at hlen⊢;omega) ?_;exact .mk _ rfl aj (by rw[hq,du,du,ht])
 .rw[awr aj]at hq;simp[SE.den,ak];rw[hq];exact⟨λx a ha hx=>by simp[cellsOf]at hx;subst hx;rfl,rfl⟩
def al0(l:List Gl)(hl:Sm l)(hn:∀a∈l,qO a/\Dw a){x0:IV}(i:Nat)(hi:i<1000)(hz:∀a∈l,varsOf a.ts=[])(hk:k0 [iI (i+1:Nat)]):
 QN.sat Tryz.prog CC Q [k0] [x0,iI i,gK l]:=by
 have kh:=aI hi aj;refine aC l.length (λj (_:Unit)=>[iI j]) (λ_ _=>True) () ?_ trivial λj _ hj _=>?_
 .simp[SE.den]
 by_cases ak:j<l.length
 .have hw:=aI ak hl;obtain⟨h1,h2⟩:=hn _ (awd ak);have GH:=c87 af l[j] h1 h2;rw[hz _ (awd ak)]at GH;simp[SE.den,ak,hw,xq ak,ao];refine⟨_,GH,?_⟩;simp;exact⟨⟨.tree 1 [],by simp[pU,ie]⟩,.mk () rfl aj trivial⟩
 .simp[SE.den,ak,kh];exact hk
def atV(ls:List (List Gl))(hl:ls.length<=1000)(hn:∀l∈ls,Sm l/\∀a∈l,qO a/\Dw a)(hz:du ls=[]):
 OS.sat Tryz.prog CC (·=iL []) [] [QU ls]:=by
 simp only[OS,uK,SE.den,axB,awc,Bb];refine⟨⟨_,rfl⟩,⟨_,rfl⟩,?_⟩;unfold QO;refine aC ls.length (λi (_:Unit)=>[iI i]) (λ_ _=>True) () ?_ trivial λi _ hi _=>?_
 .simp[SE.den]
 by_cases ak:i<ls.length
 .obtain⟨h1,h2⟩:=hn _ (awd ak);simp[SE.den,ak,ac4 ak];refine al0 ls[i] h1 h2 i aj (λa ha=>?_) (.mk () rfl aj trivial);have:=ayw.1 hz _ (awB.2 ⟨_,awd ak,rfl⟩);exact ayw.1 this _ (awB.2 ⟨a,ha,rfl⟩)
 .simp[SE.den,ak]
def al1:eo Tryz.prog 196=1:=by kernel_rfl
def f140(ls:List (List Gl))(hl:ls.length<=1000)(hn:∀l∈ls,Sm l/\∀a∈l,qO a/\Dw a)(hlen:(du ls).length<=1000000000):qB Tryz.prog (eo Tryz.prog 196) 196 [QU ls] ((du ls).map iI):=by
 have h1:=al1;by_cases hp:du ls=[]
 .exact .xI (nm:=ab) mixed KO alR kr (by simpa using Vm ls) (by rw[h1];exact F8 _) (R4 _) ay (by rw[h1,hp];exact atV ls hl hn hp)
 .exact .xI (nm:=af) mixed KO alQ kr (by simpa using Vm ls) (by rw[h1];exact F8 _) (R4 _) (λ_=>by simpa using hp) (by rw[h1];exact atU ls hl hn hlen)
def ahj(new:Bool)(ls:List (List Gl))(hl:ls.length<=1000)(hn:∀l∈ls,Sm l/\∀a∈l,qO a/\Dw a)(hlen:(du ls).length<=1000000000):CC 1420 new [QU ls] (iL (du ls)):=by
 have h:=wP.fresh (new:=new) (MV rfl) (f140 ls hl hn hlen);rw[jO,al1]at h;unfold CC;rw[jO];exact h
end
end
def al2:List Nat:=[266,24,25,7,69,257,72,26,71,137,70,139,225,145,183,75,76,136,186,140,184,224,138,185,9,28,27,143,77,142,141,74,144,73,146,78,39,268,192,154,227,33,85,155,233,199,164,230,194,166,204,95,93,162,280]
def al3:List Nat:=[]
def al4:List Nat:=[201]
def al5:List Nat:=[185,247,209,222000151,500195,500196]
def aqp(l:List Hint):fe:=⟨al2,al3,al4,l++[⟨999999,0,0,[],[],[],[]⟩],al5⟩
abbrev nt(e:SE)(a b:aq):aq:=.aE e (.test e a b)
abbrev no(e:SE)(c:Int)(b:aq):aq:=.aE (.ok e) (nt (.ok (.un .not (.ok e))) (.aE (.rw (.i c)) (.ret (.i c))) b)
abbrev up(n k:Nat)(Y:SE):aq:=.aE (.ok (.bin .add 3 (.var n) (.i 1))) (.next k (.ac (.ok (.bin .add 3 (.var n) (.i 1))) Y))
def JV(S:SE)(q n:Nat)(φ:SE)(d:Nat)(B K:aq):aq:=
 .loop (.ac (.i 0) φ) (nt (.ok (.bin .lss 3 (.var n) (.len S))) (.bind (.idx q S (.var n)) (.aE (.lV q (.var d)) B)) K)
def dF(q m i k:Nat)(Y:SE):aq:=JV (.ok (.var 0)) 2 (m+1) .an (m+2)
 (nt (.ok (.bin .eql 9 (.aO (.var (m+2)) 0) (.aO (.var m) q)))
 (no (.bin .geq 3 (.var (m+1)) (.i 0)) 7
 (.call 233 af (.ac (.ok (.var 0)) (.ac (.aO (.var m) q) (.ac (.len (.aO (.var m) (q+1))) .an)))
 (no (.var (m+3)) 9 (up i k Y))))
 (up (m+1) (k+1) .an))
 (.aE (.rw (.i 7)) (.ret (.i 7)))
def ahk(n:Nat):aq:=.loop (.ac (.var n) (.ac (.i 0) .an))
 (nt (.ok (.bin .lss 3 (.var (n+3)) (.len (.var (n+1)))))
 (.aE (.idx 1 (.var (n+1)) (.var (n+3)))
 (.call 95 ab (.ac (.var (n+2)) (.ac (.oY 1 (.var (n+1)) (.var (n+3)) 0) .an))
 (no (.var (n+4)) 17
 (.aE (.ok (.bin .add 3 (.var (n+3)) (.i 1)))
 (.next 11 (.ac (.var (n+2)) (.ac (.ok (.bin .add 3 (.var (n+3)) (.i 1))) .an)))))))
 (.ret (.i 0)))
def ahl(n:Nat):aq:=JV (.aO (.var 1) 4) 3 n .an (n+1)
 (.call 199 af (.ac (.aO (.var (n+1)) 0) .an) (.aE (.ok (.var (n+2))) (no (.un .not (.ok (.var (n+2)))) 10 (up n 10 .an))))
 (.call 1419 ab (.ac (.tr 1 (.ac (.aO (.var 1) 1) (.ac (.aO (.var 1) 2) .an))) .an)
 (.call 1420 ab (.ac (.tr 1 (.ac (.aO (.var 1) 3) .an)) .an)
 (.aE (.len (.var (n+2))) (ahk (n+1)))))
def aan(n:Nat):aq:=JV (.aO (.var 1) 3) 3 n .an (n+1)
 (.call 199 af (.ac (.aO (.var (n+1)) 0) .an) (nt (.ok (.var (n+2))) (up n 9 .an) (no (.bin .eql 3 (.aO (.var (n+1)) 0) (.i 1)) 10 (up n 9 .an))))
 (.aE (.len (.aO (.var 1) 4)) (ahl (n+1)))
def cF(l n k:Nat)(K:aq):aq:=JV (.aO (.var 1) l) 3 n .an (n+1)
 (nt (.ok (.bin .eql 3 (.aO (.var (n+1)) 0) (.i 0)))
 (.aE (.len (.aO (.var (n+1)) 2)) (.aE (.len (.ok (.var 0))) (dF 1 (n+1) n k .an)))
 (up n k .an)) K
def ahm(n:Nat):aq:=cF 3 n 7 (.aE (.len (.aO (.var 1) 4)) (cF 4 (n+1) 8 (.aE (.len (.aO (.var 1) 3)) (aan (n+2)))))
def ahn(n:Nat):aq:=JV (.aO (.var 1) 2) 2 n (.ac (.b af) .an) (n+2)
 (.aE (.len (.aO (.var (n+2)) 1)) (.aE (.len (.ok (.var 0))) (dF 0 (n+2) n 6 (.ac (.b ab) .an))))
 (.aE (.len (.aO (.var 1) 3)) (ahm (n+2)))
def Vn(n:Nat):aq:=JV (.aO (.var 1) 1) 2 n .an (n+1)
 (.aE (.len (.aO (.var (n+1)) 1)) (.aE (.len (.ok (.var 0))) (dF 0 (n+1) n 5 .an)))
 (.aE (.len (.aO (.var 1) 2)) (ahn (n+1)))
def Vo:aq:=
 (.loop MR (nt (.ok (.bin .lss 3 (.var 12) (.len (.var 11))))
 (.aE (.idx 1 (.var 11) (.var 12))
 (no (.bin .leq 3 (.oY 1 (.var 11) (.var 12) 0) (.var 13)) 2
 (nt (.ok (.bin .eql 3 (.oY 1 (.var 11) (.var 12) 0) (.var 13)))
 (.aE (.ok (.bin .add 3 (.var 13) (.i 1))) (up 12 4 (.ac (.ok (.bin .add 3 (.var 13) (.i 1))) .an)))
 (up 12 4 (.ac (.var 13) .an)))))
 (no (.bin .eql 3 (.aO (.var 1) 5) (.var 13)) 2
 (nt (.ok (.bin .eql 9 (.aO (.var 1) 0) (.s [])))
 (.aE (.len (.aO (.var 1) 1)) (Vn 14))
 (.call 154 af (.ac (.aO (.var 1) 0) .an) (no (.var 14) 7 (.aE (.len (.aO (.var 1) 1)) (Vn 15))))))))
def atF(l n k:Nat)(φ Y:SE)(d:Nat)(K:aq):aq:=JV (.aO (.var 1) l) 2 n φ d
 (.call 194 af (.ac (.ac (.aO (.var d) 0) (.ac (.aO (.var d) 1) .an)) .an) (no (.var (d+1)) 2 (up n k Y))) K
def goF(l n k:Nat)(φ Y:SE)(d:Nat)(K:aq):aq:=JV (.aO (.var 1) l) 3 n φ d
 (.call 166 af (.ac (.ac (.aO (.var d) 0) (.ac (.aO (.var d) 1) (.ac (.aO (.var d) 2) .an))) .an) (no (.var (d+1)) 2 (up n k Y))) K
def La:aq:=atF 1 3 0 .an .an 4 (.aE (.len (.aO (.var 1) 2))
 (atF 2 4 1 (.ac (.b af) .an) (.ac (.b ab) .an) 6 (.aE (.len (.aO (.var 1) 3))
 (goF 3 6 2 .an .an 7 (.aE (.len (.aO (.var 1) 4))
 (goF 4 7 3 (.ac (.b af) .an) (.ac (.b ab) .an) 9
 (.call 1419 ab (.ac (.tr 1 (.ac (.aO (.var 1) 1) (.ac (.aO (.var 1) 2) .an))) .an)
 (.call 1420 ab (.ac (.tr 1 (.ac (.aO (.var 1) 3) (.ac (.aO (.var 1) 4) .an))) .an)
 (.bind (.cat 1 8 (.var 9) (.var 10)) (.aE (.len (.var 11)) Vo))))))))))
abbrev afj:aq:=.aE (.rw (.i 6)) (.ret (.i 6))
def aho:aq:=
 (tS (uF 6 1) (jN 1069 (IU 221) (FU (lF 1) (ni 1) (I5 1 1) (nt (.ok (.bin .gtr 3 (.ok (.bin .add 3 (.len (.aO (.var 1) 1)) (.len (.aO (.var 1) 2)))) (.i 0)))
 (nt (.ok (.bin .leq 3 (.ok (.bin .add 3 (.len (.aO (.var 1) 1)) (.len (.aO (.var 1) 2)))) (.i 4)))
 (.aE (.len (.aO (.var 1) 3))
 (nt (.ok (.bin .leq 3 (.len (.aO (.var 1) 3)) (.i 12)))
 (.aE (.len (.aO (.var 1) 4))
 (no (.bin .leq 3 (.len (.aO (.var 1) 4)) (.i 12)) 6 (.aE (.len (.aO (.var 1) 1)) La)))
 afj))
 afj)
 afj))))
def atW:aQ Tryz.prog (aqp [⟨2,155008000,53,[(2,(203,0))],[(8,1)],[(2,0),(2,21),(2,180),(2,181),(2,182),(2,183),(2,184),(2,185),(2,186),(2,187),(2,188),(2,189),(2,190),(2,191),(2,192),(2,193),(2,194),(2,195),(2,196),(2,197),(2,198),(2,199),(2,200)],[(2,(22,2))]⟩,⟨2,155008000,47,[(2,(182,0))],[],[(2,19),(2,163),(2,164),(2,165),(2,166),(2,167),(2,168),(2,169),(2,170),(2,171),(2,172),(2,173),(2,174),(2,175),(2,176),(2,177),(2,178),(2,179)],[]⟩,⟨2,155008000,42,[(2,(165,0))],[],[(2,1),(2,15),(2,17),(2,135),(2,136),(2,137),(2,138),(2,139),(2,140),(2,141),(2,142),(2,143),(2,144),(2,145),(2,146),(2,147),(2,148),(2,149),(2,150),(2,151),(2,152),(2,153),(2,154),(2,155),(2,156),(2,157),(2,158),(2,159),(2,160),(2,161),(2,162)],[]⟩,⟨6,155008000162022010008,2,[(6,(8,0))],[],[],[]⟩,⟨3,155008000162,1,[(3,(8,0))],[],[],[]⟩,⟨6,155008000158022010008,2,[(6,(8,0))],[],[],[]⟩,⟨3,155008000158,1,[(3,(8,0))],[],[],[]⟩,⟨2,155008000,34,[(2,(142,0)),(2,(141,0))],[],[],[]⟩,⟨5,155008000152010008,2,[(5,(8,0))],[],[],[]⟩,⟨2,155008000,22,[(2,(11,0)),(2,(103,0))],[],[(2,8),(2,10),(2,74),(2,75),(2,76),(2,77),(2,78),(2,79),(2,80),(2,81),(2,82),(2,83),(2,84),(2,85),(2,86),(2,87),(2,88),(2,89),(2,90),(2,91),(2,92),(2,93),(2,94),(2,95),(2,96),(2,97),(2,98),(2,99),(2,100)],[]⟩,⟨2,155008000,15,[(2,(81,0)),(2,(80,0))],[],[(2,4),(2,6),(2,55),(2,56),(2,57),(2,58),(2,59),(2,60),(2,61),(2,62),(2,63),(2,64),(2,65),(2,66),(2,67),(2,68),(2,69),(2,70),(2,71),(2,72),(2,73)],[]⟩,⟨2,155008000,6,[(2,(62,0)),(2,(61,0))],[],[(2,2),(2,3),(2,5),(2,7),(2,25),(2,26),(2,27),(2,28),(2,29),(2,30),(2,31),(2,32),(2,33),(2,34),(2,35),(2,36),(2,37),(2,38),(2,39),(2,40),(2,41),(2,42),(2,43),(2,44),(2,45),(2,46),(2,47),(2,48),(2,49),(2,50),(2,51),(2,52),(2,53),(2,54)],[]⟩]) 400 af 155=aho:=by kernel_rfl
end Go.Proofs.YtabefplkfkfdfaaGreat
namespace Go.Ev
variable{P:Program}{N:Nat}{G au:St}{e:Env}{df:List Df}{Z:Io}{w:World}
def F9(P:Program)(N:Nat)(c:Code)(e:Env)(df:List Df)(G:St)(CD:Ex->Env->List Df->St->Prop):Prop:=
 ∀B F Z a w Q,kf F ah Z->Inv N Z G w->cY Z e a.tmps->zm B Z w G df a.defers->(∀ex e' Ei au,CD ex e' Ei au->xD B N 0 Z w G ⟨ex,e',Ei,au⟩ Q)->c.wpIn F 0 P Q a w
variable{CD:Ex->Env->List Df->St->Prop}
def F9.S3{c:Code}{CW:kT}(h:cT P N ah c e df G CW)(hc:∀ex e' au,CW ex e' au->CD ex e' df au):F9 P N c e df G CD:=
 λB F Z a w Q hF hi he hd hQ=>h B F Z a w Q hF hi he hd λex e' au h1=>hQ ex e' df au (hc _ _ _ h1)
theorem F9.seq{x y:Code}(h:F9 P N x e df G (λex e1 tB av=>av.n<=N/\(ex=.normal->F9 P N y e1 tB av CD)/\(ex≠.normal->CD ex e1 tB av))):F9 P N (.seq x y) e df G CD:=by
 intro B F Z a w Q hF hi he hd hQ;refine wpIn_seq (h B F Z a w _ hF hi he hd λex e1 tB av hc=>?_);obtain⟨hn,h1,h2⟩:=hc;intro a1 w1 bO ft i1 l1 cM d1 p1;cases ex with
 |normal=>exact h1 rfl B F bO a1 w1 Q (hF.mono l1.ext) i1 cM d1 λex e' Ei au hc=>(hQ ex e' Ei au hc).from hi l1 hn
 |exit id=>exact hQ _ _ _ _ (h2 ay) a1 w1 bO ft i1 l1 cM d1 p1
 |goto l=>exact hQ _ _ _ _ (h2 ay) a1 w1 bO ft i1 l1 cM d1 p1
 |ret=>exact hQ _ _ _ _ (h2 ay) a1 w1 bO ft i1 l1 cM d1 p1
 |cd v=>exact hQ _ _ _ _ (h2 ay) a1 w1 bO ft i1 l1 cM d1 p1
def Ej(P:Program)(N:Nat)(c:Code)(e:Env)(df:List Df)(G:St)(CD:Ex->Env->List Df->St->Prop):Prop:=
 ∀B F Z a w Q,B<=w.heap.size->kf F ah Z->Inv N Z G w->cY Z e a.tmps->kY Z df a.defers->(∀ex e' Ei au,CD ex e' Ei au->xD B N 0 Z w G ⟨ex,e',Ei,au⟩ Q)->c.wpIn F 0 P Q a w
def Ej.ofD{c:Code}(h:F9 P N c e df G CD):Ej P N c e df G CD:=
 λB F Z a w Q hB hF hi he hd hQ=>h B F Z a w Q hF hi he ⟨hB,[],hd,λ_ h=>(by cases h),List.nodup_nil⟩ hQ
def Ej.al6{x y:Code}{fn:FuncId}{e1:Env}{tB:List Df}{av:St}(h:gx P 0 ah fn x e df G ⟨.normal,e1,tB,av⟩)(hn:av.n<=N)(h1:Ej P N y e1 tB av CD):Ej P N (.seq x y) e df G CD:=by
 intro B F Z a w Q hB hF hi he hd hQ;refine wpIn_seq (h.wp hn hF hi he hd ?_);intro a1 w1 bO ft i1 l1 cM d1 p1;exact h1 B F bO a1 w1 Q (awy hB l1.size) (hF.mono l1.ext) i1 cM d1 λex e' Ei au hc=>(hQ ex e' Ei au hc).from hi l1 hn
def eY.aqq{f:FuncId}{fn:Func}{c:Code}{args:List IV}{RW:IV->St->Prop}(cL:P.funcs[f]?=aa fn)(hb:fn.body=aa c)(hlen:args.length<=fn.ntmps)
 (h:Ej P N c (dX args fn.ntmps) [] G (λex e1 tB av=>∃S mi cK v,eP P S/\bK S/\(((ex=.normal\/ex=.ret)/\mi=ah)\/∃u,ex=.cd u/\mi=aa u)/\gW S 0 tB mi av=aa (ah,cK)/\cK.n<=N/\cV P fn e1 cK=aa v/\RW v cK)):eY P N f args G RW:=by
 intro Z us w hi hr;refine callsIn_of_wp_marks cL hb trivial ?_;refine h w.heap.size awP Z {tmps:=us.toArray++Array.replicate (fn.ntmps- us.toArray.size) awT,defers:=[]} w _ (awe _) (.inl ⟨rfl,rfl⟩) hi (AH hr hlen) trivial λex e1 tB av hc=>?_;obtain⟨S,mi,cK,v,hC,hk,hex,fW,hn,hv,vC⟩:=hc;have dW:av.n<=N:=awy (lx hk fW) hn;intro a1 w1 bO ft i1 l1 cM d1 p1;obtain⟨_,ids,W9,W_,Xa⟩:=d1
 have:∀u,o8 bO mi u->LeavesInM awP 0 P fn a1.tmps (λed w'=>∃v au,RW v au/\zA N 0 Z w G v au ed w') a1.defers u w1:=λu hu=>
  Hd hu W9 W_ Xa i1 λw1' ds1 atX i1' l1'=>EN hC hk fW atX hu i1' hn λw2 sE u2 i2 l2 wG=>by
   rw[show u2=_ from wG];obtain⟨u,k1,k2⟩:=vq hv i2 (cM.mono l2.ext);exact⟨u,k1,v,cK,vC,sE,k2,i2,Le.then hi dW (l1' _ _ _ _ (awe _) l1) l2⟩
 rcases hex with⟨rfl|rfl,rfl⟩|⟨u,rfl,rfl⟩
 .exact this _ rfl
 .exact this _ rfl
 .obtain⟨x,rfl,hx⟩:=p1;exact this _ ⟨x,rfl,hx⟩
noncomputable def qd(c:Code)(e:Env)(G:St)(cr:CR):Self:=
 ⟨λro rd _ c' e' Ei au=> @ite _ (ro=0/\rd=ah/\c'=c/\e'=e/\Ei=[]/\au=G) (aBW _) (aa cr) ah,λ_ _ _ _=>ah,λ_ _ _ _=>ah,λ_ _ _ _ _=>ah⟩
def aao{c:Code}{cr:CR}(h:∀fn,gx P 0 ah fn c e [] G cr):(∃m,iv P (qd c e G cr) m)/\eP P (qd c e G cr)/\bW (qd c e G cr)/\bK (qd c e G cr):=by
 obtain⟨hle,m0,hm⟩:=h 0;refine⟨⟨m0,?_⟩,⟨λ_ _ _ _ _ _ _ h=>(by cases h),λ_ _ _ _ _ _ _ h=>(by cases h),λ_ _ _ _ _ _ _ _ h=>(by cases h),λ_ _ _ _ _ _ _ h=>(by cases h)⟩,?_,⟨λ_ _ _ _ _ _ h=>(by cases h),λ_ _ _ _ _ _ h=>(by cases h),λ_ _ _ _ _ _ _ h=>(by cases h)⟩⟩
 .intro N ro rd fn c' e' Ei au cr' hc;simp only[qd]at hc;split at hc
  .rename_i hh;obtain⟨rfl,rfl,rfl,rfl,rfl,rfl⟩:=hh;cases hc;exactλhN F Z a w Q hF hi he hd hQ=>hm m0 (awe _) N hN F Z a w Q hF hi he hd hQ
  .cases hc
 .intro ro rd fn c' e' Ei au cr' hc;simp only[qd]at hc;split at hc
  .rename_i hh;obtain⟨_,_,_,_,_,rfl⟩:=hh;cases hc;exact hle
  .cases hc
def QV{h:FuncId}{fh:Func}{sF:Nat}{A:Array Oper}{φ:Code}{args:List IV}{mo:Option IV}{e1 e2:Env}{v:IV}(cL:P.funcs[h]?=aa fh)(hb:fh.body=aa (.seq (.region sF A af) φ))(ot:(fh.name != "runtime.NumGoroutine")=ab)
 (hlen:args.length<=fh.ntmps)(EO:A.any oU=ab)(aeY:pL P 0 A A.toList (dX args fh.ntmps) mo G=aa (e1,ah,G))(hX:∀fn,gx P 0 ah fn φ e1 [] G ⟨.normal,e2,[],au⟩)
 (hsh:∀S m,By P S 0 h φ e1 m G=(match S.code 0 ah h φ e1 [] G with|some r=>aa (r,m)|none=>ah))(hZ:cV P fh e2 au=aa v):
 ∃S,eP P S/\bK S/\gW S 0 [.call h args] mo G=aa (ah,au):=by
 obtain⟨⟨m,hS⟩,hC,hm,hk⟩:=aao hX;refine⟨mX P (qd φ e1 G ⟨.normal,e2,[],au⟩),NA hS hC hm hk,G2 hm hk,?_⟩;have zL:(qd φ e1 G ⟨.normal,e2,[],au⟩).code 0 ah h φ e1 [] G=aa ⟨.normal,e2,[],au⟩:=by simp[qd]
 have hd:EB P (qd φ e1 G ⟨.normal,e2,[],au⟩) 0 h args mo G=aa (ah,au):=by
  unfold EB;rw[cL];simp only[hb,Option.isSome_some,ot,aBn,axu,awA,if_false];rw[if_neg aj];simp only[By,EO,Bool.not_false,aBn,if_true];rw[show(List.foldl (λ(e:Env) (x:IV×Nat)=>e.put (aa x.snd) x.fst) ⟨fh.ntmps,.lf⟩ args.zipIdx)=dX args fh.ntmps from rfl,aeY];simp only;rw[hsh,zL];simp only[hZ]
 simp only[gW,mX,hd]
end Go.Ev
