/- A part of the proof, no condition: two retractions in one or the other order; facts; entries of a log. -/
import Derived.Test.YtpfogalbnijcoaaGreatRuR
import Derived.Test.YtpfogalbnijcoaaGreatRgI
import Derived.Test.YtpfogalbnijcoaaGreatEvJ
open Go.Proofs.Tryz renaming prog->ar1
open List renaming take_succ_eq_append_getElem->ase,pairwise_append->atB,mem_append->asn
open Option renaming some->aa
open Bool renaming true->ab,false->af
set_option linter.all false
namespace Go.Proofs.YtpfogalbnijcoaaGreat
open Go Go.Ev
def l_(l:List Fa):Prop:=l.Pairwise λa b=>a.id<b.id
structure OkM(m:Me):Prop where
 f:l_ m.facts
 p:l_ m.past
 d:∀a∈m.facts,∀b∈m.past,a.id≠b.id
end Go.Proofs.YtpfogalbnijcoaaGreat
namespace Go.Proofs.YtpfogalbnijcoaaGreat
open Go Go.Ev
theorem CO{i n:Nat}(h0:0<i)(h:i<=n)(hn:n<=9223372036854775807):IntKind.i64.wrap ((i:Int) - 1)=((i- 1:Nat):Int):=by
 rw[dQ (by omega) (by omega)];omega
theorem n99:(ar1.funcs[64]?).map (·.params.size)=aa 1:=by kernel_rfl
theorem t99(z:IV):aQ ar1 64 z=ab:=by kernel_rfl
theorem CP{l:List Int}{i:Nat}(h:i<l.length)(hs:(l.take i).Pairwise (·<·))(hk:0<i->∀h':i- 1<l.length,l[i- 1]<l[i]):(l.take (i+1)).Pairwise (·<·):=by
 rw[ase h,atB];refine⟨hs,by simp,λa ha b hb=>?_⟩;simp at hb;subst hb;by_cases h0:0<i
 ·have hi:i- 1<l.length:=by omega
  have cC:=hk h0 hi
  have e:l.take i=l.take (i- 1)++[l[i- 1]]:=by
   rw[<-ase hi];congr 1;omega
  rw[e,atB]at hs;rw[e]at ha;rcases asn.1 ha with ha|ha
  ·have:=hs.2.2 a ha l[i- 1] (by simp);omega
  ·simp at ha;subst ha;exact cC
 ·have:i=0:=by omega
  subst this;simp at ha
theorem HM{l:List Int}(h:l.Pairwise (·<·))(h0:l.length- 1<l.length):∀x∈l,x<=l[l.length- 1]:=by
 intro x hx;obtain⟨i,hi,rfl⟩:=List.getElem_of_mem hx;by_cases he:i=l.length- 1
 ·subst he;exact Int.le_refl _
 ·have:=List.pairwise_iff_getElem.1 h i (l.length- 1) hi h0 (by omega);omega
def ads:Fa:=⟨0,⟨[],[]⟩,[]⟩
def findF(l:List Fa)(id:Int):Option Fa:=l.find? λf=>f.id==id
def qR:Option Fa->IV
 |some f=>.az [eX f,iB ab]
 |none=>.az [eX ads,iB af]
theorem n41:(ar1.funcs[36]?).map (·.params.size)=aa 2:=by kernel_rfl
theorem t41(a b:IV):aQ ar1 36 (.az [a,b])=ab:=by kernel_rfl
theorem MB(o:Option Fa):Pure (qR o):=by
 cases o<;>exact .az _ (by simp[Mz])
theorem c41(l:List Fa)(id:Int)(hl:Sm l):CC 36 af [iv l,iI id] (qR (findF l id)):=by
 refine CC.of apw n41 (by cases findF l id<;>exact t41 _ _) (by simp) (MB _) ?_;simp[ado,T1,SE.den,aj];refine aw l.length (λi (_:Unit)=>[iI i]) (λi _=>findF l id=findF (l.drop i) id) () ?_ (by simp) λi _ hi hI=>?_
 ·simp[SE.den]
 by_cases ai:i<l.length
 ·have hw:=aD ai hl
  have iw:findF l id=if l[i].id=id then aa l[i]else findF (l.drop (i+1)) id:=by
   rw[hI,List.drop_eq_getElem_cons ai];unfold findF;rw[List.find?_cons];by_cases z:l[i].id=id
   ·simp[z]
   ·have:(l[i].id==id)=af:=by simpa using z
    rw[this,if_neg z]
  simp[SE.den,ai,hw,yL ai,aj];by_cases z:l[i].id=id
  ·left;refine⟨z,?_⟩;rw[iw,if_pos z];simp[qR,eX,z]
  ·right;refine⟨z,.mk () rfl (by omega) ?_⟩;rw[iw,if_neg z]
 ·rw[List.drop_of_length_le (by omega)]at hI;simp[SE.den,ai];rw[hI];rfl
theorem n100:(ar1.funcs[66]?).map (·.params.size)=aa 2:=by kernel_rfl
theorem t100(a b:IV):aQ ar1 66 (.az [a,b])=ab:=by kernel_rfl
def cN(m:Me)(id:Int):Option Fa:=match findF m.facts id with
 |some f=>aa f
 |none=>findF m.past id
theorem ahp(m:Me)(id:Int)(h:Jq m):CC 66 af [fF m,iI id] (qR (cN m id)):=by
 refine CC.of aln n100 (by cases cN m id<;>exact t100 _ _) (by simp[lS]) (MB _) ?_;have h1:=c41 m.facts id h.sf;have h2:=c41 m.past id h.sp;simp[Zp,SE.den,fF,aj];refine⟨_,h1,?_⟩;unfold cN;cases findF m.facts id with
 |some f=>simp[qR,SE.den,eX,aj]
 |none=>
  simp[qR,SE.den,eX,aj];refine⟨_,h2,?_⟩;cases findF m.past id with
  |some f=>simp[qR,SE.den,eX,aj]
  |none=>simp[qR,SE.den,eX,aj,ads]
theorem np{l:List Fa}{id:Int}{f:Fa}(h:findF l id=aa f):f∈l:=List.mem_of_find?_eq_some h
theorem Aw{m:Me}{id:Int}{f:Fa}(h:cN m id=aa f):f∈m.facts++m.past:=by
 unfold cN at h;split at h
 ·cases h;rename_i g;exact List.mem_append_left _ (np g)
 ·exact List.mem_append_right _ (np h)
theorem HN{l:List Fa}{i:Nat}(h:i<l.length)(hs:l_ (l.take i))(hk:0<i->∀h':i- 1<l.length,l[i- 1].id<l[i].id):l_ (l.take (i+1)):=by
 rw[ase h,l_,atB];refine⟨hs,by simp,λa ha b hb=>?_⟩;simp at hb;subst hb;by_cases h0:0<i
 ·have hi:i- 1<l.length:=by omega
  have cC:=hk h0 hi
  have e:l.take i=l.take (i- 1)++[l[i- 1]]:=by
   rw[<-ase hi];congr 1;omega
  rw[e,l_,atB]at hs;rw[e]at ha;rcases asn.1 ha with ha|ha
  ·have:=hs.2.2 a ha l[i- 1] (by simp);omega
  ·simp at ha;subst ha;exact cC
 ·have:i=0:=by omega
  subst this;simp at ha
def yO(f:Fa):Prop:=sL f.a/\Sm f.j
theorem n39:(ar1.funcs[34]?).map (·.params.size)=aa 3:=by kernel_rfl
theorem t39(z:IV):aQ ar1 34 z=ab:=by kernel_rfl
theorem n42:(ar1.funcs[37]?).map (·.params.size)=aa 3:=by kernel_rfl
theorem t42(z:IV):aQ ar1 37 z=ab:=by kernel_rfl
end Go.Proofs.YtpfogalbnijcoaaGreat
namespace Go.Proofs.YtpfogalbnijcoaaGreat
open Go Go.Ev
def ahq:List Nat:=[209,280,208,250,295,22,23,8,49,4,9,272,199,118,198,240,197,241,62,249,122,206,61,202,101,123,125,177,248,124,205,59,119,63,244,203,243,242,201,245,200,246,204,120,36,68,64,33,17,66,35,34,60,65,37,256,257,227,281,279,187,29,234]
def ahr:List Nat:=[121,67,247,277]
def ahs:List Nat:=[238]
def aht:List Nat:=[205]
def MC:ak:=
 (ga jG 6 jG (lM (zK jk) .lss (tN ej 6) Ca (kg 2 6) (Hs jG 6 jG (mq (zK jk) (wT ej 6 Ca) B8 (rI 1 ej jk (nI 1 8 e_ mB (tP 1 8 8 1 Ca (yu 1 ej jk jG (l5 1 8 9 jj (rA 11))))))) (rI 1 ej jk (nI 1 8 e_ mB (tP 1 8 8 1 Ca (yu 1 ej jk jG (l5 1 8 9 jj (rA 11)))))))) (Hs jG 6 jG (mq (zK jk) (wT ej 6 Ca) B8 (rI 1 ej jk (nI 1 8 e_ mB (tP 1 8 8 1 Ca (yu 1 ej jk jG (l5 1 8 9 jj (rA 11))))))) (rI 1 ej jk (nI 1 8 e_ mB (tP 1 8 8 1 Ca (yu 1 ej jk jG (l5 1 8 9 jj (rA 11))))))))
def MD:ak:=
 (ga u9 10 u9 (lM (zD jH jj) .lss (tN jH 10) jm (kg 3 10) (Hs u9 10 u9 (mq (zD jH jj) (wT jH 10 jm) (zM 2 6 mB jH) (rI 1 jH jj (nI 1 8 e_ jK (wm jm (tP 1 8 12 1 jm (yu 1 jH jj u9 (l5 1 8 13 oN (zM 2 6 mB (.var 15))))))))) (rI 1 jH jj (nI 1 8 e_ jK (wm jm (tP 1 8 12 1 jm (yu 1 jH jj u9 (l5 1 8 13 oN (zM 2 6 mB (.var 15)))))))))) (Hs u9 10 u9 (mq (zD jH jj) (wT jH 10 jm) (zM 2 6 mB jH) (rI 1 jH jj (nI 1 8 e_ jK (wm jm (tP 1 8 12 1 jm (yu 1 jH jj u9 (l5 1 8 13 oN (zM 2 6 mB (.var 15))))))))) (rI 1 jH jj (nI 1 8 e_ jK (wm jm (tP 1 8 12 1 jm (yu 1 jH jj u9 (l5 1 8 13 oN (zM 2 6 mB (.var 15))))))))))
def ME:ak:=
 (.loop (zA dg l6 (mN 5)) (pB (zB 3) (Kr 6 (zB 3)) (gn 1 (rG 3) 6 (jU 9 MD)) 0 3 1 1 (mN 8)))
def MF:ak:=
 (jJ e_ (.len l6) 4 (.len l6) (FQ l6 oP MC) ME)
def MG:ak:=
 (jJ e_ cb 1 cb (qf 4 1 4 3 MF) vb)
def T7:ak:=
 (tO MG)
def aeT:bg:=⟨ahq,ahr,ahs,[⟨0,68,3,[(0,(3,0)),(0,(4,0))],[(0,0)],[],[]⟩,⟨1,68018,7,[(1,(7,0))],[(1,0),(0,0)],[],[]⟩,⟨2,68018020,2,[(2,(5,0))],[],[(1,17)],[]⟩,⟨2,68018032,2,[(2,(5,0))],[],[],[]⟩,⟨1,68018,3,[(1,(5,0)),(1,(6,0))],[(1,0)],[],[]⟩,⟨1,68018,1000031,[],[],[(1,5),(1,26)],[]⟩,⟨1,68018,1000019,[],[],[(1,5),(1,14)],[]⟩],aht⟩
theorem ahu:aK ar1 aeT 400 ab 68=T7:=by kernel_rfl
end Go.Proofs.YtpfogalbnijcoaaGreat
namespace Go.Proofs.YtpfogalbnijcoaaGreat
open Go Go.Ev
theorem QN{L:List Int}{k:Nat}(h:k<=L.length):kP 1 (iL L) (iI 0) (iI (k:Nat))=aa (iL (L.take k)):=by
 simp[kP,gh,h,List.map_take]
theorem QO{L:List Int}{k:Nat}(h:k<=L.length):kP 1 (iL L) (iI (k:Nat)) (iI (L.length:Nat))=aa (iL (L.drop k)):=by
 simp[kP,gh,h,List.map_drop];rw[List.take_of_length_le (by simp)]
section
variable{Q:IV->Prop}{k0 k1 k2:List IV->Prop}
end
theorem n101:(ar1.funcs[68]?).map (·.params.size)=aa 1:=by kernel_rfl
theorem t101(z:IV):aQ ar1 68 z=ab:=by kernel_rfl
end Go.Proofs.YtpfogalbnijcoaaGreat
namespace Go.Proofs.YtpfogalbnijcoaaGreat
open Go Go.Ev
theorem ZF{L:List Int}{k:Nat}(h:k<=L.length):kP 1 (iL L) (iI (k:Nat)) (iI (L.length:Nat))=aa (iL (L.drop k)):=QO h
structure Jw(x:Ap):Prop where
 h:x.aW.length<=8
 g:x.gone.length<=8
 m:x.made.length<=20
 j:x.ff.length<=20
structure yP(m:Me):Prop where
 w:Jq m
 f:m.facts.length<=9
 p:m.past.length<=9
 l:m.log.length<=12
 x:∀x∈m.log,Jw x
 j:∀f∈m.facts++m.past,f.j.length<=20
theorem n40:(ar1.funcs[35]?).map (·.params.size)=aa 3:=by kernel_rfl
theorem t40(z:IV):aQ ar1 35 z=ab:=by kernel_rfl
section
variable{k0 k1 k2:List IV->Prop}{G:Prop}
end
end Go.Proofs.YtpfogalbnijcoaaGreat
