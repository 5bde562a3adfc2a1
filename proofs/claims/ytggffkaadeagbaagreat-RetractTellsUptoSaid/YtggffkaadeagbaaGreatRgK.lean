/- A part of the proof, no condition: two retractions in one or the other order; facts; entries of a log. -/
import Derived.Test.YtggffkaadeagbaaGreatRuR
import Derived.Test.YtggffkaadeagbaaGreatRgI
import Derived.Test.YtggffkaadeagbaaGreatEvJ
open Go.Proofs.Tryz renaming prog->asK
open List renaming take_succ_eq_append_getElem->asX,pairwise_append->aum,mem_append->as8
open Option renaming some->aa
open Bool renaming true->ab,false->af
set_option linter.all false
namespace Go.Proofs.YtggffkaadeagbaaGreat
open Go Go.Ev
def mJ(l:List Fa):Prop:=l.Pairwise λa b=>a.id<b.id
structure OkM(m:Me):Prop where
 f:mJ m.facts
 p:mJ m.past
 d:∀a∈m.facts,∀b∈m.past,a.id≠b.id
end Go.Proofs.YtggffkaadeagbaaGreat
namespace Go.Proofs.YtggffkaadeagbaaGreat
open Go Go.Ev
theorem Gy{i n:Nat}(h0:0<i)(h:i<=n)(hn:n<=9223372036854775807):IntKind.i64.wrap ((i:Int) - 1)=((i- 1:Nat):Int):=by
 rw[cQ (by omega) (by omega)];omega
theorem n99:(asK.funcs[99]?).map (·.params.size)=aa 1:=by kernel_rfl
theorem t99(z:IV):aO asK 99 z=ab:=by kernel_rfl
theorem C_{l:List Int}{i:Nat}(h:i<l.length)(hs:(l.take i).Pairwise (·<·))(hk:0<i->∀h':i- 1<l.length,l[i- 1]<l[i]):(l.take (i+1)).Pairwise (·<·):=by
 rw[asX h,aum];refine⟨hs,by simp,λa ha b hb=>?_⟩;simp at hb;subst hb;by_cases h0:0<i
 ·have hi:i- 1<l.length:=by omega
  have cH:=hk h0 hi
  have e:l.take i=l.take (i- 1)++[l[i- 1]]:=by
   rw[<-asX hi];congr 1;omega
  rw[e,aum]at hs;rw[e]at ha;rcases as8.1 ha with ha|ha
  ·have:=hs.2.2 a ha l[i- 1] (by simp);omega
  ·simp at ha;subst ha;exact cH
 ·have:i=0:=by omega
  subst this;simp at ha
theorem Ih{l:List Int}(h:l.Pairwise (·<·))(h0:l.length- 1<l.length):∀x∈l,x<=l[l.length- 1]:=by
 intro x hx;obtain⟨i,hi,rfl⟩:=List.getElem_of_mem hx;by_cases he:i=l.length- 1
 ·subst he;exact Int.le_refl _
 ·have:=List.pairwise_iff_getElem.1 h i (l.length- 1) hi h0 (by omega);omega
def aed:Fa:=⟨0,⟨[],[]⟩,[]⟩
def findF(l:List Fa)(id:Int):Option Fa:=l.find? λf=>f.id==id
def ru:Option Fa->IV
 |some f=>.az [ef f,iB ab]
 |none=>.az [ef aed,iB af]
theorem n41:(asK.funcs[41]?).map (·.params.size)=aa 2:=by kernel_rfl
theorem t41(a b:IV):aO asK 41 (.az [a,b])=ab:=by kernel_rfl
theorem Ng(o:Option Fa):Pure (ru o):=by
 cases o<;>exact .az _ (by simp[Fc])
theorem c41(l:List Fa)(id:Int)(hl:Sm l):CC 41 af [gL l,iI id] (ru (findF l id)):=by
 refine CC.of aqy n41 (by cases findF l id<;>exact t41 _ _) (by simp) (Ng _) ?_;simp[ad_,Up,SE.den,aj];refine aw l.length (λi (_:Unit)=>[iI i]) (λi _=>findF l id=findF (l.drop i) id) () ?_ (by simp) λi _ hi hI=>?_
 ·simp[SE.den]
 by_cases ai:i<l.length
 ·have hw:=aD ai hl
  have iR:findF l id=if l[i].id=id then aa l[i]else findF (l.drop (i+1)) id:=by
   rw[hI,List.drop_eq_getElem_cons ai];unfold findF;rw[List.find?_cons];by_cases z:l[i].id=id
   ·simp[z]
   ·have:(l[i].id==id)=af:=by simpa using z
    rw[this,if_neg z]
  simp[SE.den,ai,hw,yU ai,aj];by_cases z:l[i].id=id
  ·left;refine⟨z,?_⟩;rw[iR,if_pos z];simp[ru,ef,z]
  ·right;refine⟨z,.mk () rfl (by omega) ?_⟩;rw[iR,if_neg z]
 ·rw[List.drop_of_length_le (by omega)]at hI;simp[SE.den,ai];rw[hI];rfl
theorem n100:(asK.funcs[100]?).map (·.params.size)=aa 2:=by kernel_rfl
theorem t100(a b:IV):aO asK 100 (.az [a,b])=ab:=by kernel_rfl
def cR(m:Me)(id:Int):Option Fa:=match findF m.facts id with
 |some f=>aa f
 |none=>findF m.past id
theorem aif(m:Me)(id:Int)(h:DI m):CC 100 af [dr m,iI id] (ru (cR m id)):=by
 refine CC.of amp n100 (by cases cR m id<;>exact t100 _ _) (by simp[iQ]) (Ng _) ?_;have h1:=c41 m.facts id h.sf;have h2:=c41 m.past id h.sp;simp[aaj,SE.den,dr,aj];refine⟨_,h1,?_⟩;unfold cR;cases findF m.facts id with
 |some f=>simp[ru,SE.den,ef,aj]
 |none=>
  simp[ru,SE.den,ef,aj];refine⟨_,h2,?_⟩;cases findF m.past id with
  |some f=>simp[ru,SE.den,ef,aj]
  |none=>simp[ru,SE.den,ef,aj,aed]
theorem nQ{l:List Fa}{id:Int}{f:Fa}(h:findF l id=aa f):f∈l:=List.mem_of_find?_eq_some h
theorem AB{m:Me}{id:Int}{f:Fa}(h:cR m id=aa f):f∈m.facts++m.past:=by
 unfold cR at h;split at h
 ·cases h;rename_i g;exact List.mem_append_left _ (nQ g)
 ·exact List.mem_append_right _ (nQ h)
theorem Ii{l:List Fa}{i:Nat}(h:i<l.length)(hs:mJ (l.take i))(hk:0<i->∀h':i- 1<l.length,l[i- 1].id<l[i].id):mJ (l.take (i+1)):=by
 rw[asX h,mJ,aum];refine⟨hs,by simp,λa ha b hb=>?_⟩;simp at hb;subst hb;by_cases h0:0<i
 ·have hi:i- 1<l.length:=by omega
  have cH:=hk h0 hi
  have e:l.take i=l.take (i- 1)++[l[i- 1]]:=by
   rw[<-asX hi];congr 1;omega
  rw[e,mJ,aum]at hs;rw[e]at ha;rcases as8.1 ha with ha|ha
  ·have:=hs.2.2 a ha l[i- 1] (by simp);omega
  ·simp at ha;subst ha;exact cH
 ·have:i=0:=by omega
  subst this;simp at ha
def yX(f:Fa):Prop:=nz f.a/\Sm f.j
theorem n39:(asK.funcs[39]?).map (·.params.size)=aa 3:=by kernel_rfl
theorem t39(z:IV):aO asK 39 z=ab:=by kernel_rfl
theorem n42:(asK.funcs[42]?).map (·.params.size)=aa 3:=by kernel_rfl
theorem t42(z:IV):aO asK 42 z=ab:=by kernel_rfl
end Go.Proofs.YtggffkaadeagbaaGreat
namespace Go.Proofs.YtggffkaadeagbaaGreat
open Go Go.Ev
def aih:List Nat:=[123,127,126,186,189,44,79,30,102,9,10,23,31,15,257,149,89,148,198,147,199,50,191,71,214,93,163,49,152,64,164,158,95,108,206,250,213,130,131,107,129,155,34,90,51,202,153,201,200,151,203,150,204,154,91,41,67,101,99,109,12,26,28,25,14,19,100,40,39,70,69,35,53,52,68,42,58,75,24,27,22,29,61,190,66,133,128,249,121,78,183]
def aii:List Nat:=[48,92,94,118,205,216]
def aij:List Nat:=[185,188,254]
def aik:List Nat:=[155]
def Nh:ak:=
 (uA jW 3 6 jW (oa (Gb eb mh) .lss (uh eb 6) Ct (eh 2 6) (HU jW 3 6 jW (vN eb mh eb 6 Ct Cn (vP eb mh (mC 1 8 fq Cw (qB 1 8 8 1 Ct (ur eb mh jW (mE 1 8 9 iE (rZ 11))))))) (vP eb mh (mC 1 8 fq Cw (qB 1 8 8 1 Ct (ur eb mh jW (mE 1 8 9 iE (rZ 11)))))))) (HU jW 3 6 jW (vN eb mh eb 6 Ct Cn (vP eb mh (mC 1 8 fq Cw (qB 1 8 8 1 Ct (ur eb mh jW (mE 1 8 9 iE (rZ 11))))))) (vP eb mh (mC 1 8 fq Cw (qB 1 8 8 1 Ct (ur eb mh jW (mE 1 8 9 iE (rZ 11))))))))
def Ni:ak:=
 (uA vC 3 10 vC (oa (Gb jX iE) .lss (uh jX 10) j8 (eh 3 10) (HU vC 3 10 vC (vN jX iE jX 10 j8 (Cx 2 6 7 jX) (vP jX iE (mC 1 8 fq jY (wI j8 (qB 1 8 12 1 j8 (ur jX iE vC (mE 1 8 13 qC (Cx 2 6 7 (.var 15))))))))) (vP jX iE (mC 1 8 fq jY (wI j8 (qB 1 8 12 1 j8 (ur jX iE vC (mE 1 8 13 qC (Cx 2 6 7 (.var 15)))))))))) (HU vC 3 10 vC (vN jX iE jX 10 j8 (Cx 2 6 7 jX) (vP jX iE (mC 1 8 fq jY (wI j8 (qB 1 8 12 1 j8 (ur jX iE vC (mE 1 8 13 qC (Cx 2 6 7 (.var 15))))))))) (vP jX iE (mC 1 8 fq jY (wI j8 (qB 1 8 12 1 j8 (ur jX iE vC (mE 1 8 13 qC (Cx 2 6 7 (.var 15))))))))))
def Nj:ak:=
 (.loop (wY cx oe (pf 5)) (K5 (xj 3) 3 6 (xj 3) 1 (jH 3 3) 6 (eC 9 Ni) (lJ 1 8)))
def Nk:ak:=
 (K9 fq (HU (.len oe) 3 4 (.len oe) (Gh oe r8 Nh) Nj))
def Nl:ak:=
 (j9 fq bK 1 bK 4 bw 1 (mj 3 Nk) zL)
def Uv:ak:=
 (pA Nl)
def afC:a_:=⟨aih,aii,aij,[⟨0,101,3,[(0,(3,0)),(0,(4,0))],[(0,0)],[],[]⟩,⟨1,101018,7,[(1,(7,0))],[(1,0),(0,0)],[],[]⟩,⟨2,101018020,2,[(2,(5,0))],[],[(1,17)],[]⟩,⟨2,101018032,2,[(2,(5,0))],[],[],[]⟩,⟨1,101018,3,[(1,(5,0)),(1,(6,0))],[(1,0)],[],[]⟩,⟨1,101018,1000031,[],[],[(1,5),(1,26)],[]⟩,⟨1,101018,1000019,[],[],[(1,5),(1,14)],[]⟩],aik⟩
theorem ail:aH asK afC 400 ab 101=Uv:=by kernel_rfl
end Go.Proofs.YtggffkaadeagbaaGreat
namespace Go.Proofs.YtggffkaadeagbaaGreat
open Go Go.Ev
theorem Rj{L:List Int}{k:Nat}(h:k<=L.length):nj 1 (iL L) (iI 0) (iI (k:Nat))=aa (iL (L.take k)):=by
 simp[nj,gS,h,List.map_take]
theorem Rk{L:List Int}{k:Nat}(h:k<=L.length):nj 1 (iL L) (iI (k:Nat)) (iI (L.length:Nat))=aa (iL (L.drop k)):=by
 simp[nj,gS,h,List.map_drop];rw[List.take_of_length_le (by simp)]
section
variable{Q:IV->Prop}{k0 k1 k2:List IV->Prop}
end
theorem n101:(asK.funcs[101]?).map (·.params.size)=aa 1:=by kernel_rfl
theorem t101(z:IV):aO asK 101 z=ab:=by kernel_rfl
end Go.Proofs.YtggffkaadeagbaaGreat
namespace Go.Proofs.YtggffkaadeagbaaGreat
open Go Go.Ev
theorem aay{L:List Int}{k:Nat}(h:k<=L.length):nj 1 (iL L) (iI (k:Nat)) (iI (L.length:Nat))=aa (iL (L.drop k)):=Rk h
structure J0(x:Ap):Prop where
 h:x.bA.length<=8
 g:x.gone.length<=8
 m:x.made.length<=20
 j:x.fA.length<=20
structure q8(m:Me):Prop where
 w:DI m
 f:m.facts.length<=9
 p:m.past.length<=9
 l:m.log.length<=12
 x:∀x∈m.log,J0 x
 j:∀f∈m.facts++m.past,f.j.length<=20
theorem n40:(asK.funcs[40]?).map (·.params.size)=aa 3:=by kernel_rfl
theorem t40(z:IV):aO asK 40 z=ab:=by kernel_rfl
section
variable{k0 k1 k2:List IV->Prop}{G:Prop}
end
end Go.Proofs.YtggffkaadeagbaaGreat
