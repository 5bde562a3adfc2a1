/- A part of the proof, no condition: two retractions in one or the other order; facts; entries of a log. -/
import Derived.Test.YtggffkaadeagbaaGreatRuR
import Derived.Test.YtggffkaadeagbaaGreatRgI
import Derived.Test.YtggffkaadeagbaaGreatEvJ
open Go.Proofs.Tryz renaming prog->aqD
open List renaming take_succ_eq_append_getElem->aqR,pairwise_append->asa,mem_append->aqX
set_option linter.all false
namespace Go.Proofs.YtggffkaadeagbaaGreat
open Go Go.Ev
def lU(l:List Fa):Prop:=l.Pairwise fun a b=>a.id<b.id
structure OkM(m:Me):Prop where
 f:lU m.facts
 p:lU m.past
 d:∀a∈m.facts,∀b∈m.past,a.id≠b.id
end Go.Proofs.YtggffkaadeagbaaGreat
namespace Go.Proofs.YtggffkaadeagbaaGreat
open Go Go.Ev
theorem Ft{i n:Nat}(h0:0<i)(h:i≤n)(hn:n≤9223372036854775807):IntKind.i64.wrap ((i:Int) - 1)=((i- 1:Nat):Int):=by
 rw[dL (by omega) (by omega)];omega
theorem n99:(aqD.funcs[99]?).map (·.params.size)=some 1:=by kernel_rfl
theorem t99(z:IV):aN aqD 99 z=true:=by kernel_rfl
theorem BW{l:List Int}{i:Nat}(h:i<l.length)(hs:(l.take i).Pairwise (·<·))(hk:0<i→∀h':i- 1<l.length,l[i- 1]<l[i]):(l.take (i+1)).Pairwise (·<·):=by
 rw[aqR h,asa];refine⟨hs,by simp,fun a ha b hb=>?_⟩;simp at hb;subst hb;by_cases h0:0<i
 ·have hi:i- 1<l.length:=by omega
  have cy:=hk h0 hi
  have e:l.take i=l.take (i- 1)++[l[i- 1]]:=by
   rw[←aqR hi];congr 1;omega
  rw[e,asa]at hs;rw[e]at ha;rcases aqX.1 ha with ha|ha
  ·have:=hs.2.2 a ha l[i- 1] (by simp);omega
  ·simp at ha;subst ha;exact cy
 ·have:i=0:=by omega
  subst this;simp at ha
theorem Hb{l:List Int}(h:l.Pairwise (·<·))(h0:l.length- 1<l.length):∀x∈l,x≤l[l.length- 1]:=by
 intro x hx;obtain⟨i,hi,rfl⟩:=List.getElem_of_mem hx;by_cases he:i=l.length- 1
 ·subst he;exact Int.le_refl _
 ·have:=List.pairwise_iff_getElem.1 h i (l.length- 1) hi h0 (by omega);omega
def acz:Fa:=⟨0,⟨[],[]⟩,[]⟩
def findF(l:List Fa)(id:Int):Option Fa:=l.find? fun f=>f.id==id
def qt:Option Fa→IV
 |some f=>.av [eT f,iB true]
 |none=>.av [eT acz,iB false]
theorem n41:(aqD.funcs[41]?).map (·.params.size)=some 2:=by kernel_rfl
theorem t41(a b:IV):aN aqD 41 (.av [a,b])=true:=by kernel_rfl
theorem LZ(o:Option Fa):Pure (qt o):=by
 cases o<;>exact .av _ (by simp[LX])
theorem c41(l:List Fa)(id:Int)(hl:Sm l):CC 41 false [kb l,iI id] (qt (findF l id)):=by
 refine CC.of aov n41 (by cases findF l id<;>exact t41 _ _) (by simp) (LZ _) ?_;simp[acv,Tg,SE.den,af];refine ao l.length (fun i (_:Unit)=>[iI i]) (fun i _=>findF l id=findF (l.drop i) id) () ?_ (by simp) fun i _ hi hI=>?_
 ·simp[SE.den]
 by_cases aa:i<l.length
 ·have hw:=az aa hl
  have jh:findF l id=if l[i].id=id then some l[i]else findF (l.drop (i+1)) id:=by
   rw[hI,List.drop_eq_getElem_cons aa];unfold findF;rw[List.find?_cons];by_cases z:l[i].id=id
   ·simp[z]
   ·have:(l[i].id==id)=false:=by simpa using z
    rw[this,if_neg z]
  simp[SE.den,aa,hw,xM aa,af];by_cases z:l[i].id=id
  ·left;refine⟨z,?_⟩;rw[jh,if_pos z];simp[qt,eT,z]
  ·right;refine⟨z,.mk () rfl (by omega) ?_⟩;rw[jh,if_neg z]
 ·rw[List.drop_of_length_le (by omega)]at hI;simp[SE.den,aa];rw[hI];rfl
theorem n100:(aqD.funcs[100]?).map (·.params.size)=some 2:=by kernel_rfl
theorem t100(a b:IV):aN aqD 100 (.av [a,b])=true:=by kernel_rfl
def cJ(m:Me)(id:Int):Option Fa:=match findF m.facts id with
 |some f=>some f
 |none=>findF m.past id
theorem agw(m:Me)(id:Int)(h:IQ m):CC 100 false [gG m,iI id] (qt (cJ m id)):=by
 refine CC.of akz n100 (by cases cJ m id<;>exact t100 _ _) (by simp[pj]) (LZ _) ?_;have h1:=c41 m.facts id h.sf;have h2:=c41 m.past id h.sp;simp[Yz,SE.den,gG,af];refine⟨_,h1,?_⟩;unfold cJ;cases findF m.facts id with
 |some f=>simp[qt,SE.den,eT,af]
 |none=>
  simp[qt,SE.den,eT,af];refine⟨_,h2,?_⟩;cases findF m.past id with
  |some f=>simp[qt,SE.den,eT,af]
  |none=>simp[qt,SE.den,eT,af,acz]
theorem mS{l:List Fa}{id:Int}{f:Fa}(h:findF l id=some f):f∈l:=List.mem_of_find?_eq_some h
theorem zr{m:Me}{id:Int}{f:Fa}(h:cJ m id=some f):f∈m.facts++m.past:=by
 unfold cJ at h;split at h
 ·cases h;rename_i g;exact List.mem_append_left _ (mS g)
 ·exact List.mem_append_right _ (mS h)
theorem Hc{l:List Fa}{i:Nat}(h:i<l.length)(hs:lU (l.take i))(hk:0<i→∀h':i- 1<l.length,l[i- 1].id<l[i].id):lU (l.take (i+1)):=by
 rw[aqR h,lU,asa];refine⟨hs,by simp,fun a ha b hb=>?_⟩;simp at hb;subst hb;by_cases h0:0<i
 ·have hi:i- 1<l.length:=by omega
  have cy:=hk h0 hi
  have e:l.take i=l.take (i- 1)++[l[i- 1]]:=by
   rw[←aqR hi];congr 1;omega
  rw[e,lU,asa]at hs;rw[e]at ha;rcases aqX.1 ha with ha|ha
  ·have:=hs.2.2 a ha l[i- 1] (by simp);omega
  ·simp at ha;subst ha;exact cy
 ·have:i=0:=by omega
  subst this;simp at ha
def Aq(f:Fa):Prop:=rZ f.a∧Sm f.j
theorem n39:(aqD.funcs[39]?).map (·.params.size)=some 3:=by kernel_rfl
theorem t39(z:IV):aN aqD 39 z=true:=by kernel_rfl
theorem n42:(aqD.funcs[42]?).map (·.params.size)=some 3:=by kernel_rfl
theorem t42(z:IV):aN aqD 42 z=true:=by kernel_rfl
end Go.Proofs.YtggffkaadeagbaaGreat
namespace Go.Proofs.YtggffkaadeagbaaGreat
open Go Go.Ev
def agx:List Nat:=[123,127,126,186,189,44,79,30,102,9,10,23,31,15,257,149,89,148,198,147,199,50,191,71,214,93,163,49,152,64,164,158,95,108,206,250,213,130,131,107,129,155,34,90,51,202,153,201,200,151,203,150,204,154,91,41,67,101,99,109,12,26,28,25,14,19,100,40,39,70,69,35,53,52,68,42,58,75,24,27,22,29,61,190,66,133,128,249,121,78,183]
def agy:List Nat:=[48,92,94,118,205,216]
def agz:List Nat:=[185,188,254]
def agA:List Nat:=[155]
def L0:ab:=
 (wb jv 3 6 jv (rp (E8 dP lD) .lss (tb dP 6) Bk (dT 2 6) (GR jv 3 6 jv (uI dP lD dP 6 Bk Be (uK dP lD (nb 1 8 eW Bo (s_ 1 8 8 1 Bk (tf dP lD jv (lP 1 8 9 iZ (qX 11))))))) (uK dP lD (nb 1 8 eW Bo (s_ 1 8 8 1 Bk (tf dP lD jv (lP 1 8 9 iZ (qX 11)))))))) (GR jv 3 6 jv (uI dP lD dP 6 Bk Be (uK dP lD (nb 1 8 eW Bo (s_ 1 8 8 1 Bk (tf dP lD jv (lP 1 8 9 iZ (qX 11))))))) (uK dP lD (nb 1 8 eW Bo (s_ 1 8 8 1 Bk (tf dP lD jv (lP 1 8 9 iZ (qX 11))))))))
def L4:ab:=
 (wb uA 3 10 uA (rp (E8 jx iZ) .lss (tb jx 10) jB (dT 3 10) (GR uA 3 10 uA (uI jx iZ jx 10 jB (Bp 2 6 7 jx) (uK jx iZ (nb 1 8 eW jz (vy jB (s_ 1 8 12 1 jB (tf jx iZ uA (lP 1 8 13 pN (Bp 2 6 7 (.var 15))))))))) (uK jx iZ (nb 1 8 eW jz (vy jB (s_ 1 8 12 1 jB (tf jx iZ uA (lP 1 8 13 pN (Bp 2 6 7 (.var 15)))))))))) (GR uA 3 10 uA (uI jx iZ jx 10 jB (Bp 2 6 7 jx) (uK jx iZ (nb 1 8 eW jz (vy jB (s_ 1 8 12 1 jB (tf jx iZ uA (lP 1 8 13 pN (Bp 2 6 7 (.var 15))))))))) (uK jx iZ (nb 1 8 eW jz (vy jB (s_ 1 8 12 1 jB (tf jx iZ uA (lP 1 8 13 pN (Bp 2 6 7 (.var 15))))))))))
def L5:ab:=
 (.loop (Cu cH nc (rq 5)) (aaf (v7 3) 3 6 (v7 3) 1 (ju 3 3) 6 (eZ 9 L4) (kQ 1 8)))
def L6:ab:=
 (JU eW (GR (.len nc) 3 4 (.len nc) (Ff nc q3 L0) L5))
def L7:ab:=
 (jD eW cj 1 cj 4 bt 1 (q5 3 L6) yG)
def Tn:ab:=
 (s8 L7)
def adZ:bj:=⟨agx,agy,agz,[⟨0,101,3,[(0,(3,0)),(0,(4,0))],[(0,0)],[],[]⟩,⟨1,101018,7,[(1,(7,0))],[(1,0),(0,0)],[],[]⟩,⟨2,101018020,2,[(2,(5,0))],[],[(1,17)],[]⟩,⟨2,101018032,2,[(2,(5,0))],[],[],[]⟩,⟨1,101018,3,[(1,(5,0)),(1,(6,0))],[(1,0)],[],[]⟩,⟨1,101018,1000031,[],[],[(1,5),(1,26)],[]⟩,⟨1,101018,1000019,[],[],[(1,5),(1,14)],[]⟩],agA⟩
theorem agB:aI aqD adZ 400 true 101=Tn:=by kernel_rfl
end Go.Proofs.YtggffkaadeagbaaGreat
namespace Go.Proofs.YtggffkaadeagbaaGreat
open Go Go.Ev
theorem Qc{L:List Int}{k:Nat}(h:k≤L.length):mu 1 (iL L) (iI 0) (iI (k:Nat))=some (iL (L.take k)):=by
 simp[mu,gC,h,List.map_take]
theorem Qd{L:List Int}{k:Nat}(h:k≤L.length):mu 1 (iL L) (iI (k:Nat)) (iI (L.length:Nat))=some (iL (L.drop k)):=by
 simp[mu,gC,h,List.map_drop];rw[List.take_of_length_le (by simp)]
section
variable{Q:IV→Prop}{k0 k1 k2:List IV→Prop}
end
theorem n101:(aqD.funcs[101]?).map (·.params.size)=some 1:=by kernel_rfl
theorem t101(z:IV):aN aqD 101 z=true:=by kernel_rfl
end Go.Proofs.YtggffkaadeagbaaGreat
namespace Go.Proofs.YtggffkaadeagbaaGreat
open Go Go.Ev
theorem YO{L:List Int}{k:Nat}(h:k≤L.length):mu 1 (iL L) (iI (k:Nat)) (iI (L.length:Nat))=some (iL (L.drop k)):=Qd h
structure IY(x:Ap):Prop where
 h:x.bw.length≤8
 g:x.gone.length≤8
 m:x.made.length≤20
 j:x.fV.length≤20
structure Cy(m:Me):Prop where
 w:IQ m
 f:m.facts.length≤9
 p:m.past.length≤9
 l:m.log.length≤12
 x:∀x∈m.log,IY x
 j:∀f∈m.facts++m.past,f.j.length≤20
theorem n40:(aqD.funcs[40]?).map (·.params.size)=some 3:=by kernel_rfl
theorem t40(z:IV):aN aqD 40 z=true:=by kernel_rfl
section
variable{k0 k1 k2:List IV→Prop}{G:Prop}
end
end Go.Proofs.YtggffkaadeagbaaGreat
