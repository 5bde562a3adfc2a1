/- A part of the proof, no condition: the check of a rule and of a program come to an end. -/
import Derived.Test.YtggffkaadeagbaaGreatEvR
import Derived.Test.YtggffkaadeagbaaGreatProg
import Derived.KernelRfl
import Derived.Test.YtggffkaadeagbaaGreatRiJ
open Go.Proofs.Tryz renaming prog->ar3
open List renaming mem_append_left->atU,mem_append_right->atA,length_flatten->atv,getElem_mem->asb,length_append->asu
open Nat renaming le_trans->asr,mul_le_mul_right->asB
open Go.IntKind renaming i64->aso
set_option linter.all false
namespace Go.Proofs.YtggffkaadeagbaaGreat
open Go Go.Ev
theorem aif:(fun u:Value=>oT ar3 .eql 20 (.tmp 4) (.const .nilIface) (.cY 172 (.agg [.raw u])) (.raw .nilIface))=fun _=>some (.bool false):=by kernel_rfl
theorem amM(u:Value):oT ar3 .eql 20 (.tmp 4) (.const .nilIface) (.cY 172 (.agg [.raw u])) (.raw .nilIface)=some (.bool false):=congrFun aif u
theorem abw:Dz ar3 80 172:=by
 apply pw.O3 (P:=ar3) (g:=80) (h:=134) (t:=172) (et:=31) (f0:=Tryz.f80) (f1:=Tryz.f134);constructor
 case fn=>exact Tryz.func80
 case fh=>exact Tryz.func134
 case fb=>exact rfl
 case hb=>exact rfl
 case nt=>exact rfl
 case nh=>exact rfl
 case name=>decide
 case res=>exact rfl
 case resh=>exact rfl
 case lA0=>exact rfl
 case lA1=>exact rfl
 case lA2=>exact rfl
 case lA3=>exact rfl
 case lB0=>exact rfl
 case lB3=>exact rfl
 case lB4=>exact rfl
 case lB5=>exact rfl
 case lB6=>exact rfl
 case lB7=>exact rfl
 case oa0=>exact⟨rfl,rfl,rfl⟩
 case oa1=>exact⟨rfl,rfl,rfl⟩
 case oa2=>exact⟨rfl,rfl,rfl⟩
 case oa3=>exact⟨rfl,rfl,rfl⟩
 case oa4=>exact⟨rfl,rfl,rfl⟩
 case oa5=>exact⟨rfl,rfl,rfl⟩
 case ob0=>exact⟨rfl,rfl,rfl⟩
 case ob3=>exact⟨rfl,rfl,rfl⟩
 case ob4=>exact⟨rfl,rfl,rfl⟩
 case ob5=>exact⟨rfl,rfl,rfl⟩
 case ob6=>exact⟨rfl,rfl,rfl⟩
 case ob7=>exact⟨rfl,rfl,rfl⟩
 case ob8=>exact⟨rfl,rfl,rfl⟩
 case ob9=>exact⟨rfl,rfl,rfl⟩
 case oc0=>exact⟨rfl,rfl,rfl⟩
 case oc1=>exact⟨rfl,rfl,rfl⟩
 case oc2=>exact⟨rfl,rfl,rfl⟩
 case ze=>kernel_rfl
 case se=>kernel_rfl
 case ae=>kernel_rfl
 case zt=>kernel_rfl
 case st=>kernel_rfl
 case ut=>exact Tryz.underlying172
 case fl=>exact⟨rfl,rfl,rfl⟩
 case eq0=>kernel_rfl
 case eq1=>exact amM
end Go.Proofs.YtggffkaadeagbaaGreat
namespace Go.Proofs.YtggffkaadeagbaaGreat
open Go Go.Ev
abbrev aR(r:Rl):IV:=.agg [iS r.name,cS r.keep,cS r.remove,qT r.guard,qT r.body,iI r.vars]
section
variable{k0 k1 k2 k3 k4 k5 k6 k7 k8 k9 k10 k11 k12:List IV→Prop}{x2 x3 x4 x5 x6 x7 x8 x9 eZ jY ju l8 mH tX sg tY Ep L6 Lv x21 X0 XZ XY x25 x26:IV}
theorem amN(ds:List De)(hd:Sm ds)(r:Rl)(s:List UInt8)(ts:List Tm)(i:Nat)(hi:i<1000)(hk:k5 [iI (i+1:Nat)]):
 TA.sat ar3 CC lG [k0,k1,k2,k3,k4,k5] [ek ds,aR r,x2,x3,x4,x5,x6,x7,x8,x9,eZ,jY,ju,l8,iI i,.agg [iS s,iT ts]]:=by
 have eO:=aw hi (by omega);obtain⟨vJ,qj⟩:=F6 ds s ts.length hd;refine ao ds.length (fun j (_:Unit)=>[iI j]) (fun _ _=>True) () ?_ trivial fun j _ hj _=>?_
 ·simp[SE.den]
 by_cases aa:j<ds.length
 ·have hw:=aw aa hd;simp[SE.den,aa,hw,eO,tH aa,ab,au];by_cases h1:ds[j].s=s
  ·left;refine⟨h1,_,qj,?_⟩;cases vJ<;>simp[au];exact hk
  ·right;exact⟨h1,.mk () rfl (by omega) trivial⟩
 ·simp[SE.den,aa,au]
theorem amO(ds:List De)(hd:Sm ds)(r:Rl)(s:List UInt8)(ts:List Tm)(i:Nat)(hi:i<1000)(hk:k6 [iI (i+1:Nat),iB true]):
 TB.sat ar3 CC lG [k0,k1,k2,k3,k4,k5,k6] [ek ds,aR r,x2,x3,x4,x5,x6,x7,x8,x9,eZ,jY,ju,l8,mH,iI i,sg,.agg [iS s,iT ts]]:=by
 have eO:=aw hi (by omega);obtain⟨vJ,qj⟩:=F6 ds s ts.length hd;refine ao ds.length (fun j (_:Unit)=>[iI j]) (fun _ _=>True) () ?_ trivial fun j _ hj _=>?_
 ·simp[SE.den]
 by_cases aa:j<ds.length
 ·have hw:=aw aa hd;simp[SE.den,aa,hw,eO,tH aa,ab,au];by_cases h1:ds[j].s=s
  ·left;refine⟨h1,_,qj,?_⟩;cases vJ<;>simp[au];exact hk
  ·right;exact⟨h1,.mk () rfl (by omega) trivial⟩
 ·simp[SE.den,aa,au]
theorem amP(ds:List De)(hd:Sm ds)(r:Rl)(op:Int)(s:List UInt8)(ts:List Tm)(i:Nat)(hi:i<1000)(hk:k7 [iI (i+1:Nat)]):
 TC.sat ar3 CC lG [k0,k1,k2,k3,k4,k5,k6,k7] [ek ds,aR r,x2,x3,x4,x5,x6,x7,x8,x9,eZ,jY,ju,l8,mH,tX,sg,iI i,.agg [iI op,iS s,iT ts]]:=by
 have eO:=aw hi (by omega);obtain⟨vJ,qj⟩:=F6 ds s ts.length hd;refine ao ds.length (fun j (_:Unit)=>[iI j]) (fun _ _=>True) () ?_ trivial fun j _ hj _=>?_
 ·simp[SE.den]
 by_cases aa:j<ds.length
 ·have hw:=aw aa hd;simp[SE.den,aa,hw,eO,tH aa,ab,au];by_cases h1:ds[j].s=s
  ·left;refine⟨h1,_,qj,?_⟩;cases vJ<;>simp[au];exact hk
  ·right;exact⟨h1,.mk () rfl (by omega) trivial⟩
 ·simp[SE.den,aa,au]
theorem amQ(ds:List De)(hd:Sm ds)(r:Rl)(op:Int)(s:List UInt8)(ts:List Tm)(i:Nat)(hi:i<1000)(hk:k8 [iI (i+1:Nat)]):
 TD.sat ar3 CC lG [k0,k1,k2,k3,k4,k5,k6,k7,k8] [ek ds,aR r,x2,x3,x4,x5,x6,x7,x8,x9,eZ,jY,ju,l8,mH,tX,sg,tY,iI i,.agg [iI op,iS s,iT ts]]:=by
 have eO:=aw hi (by omega);obtain⟨vJ,qj⟩:=F6 ds s ts.length hd;refine ao ds.length (fun j (_:Unit)=>[iI j]) (fun _ _=>True) () ?_ trivial fun j _ hj _=>?_
 ·simp[SE.den]
 by_cases aa:j<ds.length
 ·have hw:=aw aa hd;simp[SE.den,aa,hw,eO,tH aa,ab,au];by_cases h1:ds[j].s=s
  ·left;refine⟨h1,_,qj,?_⟩;cases vJ<;>simp[au];exact hk
  ·right;exact⟨h1,.mk () rfl (by omega) trivial⟩
 ·simp[SE.den,aa,au]
theorem aih(ds:List De)(hd:Sm ds)(r:Rl)(s:List UInt8)(ts:List Tm)(i:Nat)(hi:i<1000)(hk:k5 [iI (i+1:Nat)]):
 Qp.sat ar3 CC lG [k0,k1,k2,k3,k4,k5] [ek ds,aR r,x2,x3,x4,x5,x6,x7,x8,x9,eZ,jY,ju,l8,mH,iI i,.agg [iS s,iT ts]]:=by
 have eO:=aw hi (by omega);obtain⟨vJ,qj⟩:=F6 ds s ts.length hd;refine ao ds.length (fun j (_:Unit)=>[iI j]) (fun _ _=>True) () ?_ trivial fun j _ hj _=>?_
 ·simp[SE.den]
 by_cases aa:j<ds.length
 ·have hw:=aw aa hd;simp[SE.den,aa,hw,eO,tH aa,ab,au];by_cases h1:ds[j].s=s
  ·left;refine⟨h1,_,qj,?_⟩;cases vJ<;>simp[au];exact hk
  ·right;exact⟨h1,.mk () rfl (by omega) trivial⟩
 ·simp[SE.den,aa,au]
theorem aii(ds:List De)(hd:Sm ds)(r:Rl)(s:List UInt8)(ts:List Tm)(i:Nat)(hi:i<1000)(hk:k6 [iI (i+1:Nat),iB true]):
 Qq.sat ar3 CC lG [k0,k1,k2,k3,k4,k5,k6] [ek ds,aR r,x2,x3,x4,x5,x6,x7,x8,x9,eZ,jY,ju,l8,mH,tX,iI i,tY,.agg [iS s,iT ts]]:=by
 have eO:=aw hi (by omega);obtain⟨vJ,qj⟩:=F6 ds s ts.length hd;refine ao ds.length (fun j (_:Unit)=>[iI j]) (fun _ _=>True) () ?_ trivial fun j _ hj _=>?_
 ·simp[SE.den]
 by_cases aa:j<ds.length
 ·have hw:=aw aa hd;simp[SE.den,aa,hw,eO,tH aa,ab,au];by_cases h1:ds[j].s=s
  ·left;refine⟨h1,_,qj,?_⟩;cases vJ<;>simp[au];exact hk
  ·right;exact⟨h1,.mk () rfl (by omega) trivial⟩
 ·simp[SE.den,aa,au]
theorem aij(ds:List De)(hd:Sm ds)(r:Rl)(op:Int)(s:List UInt8)(ts:List Tm)(i:Nat)(hi:i<1000)(hk:k7 [iI (i+1:Nat)]):
 Qr.sat ar3 CC lG [k0,k1,k2,k3,k4,k5,k6,k7] [ek ds,aR r,x2,x3,x4,x5,x6,x7,x8,x9,eZ,jY,ju,l8,mH,tX,sg,tY,iI i,.agg [iI op,iS s,iT ts]]:=by
 have eO:=aw hi (by omega);obtain⟨vJ,qj⟩:=F6 ds s ts.length hd;refine ao ds.length (fun j (_:Unit)=>[iI j]) (fun _ _=>True) () ?_ trivial fun j _ hj _=>?_
 ·simp[SE.den]
 by_cases aa:j<ds.length
 ·have hw:=aw aa hd;simp[SE.den,aa,hw,eO,tH aa,ab,au];by_cases h1:ds[j].s=s
  ·left;refine⟨h1,_,qj,?_⟩;cases vJ<;>simp[au];exact hk
  ·right;exact⟨h1,.mk () rfl (by omega) trivial⟩
 ·simp[SE.den,aa,au]
theorem aik(ds:List De)(hd:Sm ds)(r:Rl)(op:Int)(s:List UInt8)(ts:List Tm)(i:Nat)(hi:i<1000)(hk:k8 [iI (i+1:Nat)]):
 Qs.sat ar3 CC lG [k0,k1,k2,k3,k4,k5,k6,k7,k8] [ek ds,aR r,x2,x3,x4,x5,x6,x7,x8,x9,eZ,jY,ju,l8,mH,tX,sg,tY,Ep,iI i,.agg [iI op,iS s,iT ts]]:=by
 have eO:=aw hi (by omega);obtain⟨vJ,qj⟩:=F6 ds s ts.length hd;refine ao ds.length (fun j (_:Unit)=>[iI j]) (fun _ _=>True) () ?_ trivial fun j _ hj _=>?_
 ·simp[SE.den]
 by_cases aa:j<ds.length
 ·have hw:=aw aa hd;simp[SE.den,aa,hw,eO,tH aa,ab,au];by_cases h1:ds[j].s=s
  ·left;refine⟨h1,_,qj,?_⟩;cases vJ<;>simp[au];exact hk
  ·right;exact⟨h1,.mk () rfl (by omega) trivial⟩
 ·simp[SE.den,aa,au]
theorem amR(ds:List De)(r:Rl)(l u:List Int)(hl:Sm l)(hu:Sm u):
 TE.sat ar3 CC lG [k0,k1,k2,k3,k4,k5,k6,k7,k8,k9,k10] [ek ds,aR r,x2,x3,x4,x5,x6,x7,x8,x9,eZ,jY,ju,l8,mH,tX,sg,tY,Ep,L6,Lv,iL l,iL u]:=by
 refine ao u.length (fun j (_:Unit)=>[iL l,iI j]) (fun _ _=>True) () ?_ trivial fun j _ hj _=>?_
 ·simp[SE.den]
 by_cases aa:j<u.length
 ·have hw:=aw aa hu;have abx:=adb l u[j] hl;simp[SE.den,aa,hw,dB aa,ab,au,cellsOf];refine⟨_,abx,?_⟩;by_cases z:u[j]∈l
  ·simp[z,au];exact .mk () rfl (by omega) trivial
  ·simp[z,au]
 ·simp[SE.den,aa]
theorem ail(ds:List De)(r:Rl)(l u:List Int)(hl:Sm l)(hu:Sm u):
 Qt.sat ar3 CC lG [k0,k1,k2,k3,k4,k5,k6,k7,k8,k9,k10] [ek ds,aR r,x2,x3,x4,x5,x6,x7,x8,x9,eZ,jY,ju,l8,mH,tX,sg,tY,Ep,L6,Lv,x21,iL l,iL u]:=by
 refine ao u.length (fun j (_:Unit)=>[iL l,iI j]) (fun _ _=>True) () ?_ trivial fun j _ hj _=>?_
 ·simp[SE.den]
 by_cases aa:j<u.length
 ·have hw:=aw aa hu;have abx:=adb l u[j] hl;simp[SE.den,aa,hw,dB aa,ab,au,cellsOf];refine⟨_,abx,?_⟩;by_cases z:u[j]∈l
  ·simp[z,au];exact .mk () rfl (by omega) trivial
  ·simp[z,au]
 ·simp[SE.den,aa]
structure gC(ds:List De)(r:Rl):Prop where
 d:Sm ds
 s:Lz r
 n:PZ r
 f:AZ r
theorem gC.keep{ds:List De}{r:Rl}(h:gC ds r):r.keep.length≤3∧∀a∈r.keep,pC a∧uJ a:=
 ⟨by have:=h.s.h;omega,fun a ha=>⟨h.n.hs a (atU _ ha),fun t ht=>(h.f.hs a (atU _ ha) t ht).2⟩⟩
theorem gC.remove{ds:List De}{r:Rl}(h:gC ds r):r.remove.length≤3∧∀a∈r.remove,pC a∧uJ a:=
 ⟨by have:=h.s.h;omega,fun a ha=>⟨h.n.hs a (atA _ ha),fun t ht=>(h.f.hs a (atA _ ha) t ht).2⟩⟩
theorem gC.guard{ds:List De}{r:Rl}(h:gC ds r):r.guard.length≤6∧∀a∈r.guard,tG a∧vX a:=
 ⟨h.s.g,fun a ha=>⟨h.n.gs a (atU _ ha),fun t ht=>((h.f.gs a (atU _ ha)).2 t ht).2⟩⟩
theorem gC.body{ds:List De}{r:Rl}(h:gC ds r):r.body.length≤6∧∀a∈r.body,tG a∧vX a:=
 ⟨h.s.b,fun a ha=>⟨h.n.gs a (atA _ ha),fun t ht=>((h.f.gs a (atA _ ha)).2 t ht).2⟩⟩
theorem aim{l:List At}{n:Nat}(hl:l.length≤n)(h:∀a∈l,pC a∧uJ a):(tI l).length≤n*1048577:=
 asr (Co fun a ha=>yv (h a ha).2) (asB _ hl)
theorem aby{l:List Gl}{n:Nat}(hl:l.length≤n)(h:∀a∈l,tG a∧vX a):(tJ l).length≤n*1048577:=
 asr (Co fun a ha=>yv (h a ha).2) (asB _ hl)
theorem Ki{ds:List De}{r:Rl}(h:gC ds r):(fX [r.keep,r.remove]).length≤100000000∧CC 1563 true [Ql [r.keep,r.remove]] (iL (fX [r.keep,r.remove])):=by
 have h1:=aim h.keep.1 h.keep.2;have h2:=aim h.remove.1 h.remove.2;have hl:(fX [r.keep,r.remove]).length≤100000000:=by simp[fX, -atv];omega
 refine⟨hl,amK true _ (by simp) (fun l hl=>?_) (by omega)⟩;simp at hl;rcases hl with rfl|rfl
 ·exact⟨by have:=h.keep.1;unfold Sm;omega,h.keep.2⟩
 ·exact⟨by have:=h.remove.1;unfold Sm;omega,h.remove.2⟩
theorem TK{ds:List De}{r:Rl}(h:gC ds r):(eJ [r.guard]).length≤100000000∧CC 1564 true [L5 [r.guard]] (iL (eJ [r.guard])):=by
 have h1:=aby h.guard.1 h.guard.2;have hl:(eJ [r.guard]).length≤100000000:=by simp[eJ, -atv];omega
 refine⟨hl,ade true _ (by simp) (fun l hl=>?_) (by omega)⟩;simp at hl;rcases hl with rfl;exact⟨by have:=h.guard.1;unfold Sm;omega,h.guard.2⟩
theorem aeD{ds:List De}{r:Rl}(h:gC ds r):(eJ [r.guard,r.body]).length≤100000000∧CC 1564 true [L5 [r.guard,r.body]] (iL (eJ [r.guard,r.body])):=by
 have h1:=aby h.guard.1 h.guard.2;have h2:=aby h.body.1 h.body.2;have hl:(eJ [r.guard,r.body]).length≤100000000:=by simp[eJ, -atv];omega
 refine⟨hl,ade true _ (by simp) (fun l hl=>?_) (by omega)⟩;simp at hl;rcases hl with rfl|rfl
 ·exact⟨by have:=h.guard.1;unfold Sm;omega,h.guard.2⟩
 ·exact⟨by have:=h.body.1;unfold Sm;omega,h.body.2⟩
theorem amS(ds:List De)(r:Rl)(h:gC ds r):TF.sat ar3 CC lG [k0,k1,k2,k3,k4,k5,k6,k7,k8,k9] [ek ds,aR r,x2,x3,x4,x5,x6,x7,x8,x9,eZ,jY,ju,l8,mH,tX,sg,tY,Ep,L6]:=by
 have hl:=h.body.1;refine ao r.body.length (fun j (_:Unit)=>[iI j]) (fun _ _=>True) () ?_ trivial fun j b hj _=>?_
 ·simp[SE.den,ab]
 by_cases aa:j<r.body.length
 ·have hw:=aw aa (by omega);obtain⟨Hf,Hg⟩:=V8 r.body[j].op;simp[SE.den,aa,hw,lW aa,ab,au];refine⟨_,Hg,?_⟩;cases Hf<;>simp[au];exact .mk () rfl (by omega) trivial
 ·obtain⟨g1,g2⟩:=Ki h;obtain⟨g3,g4⟩:=TK h;generalize fX [r.keep,r.remove]=u at g1 g2;generalize eJ [r.guard]=v at g3 g4;simp[SE.den,aa,ab,cellsOf];exact⟨_,g2,_,g4,⟨_,rfl⟩,amR ds r u v (by unfold Sm;omega) (by unfold Sm;omega)⟩
theorem ain(ds:List De)(r:Rl)(h:gC ds r):Qu.sat ar3 CC lG [k0,k1,k2,k3,k4,k5,k6,k7,k8,k9] [ek ds,aR r,x2,x3,x4,x5,x6,x7,x8,x9,eZ,jY,ju,l8,mH,tX,sg,tY,Ep,L6,Lv]:=by
 have hl:=h.body.1;refine ao r.body.length (fun j (_:Unit)=>[iI j]) (fun _ _=>True) () ?_ trivial fun j b hj _=>?_
 ·simp[SE.den,ab]
 by_cases aa:j<r.body.length
 ·have hw:=aw aa (by omega);obtain⟨Hf,Hg⟩:=V8 r.body[j].op;simp[SE.den,aa,hw,lW aa,ab,au];refine⟨_,Hg,?_⟩;cases Hf<;>simp[au];exact .mk () rfl (by omega) trivial
 ·obtain⟨g1,g2⟩:=Ki h;obtain⟨g3,g4⟩:=TK h;generalize fX [r.keep,r.remove]=u at g1 g2;generalize eJ [r.guard]=v at g3 g4;simp[SE.den,aa,ab,cellsOf];exact⟨_,g2,_,g4,⟨_,rfl⟩,ail ds r u v (by unfold Sm;omega) (by unfold Sm;omega)⟩
theorem amT(ds:List De)(r:Rl)(h:gC ds r):TG.sat ar3 CC lG [k0,k1,k2,k3,k4,k5,k6,k7,k8] [ek ds,aR r,x2,x3,x4,x5,x6,x7,x8,x9,eZ,jY,ju,l8,mH,tX,sg,tY,Ep]:=by
 have hl:=h.guard.1;refine ao r.guard.length (fun j (_:Unit)=>[iI j]) (fun _ _=>True) () ?_ trivial fun j b hj _=>?_
 ·simp[SE.den,ab]
 by_cases aa:j<r.guard.length
 ·have hw:=aw aa (by omega);obtain⟨Hf,Hg⟩:=V8 r.guard[j].op;simp[SE.den,aa,hw,lW aa,ab,au];refine⟨_,Hg,?_⟩;cases Hf<;>simp[au]
  ·by_cases z:r.guard[j].op=1
   ·right;exact⟨z,.mk () rfl (by omega) trivial⟩
   ·left;exact z
  ·exact .mk () rfl (by omega) trivial
 ·simp[SE.den,aa,ab];exact amS ds r h
theorem aio(ds:List De)(r:Rl)(h:gC ds r):Qv.sat ar3 CC lG [k0,k1,k2,k3,k4,k5,k6,k7,k8] [ek ds,aR r,x2,x3,x4,x5,x6,x7,x8,x9,eZ,jY,ju,l8,mH,tX,sg,tY,Ep,L6]:=by
 have hl:=h.guard.1;refine ao r.guard.length (fun j (_:Unit)=>[iI j]) (fun _ _=>True) () ?_ trivial fun j b hj _=>?_
 ·simp[SE.den,ab]
 by_cases aa:j<r.guard.length
 ·have hw:=aw aa (by omega);obtain⟨Hf,Hg⟩:=V8 r.guard[j].op;simp[SE.den,aa,hw,lW aa,ab,au];refine⟨_,Hg,?_⟩;cases Hf<;>simp[au]
  ·by_cases z:r.guard[j].op=1
   ·right;exact⟨z,.mk () rfl (by omega) trivial⟩
   ·left;exact z
  ·exact .mk () rfl (by omega) trivial
 ·simp[SE.den,aa,ab];exact ain ds r h
theorem amU(ds:List De)(r:Rl)(h:gC ds r):TH.sat ar3 CC lG [k0,k1,k2,k3,k4,k5,k6,k7] [ek ds,aR r,x2,x3,x4,x5,x6,x7,x8,x9,eZ,jY,ju,l8,mH,tX,sg,tY]:=by
 have hl:=h.body.1;refine ao r.body.length (fun j (_:Unit)=>[iI j]) (fun _ _=>True) () ?_ trivial fun j b hj _=>?_
 ·simp[SE.den,ab]
 by_cases aa:j<r.body.length
 ·have hw:=aw aa (by omega);simp[SE.den,aa,hw,lW aa,ab,au];by_cases z:r.body[j].op=0
  ·left;exact⟨z,amQ ds h.d r r.body[j].op r.body[j].s r.body[j].ts j (by omega) (.mk () rfl (by omega) trivial)⟩
  ·right;exact⟨z,.mk () rfl (by omega) trivial⟩
 ·simp[SE.den,aa,ab];exact amT ds r h
theorem aip(ds:List De)(r:Rl)(h:gC ds r):Qw.sat ar3 CC lG [k0,k1,k2,k3,k4,k5,k6,k7] [ek ds,aR r,x2,x3,x4,x5,x6,x7,x8,x9,eZ,jY,ju,l8,mH,tX,sg,tY,Ep]:=by
 have hl:=h.body.1;refine ao r.body.length (fun j (_:Unit)=>[iI j]) (fun _ _=>True) () ?_ trivial fun j b hj _=>?_
 ·simp[SE.den,ab]
 by_cases aa:j<r.body.length
 ·have hw:=aw aa (by omega);simp[SE.den,aa,hw,lW aa,ab,au];by_cases z:r.body[j].op=0
  ·left;exact⟨z,aik ds h.d r r.body[j].op r.body[j].s r.body[j].ts j (by omega) (.mk () rfl (by omega) trivial)⟩
  ·right;exact⟨z,.mk () rfl (by omega) trivial⟩
 ·simp[SE.den,aa,ab];exact aio ds r h
theorem amV(ds:List De)(r:Rl)(h:gC ds r):TI.sat ar3 CC lG [k0,k1,k2,k3,k4,k5,k6] [ek ds,aR r,x2,x3,x4,x5,x6,x7,x8,x9,eZ,jY,ju,l8,mH,tX,sg]:=by
 have hl:=h.guard.1;refine ao r.guard.length (fun j (_:Unit)=>[iI j]) (fun _ _=>True) () ?_ trivial fun j b hj _=>?_
 ·simp[SE.den,ab]
 by_cases aa:j<r.guard.length
 ·have hw:=aw aa (by omega);simp[SE.den,aa,hw,lW aa,ab,au];by_cases z:r.guard[j].op=0
  ·left;exact⟨z,amP ds h.d r r.guard[j].op r.guard[j].s r.guard[j].ts j (by omega) (.mk () rfl (by omega) trivial)⟩
  ·right;exact⟨z,.mk () rfl (by omega) trivial⟩
 ·simp[SE.den,aa,ab];exact amU ds r h
theorem aiq(ds:List De)(r:Rl)(h:gC ds r):Qx.sat ar3 CC lG [k0,k1,k2,k3,k4,k5,k6] [ek ds,aR r,x2,x3,x4,x5,x6,x7,x8,x9,eZ,jY,ju,l8,mH,tX,sg,tY]:=by
 have hl:=h.guard.1;refine ao r.guard.length (fun j (_:Unit)=>[iI j]) (fun _ _=>True) () ?_ trivial fun j b hj _=>?_
 ·simp[SE.den,ab]
 by_cases aa:j<r.guard.length
 ·have hw:=aw aa (by omega);simp[SE.den,aa,hw,lW aa,ab,au];by_cases z:r.guard[j].op=0
  ·left;exact⟨z,aij ds h.d r r.guard[j].op r.guard[j].s r.guard[j].ts j (by omega) (.mk () rfl (by omega) trivial)⟩
  ·right;exact⟨z,.mk () rfl (by omega) trivial⟩
 ·simp[SE.den,aa,ab];exact aip ds r h
theorem amW(ds:List De)(r:Rl)(h:gC ds r):TJ.sat ar3 CC lG [k0,k1,k2,k3,k4,k5] [ek ds,aR r,x2,x3,x4,x5,x6,x7,x8,x9,eZ,jY,ju,l8,mH]:=by
 have hl:=h.remove.1;refine ao r.remove.length (fun j (b:Bool)=>[iI j,iB b]) (fun _ _=>True) false ?_ trivial fun j b hj _=>?_
 ·simp[SE.den,ab]
 by_cases aa:j<r.remove.length
 ·have hw:=aw aa (by omega);simp[SE.den,aa,hw,kZ aa,ab,au];exact amO ds h.d r r.remove[j].s r.remove[j].ts j (by omega) (.mk true rfl (by omega) trivial)
 ·simp[SE.den,aa,ab];exact amV ds r h
theorem air(ds:List De)(r:Rl)(h:gC ds r):Qy.sat ar3 CC lG [k0,k1,k2,k3,k4,k5] [ek ds,aR r,x2,x3,x4,x5,x6,x7,x8,x9,eZ,jY,ju,l8,mH,tX]:=by
 have hl:=h.remove.1;refine ao r.remove.length (fun j (b:Bool)=>[iI j,iB b]) (fun _ _=>True) false ?_ trivial fun j b hj _=>?_
 ·simp[SE.den,ab]
 by_cases aa:j<r.remove.length
 ·have hw:=aw aa (by omega);simp[SE.den,aa,hw,kZ aa,ab,au];exact aii ds h.d r r.remove[j].s r.remove[j].ts j (by omega) (.mk true rfl (by omega) trivial)
 ·simp[SE.den,aa,ab];exact aiq ds r h
theorem ais(ds:List De)(r:Rl)(h:gC ds r):Qo.sat ar3 CC lG [k0,k1,k2,k3,k4] [ek ds,aR r,x2,x3,x4,x5,x6,x7,x8,x9,eZ,jY,ju,l8]:=by
 have hl:=h.keep.1;refine ao r.keep.length (fun j (_:Unit)=>[iI j]) (fun _ _=>True) () ?_ trivial fun j b hj _=>?_
 ·simp[SE.den,ab]
 by_cases aa:j<r.keep.length
 ·have hw:=aw aa (by omega);simp[SE.den,aa,hw,kZ aa,ab,au];exact amN ds h.d r r.keep[j].s r.keep[j].ts j (by omega) (.mk () rfl (by omega) trivial)
 ·simp[SE.den,aa,ab];exact amW ds r h
theorem ait(ds:List De)(r:Rl)(h:gC ds r):Qz.sat ar3 CC lG [k0,k1,k2,k3,k4] [ek ds,aR r,x2,x3,x4,x5,x6,x7,x8,x9,eZ,jY,ju,l8,mH]:=by
 have hl:=h.keep.1;refine ao r.keep.length (fun j (_:Unit)=>[iI j]) (fun _ _=>True) () ?_ trivial fun j b hj _=>?_
 ·simp[SE.den,ab]
 by_cases aa:j<r.keep.length
 ·have hw:=aw aa (by omega);simp[SE.den,aa,hw,kZ aa,ab,au];exact aih ds h.d r r.keep[j].s r.keep[j].ts j (by omega) (.mk () rfl (by omega) trivial)
 ·simp[SE.den,aa,ab];exact air ds r h
theorem aiu(ds:List De)(r:Rl)(h:gC ds r)(l:List Int)(hl:l.length≤1000000000):QA.sat ar3 CC lG [k0,k1,k2,k3] [ek ds,aR r,x2,x3,x4,x5,x6,x7,x8,x9,eZ,iL l]:=by
 obtain⟨b83,h83⟩:=e83 r.name;refine ao l.length (fun j (a:Int)=>[iI j,iI a]) (fun _ _=>True) 0 ?_ trivial fun j a hj _=>?_
 ·simp[SE.den,ab]
 by_cases aa:j<l.length
 ·have hw:=aw aa (by omega);simp[SE.den,aa,hw,dB aa,ab,cellsOf,au];by_cases z1:l[j]≤a
  ·right;refine⟨by omega,?_⟩;by_cases z2:l[j]=a
   ·left;exact⟨z2,.mk _ rfl (by omega) trivial⟩
   ·right;exact⟨z2,.mk _ rfl (by omega) trivial⟩
  ·left;omega
 ·simp[SE.den,aa,ab,au];by_cases z1:r.vars=a
  ·right;refine⟨z1,?_⟩;by_cases z2:r.name=[]
   ·left;exact⟨z2,ais ds r h⟩
   ·right;refine⟨z2,_,h83,?_⟩;cases b83<;>simp[au];exact ait ds r h
  ·left;exact z1
theorem aiv(ds:List De)(r:Rl)(h:gC ds r):QB.sat ar3 CC lG [k0,k1,k2] [ek ds,aR r,x2,x3,x4,x5,x6]:=by
 have hl:=h.body.1;refine ao r.body.length (fun j (b:Bool)=>[iI j,iB b]) (fun _ _=>True) false ?_ trivial fun j b hj _=>?_
 ·simp[SE.den,ab]
 by_cases aa:j<r.body.length
 ·have hw:=aw aa (by omega);obtain⟨abz,_,abA⟩:=acZ names r.body[j] (h.body.2 _ (asb aa)).1;simp[SE.den,aa,hw,lW aa,ab,au];refine⟨_,abA,?_⟩;cases abz<;>simp[au];exact .mk true rfl (by omega) trivial
 ·obtain⟨g1,g2⟩:=Ki h;obtain⟨g3,g4⟩:=aeD h;have hc:=nV (a:=fX [r.keep,r.remove]) (b:=eJ [r.guard,r.body]) (by omega);generalize fX [r.keep,r.remove]=u at g1 g2 hc;generalize eJ [r.guard,r.body]=v at g3 g4 hc;simp[SE.den,aa,ab,cellsOf];refine⟨_,g2,_,g4,?_⟩;simp[hc];exact aiu ds r h (u++v) (by rw[asu];omega)
theorem aiw(ds:List De)(r:Rl)(h:gC ds r):QC.sat ar3 CC lG [k0,k1] [ek ds,aR r,x2,x3,x4,x5]:=by
 have hl:=h.guard.1;refine ao r.guard.length (fun j (_:Unit)=>[iI j]) (fun _ _=>True) () ?_ trivial fun j b hj _=>?_
 ·simp[SE.den,ab]
 by_cases aa:j<r.guard.length
 ·have hw:=aw aa (by omega);obtain⟨abz,_,abA⟩:=acZ names r.guard[j] (h.guard.2 _ (asb aa)).1;simp[SE.den,aa,hw,lW aa,ab,au];refine⟨_,abA,?_⟩;cases abz<;>simp[au];exact .mk () rfl (by omega) trivial
 ·simp[SE.den,aa,ab];exact aiv ds r h
theorem aix(ds:List De)(r:Rl)(h:gC ds r):QD.sat ar3 CC lG [k0] [ek ds,aR r,x2,x3]:=by
 have hl:=h.remove.1;refine ao r.remove.length (fun j (b:Bool)=>[iI j,iB b]) (fun _ _=>True) false ?_ trivial fun j b hj _=>?_
 ·simp[SE.den,ab]
 by_cases aa:j<r.remove.length
 ·have hw:=aw aa (by omega);obtain⟨ZE,_,F7⟩:=VV names r.remove[j] (h.remove.2 _ (asb aa)).1;simp[SE.den,aa,hw,kZ aa,ab,au];refine⟨_,F7,?_⟩;cases ZE<;>simp[au];exact .mk true rfl (by omega) trivial
 ·simp[SE.den,aa,ab];exact aiw ds r h
theorem aiy(ds:List De)(r:Rl)(h:gC ds r):He.sat ar3 CC lG [] [ek ds,aR r,x2]:=by
 have hl:=h.keep.1;refine ao r.keep.length (fun j (_:Unit)=>[iI j]) (fun _ _=>True) () ?_ trivial fun j b hj _=>?_
 ·simp[SE.den,ab]
 by_cases aa:j<r.keep.length
 ·have hw:=aw aa (by omega);obtain⟨ZE,_,F7⟩:=VV names r.keep[j] (h.keep.2 _ (asb aa)).1;simp[SE.den,aa,hw,kZ aa,ab,au];refine⟨_,F7,?_⟩;cases ZE<;>simp[au];exact .mk () rfl (by omega) trivial
 ·simp[SE.den,aa,ab];exact aix ds r h
theorem adg(new:Bool)(z:IV):CC 1148 new [iI 172] z:=by
 have h:=mT.O3 (new:=new) (z:=z) (n:=ar3.funcs.size) (f:=80) (t:=172) (by rw[dJ];decide) abw;rw[dJ]at h;unfold CC;rw[dJ];exact h
theorem n84:(ar3.funcs[84]?).map (·.params.size)=some 2:=by kernel_rfl
theorem t84(z:IV):aD ar3 84 z=true:=by kernel_rfl
theorem e84(ds:List De)(r:Rl)(h:gC ds r):∃n,(n=0→0<r.keep.length+r.remove.length)∧CC 84 false [ek ds,oB r] (iI n):=by
 have hk:=h.keep.1;have hr:=h.remove.1;have hg:=h.guard.1;have hb:=h.body.1;have h3:=h.s.h;have hw:aso.wrap ((r.keep.length:Int)+r.remove.length)=r.keep.length+r.remove.length:=eb (by omega) (by omega);refine CC.VK _ aqL n84 t84 (by intro x hx;rcases List.mem_cons.1 hx with rfl|hx;exact G6 _;obtain rfl:=List.mem_singleton.1 hx;exact je r) (by rfl) ?_;rw[iG];simp[adf,SE.den,ab,hw];refine⟨_,adg true (.av []),?_⟩;by_cases hp:0<r.keep.length+r.remove.length
 ·left;refine⟨by omega,?_⟩;left;refine⟨by omega,?_⟩;left;refine⟨by omega,?_⟩;right;refine⟨by omega,?_⟩;exact af.dV _ He (fun z ⟨n,hz⟩=>⟨n,hz,fun _=>hp⟩) (qM.refl _) (aiy ds r h)
 ·right;exact⟨by omega,rfl⟩
end
end Go.Proofs.YtggffkaadeagbaaGreat
namespace Go.Proofs.YtggffkaadeagbaaGreat
open Go Go.Ev
structure Wa(p:Pg):Prop where
 s:F4 p
 f:∀r∈p.rules,AZ r
def Hds(p:Pg):Prop:=∀r∈p.rules,0<r.keep.length+r.remove.length
section
variable{Q:IV→Prop}{k0:List IV→Prop}
theorem amX(p:Pg)(h:F4 p){x1:IV}(hk:∀n:Int,k0 [iI n]):Tk.sat ar3 CC Q [k0] [.agg [ek p.decls,yn p.rules],x1]:=by
 obtain⟨ds,rs⟩:=p;obtain⟨hd,hr,dn,S4,Di⟩:=h;simp only at*
 refine ao ds.length (fun j (dl:List De)=>[iI j,.av (dl.map zD)]) (fun _ _=>True) [] ?_ trivial fun j dl hj _=>?_
 ·simp[SE.den]
 by_cases aa:j<ds.length
 ·have hw:=aw aa (by omega);obtain⟨b83,h83⟩:=e83 ds[j].s;simp[SE.den,aa,hw,tH aa,ab,au];refine⟨_,h83,?_⟩;cases b83<;>simp[au]
  ·exact hk 7
  by_cases z1:0≤ds[j].n
  rotate_left
  ·right;exact⟨by omega,hk 9⟩
  left;refine⟨z1,?_⟩;by_cases z2:ds[j].n≤6
  rotate_left
  ·left;exact⟨by omega,hk 9⟩
  right;refine⟨by omega,?_⟩;by_cases hm:ds[j]∈dl
  ·obtain⟨q,g1,g2⟩:=(Tc dl ds[j]).1 hm;simp only[iS,iI]at g1;simp[g1,g2,zD,au];exact hk 8
  ·have g1:=(Tc dl ds[j]).2 hm;simp only[iS,iI]at g1;simp[g1,au];exact .mk (dl++[ds[j]]) (by simp[zD]) (by omega) trivial
 ·simp[SE.den,aa,au,ab];right;exact⟨by omega,hk 0⟩
theorem n32:(ar3.funcs[32]?).map (·.params.size)=some 1:=by kernel_rfl
theorem t32(a b:Int):aD ar3 32 (.av [iI a,iI b])=true:=by kernel_rfl
theorem e32(p:Pg)(h:Wa p):∃a n,(n=0→Hds p)∧CC 32 false [dj p] (.av [iI a,iI n]):=by
 refine CC.ahn _ aqu n32 t32 (by simpa using fA p) (by rfl) ?_;show V5.sat _ _ _ _ [.agg [ek p.decls,yn p.rules]];have hd:=h.s.d;have hr:=h.s.r;simp[V5,SE.den,ab];unfold Tn;refine fJ (fun vs=>∃n:Int,vs=[iI n]) ?_ ?_
 ·simp[SE.den,ab];refine⟨_,adg true (.av []),?_⟩;by_cases z:30<p.decls.length
  ·left;exact⟨by omega,rfl,_,rfl⟩
  ·right;exact⟨by omega,amX p h.s fun n=>⟨n,rfl⟩⟩
 ·rintro vs ⟨n,rfl⟩;refine⟨rfl,?_⟩;simp[SE.den,ab,rM];by_cases z:n=0
  rotate_left
  ·left;exact⟨z,fun h=>absurd h z⟩
  right;refine⟨z,?_⟩;unfold Tl;refine ao p.rules.length (fun i (_:Unit)=>[iI i]) (fun i _=>∀r∈p.rules.take i,0<r.keep.length+r.remove.length) () ?_ (by simp) fun i _ hi hI=>?_
  ·simp[SE.den]
  by_cases aa:i<p.rules.length
  ·have hw:=aw aa (by omega);have hm:=asb aa;obtain⟨m,hF,hb⟩:=e84 p.decls p.rules[i] ⟨by unfold Sm;omega,h.s.rs _ hm,h.s.rn _ hm,h.f _ hm⟩;rw[iG]at hb;simp[SE.den,aa,hw,G8 aa,ab];refine⟨_,hb,?_⟩;simp[rM];by_cases z:m=0
   ·right;exact⟨z,.mk () rfl (by omega) (eR aa hI (hF z))⟩
   ·left;exact⟨z,fun h=>absurd h z⟩
  ·simp[SE.den,aa];exact gV aa hI
end
end Go.Proofs.YtggffkaadeagbaaGreat
namespace Go.Proofs.YtggffkaadeagbaaGreat
open Go Go.Ev
section
variable{Q:IV→Prop}{k0 k1 k2:List IV→Prop}{x0 x1 x2 x3 x4 x5 x6 x7 x8 x9 eZ jY:IV}
theorem amY(i:Nat)(hi:i<1000)(ks l:List Int)(hl:Sm l)(hk:∀q,k0 [iI (i+1:Nat),iM q]):Tp.sat ar3 CC Q [k0] [x0,x1,iI i,iM ks,x4,iL l]:=by
 have eO:=aw hi (by omega);refine ao l.length (fun j (q:List Int)=>[iI j,iM q]) (fun _ _=>True) ks ?_ trivial fun j q hj _=>?_
 ·simp[SE.den]
 by_cases aa:j<l.length
 ·have hw:=aw aa hl;have nC:=AU (ν:=[iM q,iI l[j]]) (m:=.var 0) (key:=.var 1) (ks:=q) (k:=l[j]) rfl rfl;simp[SE.den]at nC;simp only[iI]at nC;simp[SE.den,aa,hw,dB aa,ab];refine⟨_,nC,.mk _ rfl (by omega) trivial⟩
 ·simp[SE.den,aa,eO];exact hk q
theorem amZ(i:Nat)(hi:i<1000)(ks:List Int)(a n:Int)(s t:IV)(hk:∀q,k1 [iI (i+1:Nat),iM q]):Tq.sat ar3 CC Q [k0,k1] [x0,x1,x2,x3,iI i,iM ks,x6,.agg [iI a,iI n,s,t],x8,x9,eZ,jY]:=by
 have eO:=aw hi (by omega);have hx:∀j (hj:j<[n].length),cq 1 (iL [n]) (iI (j:Nat))=some (iI [n][j]):=fun j hj=>dB hj;refine ao 1 (fun j (q:List Int)=>[iI j,iM q]) (fun _ _=>True) ks ?_ trivial fun j q hj _=>?_
 ·simp[SE.den]
 by_cases aa:j<1
 ·have hw:=aw aa (by omega);have h0:j=0:=by omega
  subst h0;have nC:=AU (ν:=[iM q,iI n]) (m:=.var 0) (key:=.var 1) (ks:=q) (k:=n) rfl rfl;simp[SE.den]at nC;simp only[iI]at nC;have gm:cq 1 (.tree 1 [iI n]) (iI 0)=some (iI n):=hx 0 (by simp);simp[SE.den,ab,cellsOf,gm];refine⟨_,nC,?_⟩;have AQ:aso.wrap 1=1:=eb (by omega) (by omega);simp[AQ];exact .mk _ rfl (by omega) trivial
 ·have h1:j=1:=by omega
  subst h1;simp[SE.den,ab,cellsOf,eO];exact hk q
theorem am0(r:Rl)(hg:r.body.length≤6)(hb:∀g∈r.body,tG g∧vX g∧(g.op≠0→pD g.op=g.ts.length))(ks:List Int):Ts.sat ar3 CC AX [k0] [aR r,x1,x2,iM ks]:=by
 refine ao r.body.length (fun j (q:List Int)=>[iI j,iM q]) (fun _ _=>True) ks ?_ trivial fun j q hj _=>?_
 ·simp[SE.den,ab]
 by_cases aa:j<r.body.length
 ·have hw:=aw aa (by omega);obtain⟨h1,h2,h3⟩:=hb _ (asb aa);have Tz:=c87 false r.body[j] h1 h2;obtain⟨b,ZF⟩:=V_ true q (varsOf r.body[j].ts) (by have:=yv h2;unfold Sm;omega);simp[SE.den,aa,hw,lW aa,ab];by_cases z1:r.body[j].op=1
  ·left;exact⟨z1,.mk _ rfl (by omega) trivial⟩
  right;refine⟨z1,?_⟩;by_cases z2:r.body[j].op=2
  ·left;exact⟨z2,.mk _ rfl (by omega) trivial⟩
  right;refine⟨z2,?_⟩;by_cases z3:r.body[j].op=0
  ·left;refine⟨z3,_,Tz,?_⟩;simp;refine⟨_,ZF,?_⟩;cases b<;>simp;exact .mk _ rfl (by omega) trivial
  right;refine⟨z3,?_⟩;by_cases z4:r.body[j].op=4
  rotate_left
  ·right;exact z4
  left;refine⟨z4,?_⟩;have hlen:r.body[j].ts.length=2:=by have:=h3 z3;rw[z4]at this;simp[pD]at this;omega
  have i0:=rI (l:=r.body[j].ts) (i:=0) (by omega);have i1:=rI (l:=r.body[j].ts) (i:=1) (by omega);have m0:=asb (l:=r.body[j].ts) (n:=0) (by omega);have m1:=asb (l:=r.body[j].ts) (n:=1) (by omega);have h88:=c88 false r.body[j].ts[1] (h1.2.2 _ m1) (h2 _ m1);have hv:(varsOf [r.body[j].ts[1]]).length≤1048577:=yv (by simpa using h2 _ m1);obtain⟨b',g22⟩:=V_ true q (varsOf [r.body[j].ts[1]]) (by unfold Sm;omega);have yw:=J5 (ν:=[iM q,iI r.body[j].ts[0].n]) (m:=.var 0) (key:=.var 1) (ks:=q) (k:=r.body[j].ts[0].n) rfl rfl;have yx:=J4 (ν:=[iM q,iI r.body[j].ts[0].n]) (m:=.var 0) (key:=.var 1) (ks:=q) (k:=r.body[j].ts[0].n) rfl rfl;simp[SE.den]at yw yx;simp only[iI]at yw yx;rw[bo]at i0 i1 h88;simp only[iI,Int.natCast_zero,Int.natCast_one]at i0 i1;generalize r.body[j].ts[0].n=tn at*
  refine⟨_,i0,?_⟩;simp[ab];by_cases y1:r.body[j].ts[0].k=1
  rotate_left
  ·left;exact y1
  right;refine⟨y1,?_⟩;obtain⟨hq,Lm,D1⟩:=yx;refine⟨⟨_,yw⟩,iB (decide (tn∈q)),⟨hq,Lm,by rw[D1]⟩,?_⟩;by_cases y2:tn∈q
  ·simp[y2]
  simp[y2];refine⟨_,i1,?_⟩;simp[ab];refine⟨_,h88,?_⟩;simp;refine⟨_,g22,?_⟩;cases b'<;>simp;exact⟨rfl,⟨_,rfl⟩,amZ j (by omega) q _ _ _ _ fun q'=>.mk q' rfl (by omega) trivial⟩
 ·simp[SE.den,aa]
theorem am1(r:Rl)(hg:r.body.length≤6)(hb:∀g∈r.body,tG g∧vX g∧(g.op≠0→pD g.op=g.ts.length))(l:List At)(hl:l.length≤100)(hn:∀a∈l,pC a∧uJ a):
 Tt.sat ar3 CC AX [] [aR r,cS l]:=by
 refine ao l.length (fun j (q:List Int)=>[iI j,iM q]) (fun _ _=>True) [] ?_ trivial fun j q hj _=>?_
 ·simp[SE.den,ab]
 by_cases aa:j<l.length
 ·obtain⟨h1,h2⟩:=hn _ (asb aa);have Eo:=Ty false l[j] h1 h2;simp[SE.den,aa,kZ aa,ab];refine⟨_,Eo,?_⟩;simp;exact amY j (by omega) q _ (by have:=yv h2;unfold Sm;omega) fun q'=>.mk q' rfl (by omega) trivial
 ·simp[SE.den,aa,ab];exact am0 r hg hb q
end
theorem n33:(ar3.funcs[33]?).map (·.params.size)=some 1:=by kernel_rfl
theorem t33(z:IV):aD ar3 33 z=true:=by kernel_rfl
theorem e33(ds:List De)(r:Rl)(h:gC ds r):∃b,CC 33 false [oB r] (iB b):=by
 refine CC.bool aqw n33 t33 (by simpa using je r) (by rfl) ?_;have h3:=h.s.h;have h85:=c85 r (by omega);rw[iG]at h85⊢;simp[ac9,SE.den,ab];refine⟨_,h85,?_⟩;simp;refine am1 r h.s.b (fun g hg=>?_) (r.keep++r.remove) (by rw[asu];omega) fun a ha=>?_
 ·exact⟨(h.body.2 g hg).1,(h.body.2 g hg).2,(h.f.gs g (atA _ hg)).1⟩
 ·rcases List.mem_append.1 ha with ha|ha
  ·exact h.keep.2 a ha
  ·exact h.remove.2 a ha
theorem n11:(ar3.funcs[11]?).map (·.params.size)=some 1:=by kernel_rfl
theorem t11(z:IV):aD ar3 11 z=true:=by kernel_rfl
theorem e11(p:Pg)(h:Wa p):∃n,(n=0→Hds p)∧CC 11 false [dj p] (iI n):=by
 refine CC.VK _ aqv n11 t11 (by simpa using fA p) (by rfl) ?_;obtain⟨a,n,hn,h32⟩:=e32 p h;have hd:=h.s.d;have hr:=h.s.r;simp only[dj]at*
 simp[ac8,SE.den,ab];refine⟨_,h32,?_⟩;simp[rM];by_cases z:n=0
 rotate_left
 ·left;exact z
 right;refine⟨z,?_⟩;unfold To;refine ao p.rules.length (fun i (_:Unit)=>[iI i]) (fun _ _=>True) () ?_ trivial fun i _ hi _=>?_
 ·simp[SE.den]
 by_cases aa:i<p.rules.length
 ·have hw:=aw aa (by omega);have hm:=asb aa;obtain⟨b,hb⟩:=e33 p.decls p.rules[i] ⟨by unfold Sm;omega,h.s.rs _ hm,h.s.rn _ hm,h.f _ hm⟩;rw[iG]at hb;simp[SE.den,aa,hw,G8 aa,ab];refine⟨_,hb,?_⟩;cases b<;>simp;exact .mk () rfl (by omega) trivial
 ·simp[SE.den,aa];exact hn z
end Go.Proofs.YtggffkaadeagbaaGreat
