/- A part of the proof, no condition: the check of a rule and of a program come to an end. -/
import Derived.Test.YtggffkaadeagbaaGreatEvR
import Derived.Test.YtggffkaadeagbaaGreatProg
import Derived.KernelRfl
import Derived.Test.YtggffkaadeagbaaGreatRiJ
open Go.Proofs.Tryz renaming prog->aqD
open List renaming mem_append_left->arp,mem_append_right->arn,length_flatten->ar1
open Nat renaming le_trans->aq2,mul_le_mul_right->aq8
set_option linter.all false
namespace Go.Proofs.YtggffkaadeagbaaGreat
open Go Go.Ev
theorem ahb:(fun u:Value=>oL aqD .eql 20 (.tmp 4) (.const .nilIface) (.da 172 (.agg [.raw u])) (.raw .nilIface))=fun _=>some (.bool false):=by kernel_rfl
theorem alw(u:Value):oL aqD .eql 20 (.tmp 4) (.const .nilIface) (.da 172 (.agg [.raw u])) (.raw .nilIface)=some (.bool false):=congrFun ahb u
theorem abj:Dl aqD 80 172:=by
 apply pf.Pz (P:=aqD) (g:=80) (h:=134) (t:=172) (et:=31) (f0:=Tryz.f80) (f1:=Tryz.f134);constructor
 case fn=>exact Tryz.func80
 case fh=>exact Tryz.func134
 case fb=>exact rfl
 case hb=>exact rfl
 case nt=>exact rfl
 case nh=>exact rfl
 case name=>decide
 case res=>exact rfl
 case resh=>exact rfl
 case lA0=>exact rfl
 case lA1=>exact rfl
 case lA2=>exact rfl
 case lA3=>exact rfl
 case lB0=>exact rfl
 case lB3=>exact rfl
 case lB4=>exact rfl
 case lB5=>exact rfl
 case lB6=>exact rfl
 case lB7=>exact rfl
 case oa0=>exact⟨rfl,rfl,rfl⟩
 case oa1=>exact⟨rfl,rfl,rfl⟩
 case oa2=>exact⟨rfl,rfl,rfl⟩
 case oa3=>exact⟨rfl,rfl,rfl⟩
 case oa4=>exact⟨rfl,rfl,rfl⟩
 case oa5=>exact⟨rfl,rfl,rfl⟩
 case ob0=>exact⟨rfl,rfl,rfl⟩
 case ob3=>exact⟨rfl,rfl,rfl⟩
 case ob4=>exact⟨rfl,rfl,rfl⟩
 case ob5=>exact⟨rfl,rfl,rfl⟩
 case ob6=>exact⟨rfl,rfl,rfl⟩
 case ob7=>exact⟨rfl,rfl,rfl⟩
 case ob8=>exact⟨rfl,rfl,rfl⟩
 case ob9=>exact⟨rfl,rfl,rfl⟩
 case oc0=>exact⟨rfl,rfl,rfl⟩
 case oc1=>exact⟨rfl,rfl,rfl⟩
 case oc2=>exact⟨rfl,rfl,rfl⟩
 case ze=>kernel_rfl
 case se=>kernel_rfl
 case ae=>kernel_rfl
 case zt=>kernel_rfl
 case st=>kernel_rfl
 case ut=>exact Tryz.underlying172
 case fl=>exact⟨rfl,rfl,rfl⟩
 case eq0=>kernel_rfl
 case eq1=>exact alw
end Go.Proofs.YtggffkaadeagbaaGreat
namespace Go.Proofs.YtggffkaadeagbaaGreat
open Go Go.Ev
abbrev aR(r:Rl):IV:=.agg [iS r.name,mP r.keep,mP r.remove,qL r.guard,qL r.body,iI r.vars]
section
variable{k0 k1 k2 k3 k4 k5 k6 k7 k8 k9 k10 Mp Mq:List IV→Prop}{x2 x3 x4 x5 x6 x7 x8 x9 eh iV iD kH kS qM pz qN y9 Eh D2 QM LV LU LS x25 x26:IV}
structure jk(ds:List De)(r:Rl):Prop where
 d:Sm ds
 s:IW r
 n:IX r
 f:An r
theorem jk.keep{ds:List De}{r:Rl}(h:jk ds r):r.keep.length≤3∧∀a∈r.keep,rZ a∧xQ a:=
 ⟨by have:=h.s.h;omega,fun a ha=>⟨h.n.hs a (arp _ ha),fun t ht=>(h.f.hs a (arp _ ha) t ht).2⟩⟩
theorem jk.remove{ds:List De}{r:Rl}(h:jk ds r):r.remove.length≤3∧∀a∈r.remove,rZ a∧xQ a:=
 ⟨by have:=h.s.h;omega,fun a ha=>⟨h.n.hs a (arn _ ha),fun t ht=>(h.f.hs a (arn _ ha) t ht).2⟩⟩
theorem jk.guard{ds:List De}{r:Rl}(h:jk ds r):r.guard.length≤6∧∀a∈r.guard,r6 a∧vE a:=
 ⟨h.s.g,fun a ha=>⟨h.n.gs a (arp _ ha),fun t ht=>((h.f.gs a (arp _ ha)).2 t ht).2⟩⟩
theorem jk.body{ds:List De}{r:Rl}(h:jk ds r):r.body.length≤6∧∀a∈r.body,r6 a∧vE a:=
 ⟨h.s.b,fun a ha=>⟨h.n.gs a (arn _ ha),fun t ht=>((h.f.gs a (arn _ ha)).2 t ht).2⟩⟩
theorem ahc{l:List At}{n:Nat}(hl:l.length≤n)(h:∀a∈l,rZ a∧xQ a):(eX l).length≤n*1048577:=
 aq2 (BY fun a ha=>xP (h a ha).2) (aq8 _ hl)
theorem abk{l:List Gl}{n:Nat}(hl:l.length≤n)(h:∀a∈l,r6 a∧vE a):(jV l).length≤n*1048577:=
 aq2 (BY fun a ha=>xP (h a ha).2) (aq8 _ hl)
theorem Kt{ds:List De}{r:Rl}(h:jk ds r):(dh [r.keep,r.remove]).length≤100000000∧CC 1563 true [Qr [r.keep,r.remove]] (iL (dh [r.keep,r.remove])):=by
 have h1:=ahc h.keep.1 h.keep.2;have h2:=ahc h.remove.1 h.remove.2;have hl:(dh [r.keep,r.remove]).length≤100000000:=by simp[dh, -ar1];omega
 refine⟨hl,alu true _ (by simp) (fun l hl=>?_) (by omega)⟩;simp at hl;rcases hl with rfl|rfl
 ·exact⟨by have:=h.keep.1;unfold Sm;omega,h.keep.2⟩
 ·exact⟨by have:=h.remove.1;unfold Sm;omega,h.remove.2⟩
theorem TT{ds:List De}{r:Rl}(h:jk ds r):(cU [r.guard]).length≤100000000∧CC 1564 true [Mo [r.guard]] (iL (cU [r.guard])):=by
 have h1:=abk h.guard.1 h.guard.2;have hl:(cU [r.guard]).length≤100000000:=by simp[cU, -ar1];omega
 refine⟨hl,acP true _ (by simp) (fun l hl=>?_) (by omega)⟩;simp at hl;rcases hl with rfl;exact⟨by have:=h.guard.1;unfold Sm;omega,h.guard.2⟩
theorem aei{ds:List De}{r:Rl}(h:jk ds r):(cU [r.guard,r.body]).length≤100000000∧CC 1564 true [Mo [r.guard,r.body]] (iL (cU [r.guard,r.body])):=by
 have h1:=abk h.guard.1 h.guard.2;have h2:=abk h.body.1 h.body.2;have hl:(cU [r.guard,r.body]).length≤100000000:=by simp[cU, -ar1];omega
 refine⟨hl,acP true _ (by simp) (fun l hl=>?_) (by omega)⟩;simp at hl;rcases hl with rfl|rfl
 ·exact⟨by have:=h.guard.1;unfold Sm;omega,h.guard.2⟩
 ·exact⟨by have:=h.body.1;unfold Sm;omega,h.body.2⟩
theorem acR(new:Bool)(z:IV):CC 1148 new [iI 172] z:=by
 have h:=mR.Pz (new:=new) (z:=z) (n:=aqD.funcs.size) (f:=80) (t:=172) (by rw[dK];decide) abj;rw[dK]at h;unfold CC;rw[dK];exact h
theorem n84:(aqD.funcs[84]?).map (·.params.size)=some 2:=by kernel_rfl
theorem t84(z:IV):aN aqD 84 z=true:=by kernel_rfl
end
end Go.Proofs.YtggffkaadeagbaaGreat
namespace Go.Proofs.YtggffkaadeagbaaGreat
open Go Go.Ev
structure aqC(p:Pg):Prop where
 s:Ao p
 f:∀r∈p.rules,An r
section
variable{Q:IV→Prop}{k0:List IV→Prop}
theorem n32:(aqD.funcs[32]?).map (·.params.size)=some 1:=by kernel_rfl
theorem t32(a b:Int):aN aqD 32 (.av [iI a,iI b])=true:=by kernel_rfl
end
end Go.Proofs.YtggffkaadeagbaaGreat
namespace Go.Proofs.YtggffkaadeagbaaGreat
open Go Go.Ev
section
variable{Q:IV→Prop}{k0 k1 k2:List IV→Prop}{x0 x1 x2 x3 x4 x5 x6 x7 x8 x9 eh iV:IV}
end
theorem n33:(aqD.funcs[33]?).map (·.params.size)=some 1:=by kernel_rfl
theorem t33(z:IV):aN aqD 33 z=true:=by kernel_rfl
theorem n11:(aqD.funcs[11]?).map (·.params.size)=some 1:=by kernel_rfl
theorem t11(z:IV):aN aqD 11 z=true:=by kernel_rfl
end Go.Proofs.YtggffkaadeagbaaGreat
