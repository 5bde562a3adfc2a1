/- A part of the proof, no condition: the check of a rule and of a program come to an end. -/
import Derived.Test.YtggffkaadeagbaaGreatEvR
import Derived.Test.YtggffkaadeagbaaGreatProg
import Derived.KernelRfl
import Derived.Test.YtggffkaadeagbaaGreatRiJ
open Go.Proofs.Tryz renaming prog->asK
open List renaming mem_append_left->atz,mem_append_right->atx,length_flatten->aud
open Nat renaming le_trans->atd,mul_le_mul_right->atk
open Option renaming some->aa
open Bool renaming true->ab,false->af
set_option linter.all false
namespace Go.Proofs.YtggffkaadeagbaaGreat
open Go Go.Ev
theorem aiW:(λu:Value=>pP asK .eql 20 (.tmp 4) (.const .nilIface) (.du 172 (.agg [.raw u])) (.raw .nilIface))=λ_=>aa (.bool af):=by kernel_rfl
theorem anm(u:Value):pP asK .eql 20 (.tmp 4) (.const .nilIface) (.du 172 (.agg [.raw u])) (.raw .nilIface)=aa (.bool af):=congrFun aiW u
theorem acZ:Es asK 80 172:=by
 apply qc.QG (P:=asK) (g:=80) (h:=134) (t:=172) (et:=31) (f0:=Tryz.f80) (f1:=Tryz.f134);constructor
 case fn=>exact Tryz.func80
 case fh=>exact Tryz.func134
 case fb=>exact rfl
 case hb=>exact rfl
 case nt=>exact rfl
 case nh=>exact rfl
 case name=>decide
 case res=>exact rfl
 case resh=>exact rfl
 case lA0=>exact rfl
 case lA1=>exact rfl
 case lA2=>exact rfl
 case lA3=>exact rfl
 case lB0=>exact rfl
 case lB3=>exact rfl
 case lB4=>exact rfl
 case lB5=>exact rfl
 case lB6=>exact rfl
 case lB7=>exact rfl
 case oa0=>exact⟨rfl,rfl,rfl⟩
 case oa1=>exact⟨rfl,rfl,rfl⟩
 case oa2=>exact⟨rfl,rfl,rfl⟩
 case oa3=>exact⟨rfl,rfl,rfl⟩
 case oa4=>exact⟨rfl,rfl,rfl⟩
 case oa5=>exact⟨rfl,rfl,rfl⟩
 case ob0=>exact⟨rfl,rfl,rfl⟩
 case ob3=>exact⟨rfl,rfl,rfl⟩
 case ob4=>exact⟨rfl,rfl,rfl⟩
 case ob5=>exact⟨rfl,rfl,rfl⟩
 case ob6=>exact⟨rfl,rfl,rfl⟩
 case ob7=>exact⟨rfl,rfl,rfl⟩
 case ob8=>exact⟨rfl,rfl,rfl⟩
 case ob9=>exact⟨rfl,rfl,rfl⟩
 case oc0=>exact⟨rfl,rfl,rfl⟩
 case oc1=>exact⟨rfl,rfl,rfl⟩
 case oc2=>exact⟨rfl,rfl,rfl⟩
 case ze=>kernel_rfl
 case se=>kernel_rfl
 case ae=>kernel_rfl
 case zt=>kernel_rfl
 case st=>kernel_rfl
 case ut=>exact Tryz.underlying172
 case fl=>exact⟨rfl,rfl,rfl⟩
 case eq0=>kernel_rfl
 case eq1=>exact anm
end Go.Proofs.YtggffkaadeagbaaGreat
namespace Go.Proofs.YtggffkaadeagbaaGreat
open Go Go.Ev
abbrev aR(r:Rl):IV:=.agg [iS r.name,h_ r.keep,h_ r.remove,rP r.guard,rP r.body,iI r.vars]
section
variable{k0 k1 k2 k3 k4 k5 k6 k7 k8 k9 k10 NF NG:List IV->Prop}{x2 x3 x4 x5 x6 x7 x8 x9 eD jv jg lz lL rQ qn rR Ag Fp E_ RX Nb Na M_ x25 x26:IV}
structure jM(ds:List De)(r:Rl):Prop where
 d:Sm ds
 s:JY r
 n:JZ r
 f:Bt r
theorem jM.keep{ds:List De}{r:Rl}(h:jM ds r):r.keep.length<=3/\∀a∈r.keep,nz a/\wN a:=
 ⟨by have:=h.s.h;omega,λa ha=>⟨h.n.hs a (atz _ ha),λt ht=>(h.f.hs a (atz _ ha) t ht).2⟩⟩
theorem jM.remove{ds:List De}{r:Rl}(h:jM ds r):r.remove.length<=3/\∀a∈r.remove,nz a/\wN a:=
 ⟨by have:=h.s.h;omega,λa ha=>⟨h.n.hs a (atx _ ha),λt ht=>(h.f.hs a (atx _ ha) t ht).2⟩⟩
theorem jM.guard{ds:List De}{r:Rl}(h:jM ds r):r.guard.length<=6/\∀a∈r.guard,ta a/\wO a:=
 ⟨h.s.g,λa ha=>⟨h.n.gs a (atz _ ha),λt ht=>((h.f.gs a (atz _ ha)).2 t ht).2⟩⟩
theorem jM.body{ds:List De}{r:Rl}(h:jM ds r):r.body.length<=6/\∀a∈r.body,ta a/\wO a:=
 ⟨h.s.b,λa ha=>⟨h.n.gs a (atx _ ha),λt ht=>((h.f.gs a (atx _ ha)).2 t ht).2⟩⟩
theorem aiX{l:List At}{n:Nat}(hl:l.length<=n)(h:∀a∈l,nz a/\wN a):(fy l).length<=n*1048577:=
 atd (Db λa ha=>yY (h a ha).2) (atk _ hl)
theorem ac0{l:List Gl}{n:Nat}(hl:l.length<=n)(h:∀a∈l,ta a/\wO a):(kJ l).length<=n*1048577:=
 atd (Db λa ha=>yY (h a ha).2) (atk _ hl)
theorem LN{ds:List De}{r:Rl}(h:jM ds r):(dA [r.keep,r.remove]).length<=100000000/\CC 1563 ab [RB [r.keep,r.remove]] (iL (dA [r.keep,r.remove])):=by
 have h1:=aiX h.keep.1 h.keep.2;have h2:=aiX h.remove.1 h.remove.2;have hl:(dA [r.keep,r.remove]).length<=100000000:=by simp[dA, -aud];omega
 refine⟨hl,ank ab _ (by simp) (λl hl=>?_) (by omega)⟩;simp at hl;rcases hl with rfl|rfl
 ·exact⟨by have:=h.keep.1;unfold Sm;omega,h.keep.2⟩
 ·exact⟨by have:=h.remove.1;unfold Sm;omega,h.remove.2⟩
theorem U5{ds:List De}{r:Rl}(h:jM ds r):(db [r.guard]).length<=100000000/\CC 1564 ab [ND [r.guard]] (iL (db [r.guard])):=by
 have h1:=ac0 h.guard.1 h.guard.2;have hl:(db [r.guard]).length<=100000000:=by simp[db, -aud];omega
 refine⟨hl,aev ab _ (by simp) (λl hl=>?_) (by omega)⟩;simp at hl;rcases hl with rfl;exact⟨by have:=h.guard.1;unfold Sm;omega,h.guard.2⟩
theorem afW{ds:List De}{r:Rl}(h:jM ds r):(db [r.guard,r.body]).length<=100000000/\CC 1564 ab [ND [r.guard,r.body]] (iL (db [r.guard,r.body])):=by
 have h1:=ac0 h.guard.1 h.guard.2;have h2:=ac0 h.body.1 h.body.2;have hl:(db [r.guard,r.body]).length<=100000000:=by simp[db, -aud];omega
 refine⟨hl,aev ab _ (by simp) (λl hl=>?_) (by omega)⟩;simp at hl;rcases hl with rfl|rfl
 ·exact⟨by have:=h.guard.1;unfold Sm;omega,h.guard.2⟩
 ·exact⟨by have:=h.body.1;unfold Sm;omega,h.body.2⟩
theorem aex(new:Bool)(z:IV):CC 1148 new [iI 172] z:=by
 have h:=nP.QG (new:=new) (z:=z) (n:=asK.funcs.size) (f:=80) (t:=172) (by rw[dW];decide) acZ;rw[dW]at h;unfold CC;rw[dW];exact h
theorem n84:(asK.funcs[84]?).map (·.params.size)=aa 2:=by kernel_rfl
theorem t84(z:IV):aO asK 84 z=ab:=by kernel_rfl
end
end Go.Proofs.YtggffkaadeagbaaGreat
namespace Go.Proofs.YtggffkaadeagbaaGreat
open Go Go.Ev
structure asJ(p:Pg):Prop where
 s:yW p
 f:∀r∈p.rules,Bt r
section
variable{Q:IV->Prop}{k0:List IV->Prop}
theorem n32:(asK.funcs[32]?).map (·.params.size)=aa 1:=by kernel_rfl
theorem t32(a b:Int):aO asK 32 (.az [iI a,iI b])=ab:=by kernel_rfl
end
end Go.Proofs.YtggffkaadeagbaaGreat
namespace Go.Proofs.YtggffkaadeagbaaGreat
open Go Go.Ev
section
variable{Q:IV->Prop}{k0 k1 k2:List IV->Prop}{x0 x1 x2 x3 x4 x5 x6 x7 x8 x9 eD jv:IV}
end
theorem n33:(asK.funcs[33]?).map (·.params.size)=aa 1:=by kernel_rfl
theorem t33(z:IV):aO asK 33 z=ab:=by kernel_rfl
theorem n11:(asK.funcs[11]?).map (·.params.size)=aa 1:=by kernel_rfl
theorem t11(z:IV):aO asK 11 z=ab:=by kernel_rfl
end Go.Proofs.YtggffkaadeagbaaGreat
