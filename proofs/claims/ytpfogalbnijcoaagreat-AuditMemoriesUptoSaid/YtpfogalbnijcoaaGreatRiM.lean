/- A part of the proof, no condition: the check of a rule and of a program come to an end. -/
import Derived.Test.YtpfogalbnijcoaaGreatEvR
import Derived.Test.YtpfogalbnijcoaaGreatProg
import Derived.KernelRfl
import Derived.Test.YtpfogalbnijcoaaGreatRiJ
open Go.Proofs.Tryz renaming prog->ar1
open List renaming mem_append_left->asN,mem_append_right->asM,length_flatten->atr
open Nat renaming le_trans->asq,mul_le_mul_right->asx
open Option renaming some->aa
open Bool renaming true->ab,false->af
set_option linter.all false
namespace Go.Proofs.YtpfogalbnijcoaaGreat
open Go Go.Ev
theorem ah5:(λu:Value=>pf ar1 .eql 20 (.tmp 4) (.const .nilIface) (.di 223 (.agg [.raw u])) (.raw .nilIface))=λ_=>aa (.bool af):=by kernel_rfl
theorem amj(u:Value):pf ar1 .eql 20 (.tmp 4) (.const .nilIface) (.di 223 (.agg [.raw u])) (.raw .nilIface)=aa (.bool af):=congrFun ah5 u
theorem acb:D6 ar1 102 223:=by
 apply pL.Qc (P:=ar1) (g:=102) (h:=178) (t:=223) (et:=70) (f0:=Tryz.f102) (f1:=Tryz.f178);constructor
 case fn=>exact Tryz.func102
 case fh=>exact Tryz.func178
 case fb=>exact rfl
 case hb=>exact rfl
 case nt=>exact rfl
 case nh=>exact rfl
 case name=>decide
 case res=>exact rfl
 case resh=>exact rfl
 case lA0=>exact rfl
 case lA1=>exact rfl
 case lA2=>exact rfl
 case lA3=>exact rfl
 case lB0=>exact rfl
 case lB3=>exact rfl
 case lB4=>exact rfl
 case lB5=>exact rfl
 case lB6=>exact rfl
 case lB7=>exact rfl
 case oa0=>exact⟨rfl,rfl,rfl⟩
 case oa1=>exact⟨rfl,rfl,rfl⟩
 case oa2=>exact⟨rfl,rfl,rfl⟩
 case oa3=>exact⟨rfl,rfl,rfl⟩
 case oa4=>exact⟨rfl,rfl,rfl⟩
 case oa5=>exact⟨rfl,rfl,rfl⟩
 case ob0=>exact⟨rfl,rfl,rfl⟩
 case ob3=>exact⟨rfl,rfl,rfl⟩
 case ob4=>exact⟨rfl,rfl,rfl⟩
 case ob5=>exact⟨rfl,rfl,rfl⟩
 case ob6=>exact⟨rfl,rfl,rfl⟩
 case ob7=>exact⟨rfl,rfl,rfl⟩
 case ob8=>exact⟨rfl,rfl,rfl⟩
 case ob9=>exact⟨rfl,rfl,rfl⟩
 case oc0=>exact⟨rfl,rfl,rfl⟩
 case oc1=>exact⟨rfl,rfl,rfl⟩
 case oc2=>exact⟨rfl,rfl,rfl⟩
 case ze=>kernel_rfl
 case se=>kernel_rfl
 case ae=>kernel_rfl
 case zt=>kernel_rfl
 case st=>kernel_rfl
 case ut=>exact Tryz.underlying223
 case fl=>exact⟨rfl,rfl,rfl⟩
 case eq0=>kernel_rfl
 case eq1=>exact amj
end Go.Proofs.YtpfogalbnijcoaaGreat
namespace Go.Proofs.YtpfogalbnijcoaaGreat
open Go Go.Ev
abbrev aR(r:Rl):IV:=.agg [iS r.name,nf r.keep,nf r.remove,rf r.guard,rf r.body,iI r.vars]
section
variable{k0 k1 k2 k3 k4 k5 k6 k7 k8 k9 k10 MY MZ:List IV->Prop}{x2 x3 x4 x5 x6 x7 x8 x9 ek jf iU kV lk rh pU ri Ab EY EH Rq Mx Mw Mv x25 x26:IV}
structure jx(ds:List De)(r:Rl):Prop where
 d:Sm ds
 s:Ju r
 n:Jv r
 f:Bm r
theorem jx.keep{ds:List De}{r:Rl}(h:jx ds r):r.keep.length<=3/\∀a∈r.keep,sL a/\yR a:=
 ⟨by have:=h.s.h;omega,λa ha=>⟨h.n.hs a (asN _ ha),λt ht=>(h.f.hs a (asN _ ha) t ht).2⟩⟩
theorem jx.remove{ds:List De}{r:Rl}(h:jx ds r):r.remove.length<=3/\∀a∈r.remove,sL a/\yR a:=
 ⟨by have:=h.s.h;omega,λa ha=>⟨h.n.hs a (asM _ ha),λt ht=>(h.f.hs a (asM _ ha) t ht).2⟩⟩
theorem jx.guard{ds:List De}{r:Rl}(h:jx ds r):r.guard.length<=6/\∀a∈r.guard,sM a/\wv a:=
 ⟨h.s.g,λa ha=>⟨h.n.gs a (asN _ ha),λt ht=>((h.f.gs a (asN _ ha)).2 t ht).2⟩⟩
theorem jx.body{ds:List De}{r:Rl}(h:jx ds r):r.body.length<=6/\∀a∈r.body,sM a/\wv a:=
 ⟨h.s.b,λa ha=>⟨h.n.gs a (asM _ ha),λt ht=>((h.f.gs a (asM _ ha)).2 t ht).2⟩⟩
theorem ah6{l:List At}{n:Nat}(hl:l.length<=n)(h:∀a∈l,sL a/\yR a):(fa l).length<=n*1048577:=
 asq (CS λa ha=>yQ (h a ha).2) (asx _ hl)
theorem acd{l:List Gl}{n:Nat}(hl:l.length<=n)(h:∀a∈l,sM a/\wv a):(ko l).length<=n*1048577:=
 asq (CS λa ha=>yQ (h a ha).2) (asx _ hl)
theorem K_{ds:List De}{r:Rl}(h:jx ds r):(dr [r.keep,r.remove]).length<=100000000/\CC 1690 ab [Q3 [r.keep,r.remove]] (iL (dr [r.keep,r.remove])):=by
 have h1:=ah6 h.keep.1 h.keep.2;have h2:=ah6 h.remove.1 h.remove.2;have hl:(dr [r.keep,r.remove]).length<=100000000:=by simp[dr, -atr];omega
 refine⟨hl,amh ab _ (by simp) (λl hl=>?_) (by omega)⟩;simp at hl;rcases hl with rfl|rfl
 ·exact⟨by have:=h.keep.1;unfold Sm;omega,h.keep.2⟩
 ·exact⟨by have:=h.remove.1;unfold Sm;omega,h.remove.2⟩
theorem UB{ds:List De}{r:Rl}(h:jx ds r):(cX [r.guard]).length<=100000000/\CC 1691 ab [MX [r.guard]] (iL (cX [r.guard])):=by
 have h1:=acd h.guard.1 h.guard.2;have hl:(cX [r.guard]).length<=100000000:=by simp[cX, -atr];omega
 refine⟨hl,adI ab _ (by simp) (λl hl=>?_) (by omega)⟩;simp at hl;rcases hl with rfl;exact⟨by have:=h.guard.1;unfold Sm;omega,h.guard.2⟩
theorem afc{ds:List De}{r:Rl}(h:jx ds r):(cX [r.guard,r.body]).length<=100000000/\CC 1691 ab [MX [r.guard,r.body]] (iL (cX [r.guard,r.body])):=by
 have h1:=acd h.guard.1 h.guard.2;have h2:=acd h.body.1 h.body.2;have hl:(cX [r.guard,r.body]).length<=100000000:=by simp[cX, -atr];omega
 refine⟨hl,adI ab _ (by simp) (λl hl=>?_) (by omega)⟩;simp at hl;rcases hl with rfl|rfl
 ·exact⟨by have:=h.guard.1;unfold Sm;omega,h.guard.2⟩
 ·exact⟨by have:=h.body.1;unfold Sm;omega,h.body.2⟩
theorem adK(new:Bool)(z:IV):CC 1233 new [iI 223] z:=by
 have h:=ni.Qc (new:=new) (z:=z) (n:=ar1.funcs.size) (f:=102) (t:=223) (by rw[dP];decide) acb;rw[dP]at h;unfold CC;rw[dP];exact h
theorem n84:(ar1.funcs[106]?).map (·.params.size)=aa 2:=by kernel_rfl
theorem t84(z:IV):aQ ar1 106 z=ab:=by kernel_rfl
end
end Go.Proofs.YtpfogalbnijcoaaGreat
namespace Go.Proofs.YtpfogalbnijcoaaGreat
open Go Go.Ev
structure ar0(p:Pg):Prop where
 s:wI p
 f:∀r∈p.rules,Bm r
section
variable{Q:IV->Prop}{k0:List IV->Prop}
theorem n32:(ar1.funcs[50]?).map (·.params.size)=aa 1:=by kernel_rfl
theorem t32(a b:Int):aQ ar1 50 (.az [iI a,iI b])=ab:=by kernel_rfl
end
end Go.Proofs.YtpfogalbnijcoaaGreat
namespace Go.Proofs.YtpfogalbnijcoaaGreat
open Go Go.Ev
section
variable{Q:IV->Prop}{k0 k1 k2:List IV->Prop}{x0 x1 x2 x3 x4 x5 x6 x7 x8 x9 ek jf:IV}
end
theorem n33:(ar1.funcs[51]?).map (·.params.size)=aa 1:=by kernel_rfl
theorem t33(z:IV):aQ ar1 51 z=ab:=by kernel_rfl
theorem n11:(ar1.funcs[24]?).map (·.params.size)=aa 1:=by kernel_rfl
theorem t11(z:IV):aQ ar1 24 z=ab:=by kernel_rfl
end Go.Proofs.YtpfogalbnijcoaaGreat
