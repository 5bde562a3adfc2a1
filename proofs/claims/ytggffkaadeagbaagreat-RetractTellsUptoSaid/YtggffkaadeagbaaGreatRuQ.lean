/- A part of the proof, no condition: the closed part of the law. -/
import Derived.Test.YtggffkaadeagbaaGreatRuA
import Derived.Test.YtggffkaadeagbaaGreatEvH
open Go.Proofs.Tryz renaming prog->asK
open Bool renaming true->ab,false->af
set_option linter.all false
namespace Go.Proofs.YtggffkaadeagbaaGreat
open Go Go.Ev
set_option maxRecDepth 100000 in
theorem Xp:comes ((TC asK (λ_=>[]) 3000).call 0 15 [] ⟨0,.lf⟩) (iB ab)=ab:=by as_aux_lemma=>kernel_rfl
theorem t15(z:IV):aO asK 15 z=ab:=by kernel_rfl
theorem afo:15<asK.funcs.size:=by
 have h:Nat.blt 15 asK.funcs.size=ab:=by kernel_rfl
 simpa using h
theorem c15:CC 15 af [] (iB ab):=CC.plain afo (fm.run mixed (λ_ _ _ h=>by cases h) Xp) (by simp) (t15 _)
end Go.Proofs.YtggffkaadeagbaaGreat
