/- A part of the proof, no condition: the closed part of the law. -/
import Derived.Test.YtggffkaadeagbaaGreatRuA
import Derived.Test.YtggffkaadeagbaaGreatEvH
open Go.Proofs.Tryz renaming prog->aqD
set_option linter.all false
namespace Go.Proofs.YtggffkaadeagbaaGreat
open Go Go.Ev
set_option maxRecDepth 100000 in
theorem VO:comes ((Sp aqD (fun _=>[]) 3000).call 0 15 [] ⟨0,.lf⟩) (iB true)=true:=by as_aux_lemma=>kernel_rfl
theorem t15(z:IV):aN aqD 15 z=true:=by kernel_rfl
theorem adL:15<aqD.funcs.size:=by
 have h:Nat.blt 15 aqD.funcs.size=true:=by kernel_rfl
 simpa using h
theorem c15:CC 15 false [] (iB true):=CC.plain adL (eV.run mixed (fun _ _ _ h=>by cases h) VO) (by simp) (t15 _)
end Go.Proofs.YtggffkaadeagbaaGreat
