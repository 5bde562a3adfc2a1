/- A part of the proof, no condition: the closed part of the law. -/
import Derived.Test.YtggffkaadeagbaaGreatRuA
import Derived.Test.YtggffkaadeagbaaGreatEvH
open Go.Proofs.Tryz renaming prog->ar3
set_option linter.all false
namespace Go.Proofs.YtggffkaadeagbaaGreat
open Go Go.Ev
set_option maxRecDepth 100000 in
theorem Vz:comes ((RP ar3 (fun _=>[]) 3000).call 0 15 [] ⟨0,.lf⟩) (iB true)=true:=by as_aux_lemma=>kernel_rfl
theorem t15(z:IV):aD ar3 15 z=true:=by kernel_rfl
theorem ad2:15<ar3.funcs.size:=by
 have h:Nat.blt 15 ar3.funcs.size=true:=by kernel_rfl
 simpa using h
theorem c15:CC 15 false [] (iB true):=CC.plain ad2 (dC.run mixed (fun _ _ _ h=>by cases h) Vz) (by simp) (t15 _)
end Go.Proofs.YtggffkaadeagbaaGreat
