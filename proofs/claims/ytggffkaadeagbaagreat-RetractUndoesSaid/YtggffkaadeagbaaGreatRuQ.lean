/- What is checked by hand: a closed run. -/
import Derived.Test.YtggffkaadeagbaaGreatRuB
import Derived.Test.YtggffkaadeagbaaGreatEvH
set_option linter.all false
namespace Go.Proofs.YtggffkaadeagbaaGreat
open Go Go.Ev
set_option maxRecDepth 100000 in
theorem knows_says : comes ((evH Tryz.prog (fun _ => []) 3000).call 0 15 [] ⟨0, .lf⟩) (iB true) = true := by as_aux_lemma => kernel_rfl
theorem t15 (z : IV) : tupOk Tryz.prog 15 z = true := by kernel_rfl
theorem c15 : CC 15 false [] (iB true) := ⟨PCall.run mixed (fun _ _ _ h => by cases h) knows_says, by simp, t15 _⟩
end Go.Proofs.YtggffkaadeagbaaGreat
