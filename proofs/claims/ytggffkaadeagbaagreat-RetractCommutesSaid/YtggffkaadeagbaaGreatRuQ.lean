/- A part of the proof, no condition: the closed part of the law. -/
import Derived.Test.YtggffkaadeagbaaGreatRuA
import Derived.Test.YtggffkaadeagbaaGreatEvH
set_option linter.all false
namespace Go.Proofs.YtggffkaadeagbaaGreat
open Go Go.Ev
set_option maxRecDepth 100000 in
theorem knows_says : comes ((evH Tryz.prog (fun _ => []) 3000).call 0 15 [] ⟨0, .lf⟩) (iB true) = true := by as_aux_lemma => kernel_rfl
theorem t15 (z : IV) : tupOk Tryz.prog 15 z = true := by kernel_rfl
theorem c15 : CC 15 false [] (iB true) := ⟨fun _ => ⟨PCall.run mixed (fun _ _ _ h => by cases h) knows_says, by simp, t15 _⟩, fun g hg => by
  have h : Nat.blt 15 Tryz.prog.funcs.size = true := by kernel_rfl
  have h2 : 15 < Tryz.prog.funcs.size := by simpa using h
  exact absurd (hg ▸ h2) (Nat.not_lt.2 (Nat.le_add_right _ _))⟩
end Go.Proofs.YtggffkaadeagbaaGreat
