/- The row of RetractUndoes holds. The row's own conditions alone. -/
import Derived.Test.YtggffkaadeagbaaGreatRuV
set_option linter.all false
namespace Go.Proofs.YtggffkaadeagbaaGreat
open Go Go.ChangeShapes Go.WideShapes Go.ChangeAt Go.RowKit
theorem named9 : Tryz.pinned.checked.prog.funcNamed Rows.retractUndoesRow.func = some 9 := by kernel_rfl
set_option maxHeartbeats 8000000 in
theorem joined9 : joinedFacts Tryz.pinned.checked.prog 9 Tryz.f9 Rows.retractUndoesSpec Rows.retractUndoesRow = true := by
  simp only [joinedFacts, Bool.and_eq_true]
  repeat' apply And.intro
  all_goals (as_aux_lemma => kernel_rfl)
theorem inst9 : Tryz.f9.isInstance Tryz.pinned.checked.prog Rows.retractUndoesRow.origin Rows.retractUndoesRow.targs := of_decide_eq_true (by kernel_rfl)
theorem wrap9 : Tryz.f9.isWrapper Tryz.pinned.checked.prog Rows.retractUndoesRow.wrapper Rows.retractUndoesRow.mainSum := by
  unfold Func.isWrapper
  rw [if_neg (by decide +kernel)]
  exact ⟨rfl, rfl⟩
set_option maxHeartbeats 8000000 in
theorem retractUndoes_holds : Rows.RetractUndoesSaid :=
  OpenClaim.holds_of_wide 9 Tryz.f9 rfl rfl rfl rfl rfl rfl rfl ⟨rfl, rfl, rfl, rfl, rfl⟩ rfl rfl rfl rfl rfl named9 Tryz.func9 joined9 inst9 wrap9
    (fun os started H enc _ => lifted os started H enc)
end Go.Proofs.YtggffkaadeagbaaGreat
