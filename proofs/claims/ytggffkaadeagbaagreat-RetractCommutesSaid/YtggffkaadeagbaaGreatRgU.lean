/- The row of RetractCommutes holds: whatever the program, the memory and the two numbers, it returns true. The conditions of the row alone. -/
import Derived.Test.YtggffkaadeagbaaGreatRgT
set_option linter.all false
namespace Go.Proofs.YtggffkaadeagbaaGreat
open Go Go.ChangeShapes Go.WideShapes Go.ChangeAt Go.RowKit
theorem named7 : Tryz.pinned.checked.prog.funcNamed Rows.retractCommutesRow.func = some 7 := by kernel_rfl
set_option maxHeartbeats 8000000 in
theorem joined7 : joinedFacts Tryz.pinned.checked.prog 7 Tryz.f7 Rows.retractCommutesSpec Rows.retractCommutesRow = true := by
  simp only [joinedFacts, Bool.and_eq_true]
  repeat' apply And.intro
  all_goals (as_aux_lemma => kernel_rfl)
theorem inst7 : Tryz.f7.isInstance Tryz.pinned.checked.prog Rows.retractCommutesRow.origin Rows.retractCommutesRow.targs := of_decide_eq_true (by kernel_rfl)
theorem wrap7 : Tryz.f7.isWrapper Tryz.pinned.checked.prog Rows.retractCommutesRow.wrapper Rows.retractCommutesRow.mainSum := by
  unfold Func.isWrapper
  rw [if_neg (by decide +kernel)]
  exact ⟨rfl, rfl⟩
set_option maxHeartbeats 8000000 in
theorem retractCommutes_holds : Rows.RetractCommutesSaid :=
  OpenClaim.holds_of_wide 7 Tryz.f7 rfl rfl rfl rfl rfl rfl rfl ⟨rfl, rfl, rfl, rfl, rfl⟩ rfl rfl rfl rfl rfl named7 Tryz.func7 joined7 inst7 wrap7
    (fun os started H enc _ => lifted7 os started H enc)
end Go.Proofs.YtggffkaadeagbaaGreat
