/- The row of MachineNone holds. The row's own conditions alone. -/
import Derived.Test.YtkadndefjilbkaaGreatDoorLift
import Derived.ProofKit
import Derived.LaidMore
import Derived.OpenShut
import Derived.Stop.Joined
import Derived.SevenTiedAt
namespace Go.Proofs.YtkadndefjilbkaaGreatDoor
open Go Go.ChangeShapes Go.WideShapes Go.ChangeAt Go.RowKit

theorem named3 : Tryz.pinned.checked.prog.funcNamed Rows.machineNoneRow.func = some 3 := by kernel_rfl
set_option maxHeartbeats 1000000 in
theorem joined3 : joinedFacts Tryz.pinned.checked.prog 3 Tryz.f3 Rows.machineNoneSpec Rows.machineNoneRow = true := by
  simp only [joinedFacts, Bool.and_eq_true]
  repeat' apply And.intro
  all_goals (as_aux_lemma => kernel_rfl)
theorem inst3 : Tryz.f3.isInstance Tryz.pinned.checked.prog Rows.machineNoneRow.origin Rows.machineNoneRow.targs := of_decide_eq_true (by kernel_rfl)
theorem wrap3 : Tryz.f3.isWrapper Tryz.pinned.checked.prog Rows.machineNoneRow.wrapper Rows.machineNoneRow.mainSum := by
  unfold Func.isWrapper
  rw [if_neg (by decide +kernel)]
  exact ⟨rfl, rfl⟩
theorem over : Rows.MachineNoneSaid :=
  OpenClaim.holds_of_wide 3 Tryz.f3 rfl rfl rfl rfl rfl rfl rfl ⟨rfl, rfl, rfl, rfl, rfl⟩ rfl rfl rfl rfl rfl named3 Tryz.func3 joined3 inst3 wrap3
    (fun os started H enc _ => lifted os started H enc)

end Go.Proofs.YtkadndefjilbkaaGreatDoor
