/- Closed facts of SessionNone's row, by the kernel. No condition. -/
import Derived.Test.YtcapkpeaofppnaaGreatDoorRows
import Derived.ProofKit
import Derived.LaidMore
import Derived.OpenShut
import Derived.Stop.Joined
import Derived.SevenTiedAt
namespace Go.Proofs.YtcapkpeaofppnaaGreatDoor
open Go Go.ChangeShapes Go.WideShapes Go.ChangeAt Go.RowKit

theorem named3 : Tryz.pinned.checked.prog.funcNamed Rows.sessionNoneRow.func = some 3 := by kernel_rfl
set_option maxHeartbeats 8000000 in
theorem joined3 : joinedFacts Tryz.pinned.checked.prog 3 Tryz.f3 Rows.sessionNoneSpec Rows.sessionNoneRow = true := by
  simp only [joinedFacts, Bool.and_eq_true]
  repeat' apply And.intro
  all_goals (as_aux_lemma => kernel_rfl)
theorem inst3 : Tryz.f3.isInstance Tryz.pinned.checked.prog Rows.sessionNoneRow.origin Rows.sessionNoneRow.targs := of_decide_eq_true (by kernel_rfl)
theorem wrap3 : Tryz.f3.isWrapper Tryz.pinned.checked.prog Rows.sessionNoneRow.wrapper Rows.sessionNoneRow.mainSum := by
  unfold Func.isWrapper
  rw [if_neg (by decide +kernel)]
  exact ⟨rfl, rfl⟩

end Go.Proofs.YtcapkpeaofppnaaGreatDoor
