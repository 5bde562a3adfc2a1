/- The program's harness, by the kernel. No condition. -/
import Derived.Test.YtcapkpeaofppnaaGreatDoorRows
import Derived.ProofKit
import Derived.LaidMore
import Derived.OpenShut
import Derived.Stop.Joined
import Derived.SevenTiedAt
namespace Go.Proofs.YtcapkpeaofppnaaGreatDoor
open Go Go.ChangeShapes Go.WideShapes Go.ChangeAt Go.RowKit

theorem main_is : Tryz.pinned.checked.prog.mainIs = some ((true, "5925e2484e41d20525649f28d5fc81f51e4da2ed9dac4cdfd9b5ec4db79fa9d6").1, (true, "5925e2484e41d20525649f28d5fc81f51e4da2ed9dac4cdfd9b5ec4db79fa9d6").2.toList) := by as_aux_lemma => kernel_rfl
theorem wf_text : Rows.sessionNoneRow.wfByText (OpenSpec.ofChange Rows.sessionNoneSpec) = true := by as_aux_lemma => kernel_rfl
theorem no_stand_in : Tryz.pinned.checked.prog.wantsStandIn 24 = false := by as_aux_lemma => kernel_rfl

end Go.Proofs.YtcapkpeaofppnaaGreatDoor
