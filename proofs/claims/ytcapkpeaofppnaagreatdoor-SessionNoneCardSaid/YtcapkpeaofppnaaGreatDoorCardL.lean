/- The program looks, by the kernel. No condition. -/
import Derived.Test.YtcapkpeaofppnaaGreatDoorRows
import Derived.ProofKit
import Derived.LaidMore
import Derived.OpenShut
import Derived.Stop.Joined
import Derived.SevenTiedAt
namespace Go.Proofs.YtcapkpeaofppnaaGreatDoor
open Go Go.ChangeShapes Go.WideShapes Go.ChangeAt Go.RowKit

theorem looks_is : true = Tryz.pinned.checked.prog.looks [] := by as_aux_lemma => kernel_rfl

end Go.Proofs.YtcapkpeaofppnaaGreatDoor
