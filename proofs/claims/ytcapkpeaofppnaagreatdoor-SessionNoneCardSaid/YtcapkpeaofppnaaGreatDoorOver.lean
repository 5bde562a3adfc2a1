/- The row of SessionNone holds. The row's own conditions alone. -/
import Derived.Test.YtcapkpeaofppnaaGreatDoorLift
import Derived.Test.YtcapkpeaofppnaaGreatDoorFacts
import Derived.ProofKit
import Derived.LaidMore
import Derived.OpenShut
import Derived.Stop.Joined
import Derived.SevenTiedAt
namespace Go.Proofs.YtcapkpeaofppnaaGreatDoor
open Go Go.ChangeShapes Go.WideShapes Go.ChangeAt Go.RowKit

set_option maxHeartbeats 8000000 in
theorem over : Rows.SessionNoneSaid :=
  OpenClaim.holds_of_wide 3 Tryz.f3 rfl rfl rfl rfl rfl rfl rfl ⟨rfl, rfl, rfl, rfl, rfl⟩ rfl rfl rfl rfl rfl named3 Tryz.func3 joined3 inst3 wrap3
    (fun os started H enc _ => lifted os started H enc)

end Go.Proofs.YtcapkpeaofppnaaGreatDoor
