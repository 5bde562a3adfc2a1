/- The memory at the door of SessionNone meets what the row lays: the three tables read as listed. No condition. -/
import Derived.Test.YtcapkpeaofppnaaGreatDoorRows
import Derived.ProofKit
import Derived.LaidMore
import Derived.OpenShut
import Derived.Stop.Joined
import Derived.SevenTiedAt
namespace Go.Proofs.YtcapkpeaofppnaaGreatDoor
open Go Go.ChangeShapes Go.WideShapes Go.ChangeAt Go.RowKit

theorem own : ownKnob Tryz.prog.godebug = none := by as_aux_lemma => kernel_rfl
def laid3 : List (String × DataW Unit) := Rows.sessionNoneRow.laid
set_option maxHeartbeats 4000000 in
/-- The door's own heap meets the condition. -/
theorem door_met (os : Os) (args : Array Value) : laidMetH Tryz.prog laid3 ((World.doorLaid Tryz.prog 24 os).forCall (fun _ _ => 0) ⟨#[], args, []⟩).memory :=
  laidMetH_of_parts3 (fuel := 8) (laidMet_of_run' 8 (by as_aux_lemma => kernel_rfl) (by as_aux_lemma => kernel_rfl)) (by as_aux_lemma => kernel_rfl) (by as_aux_lemma => kernel_rfl)
theorem laidOut : laidOutB Tryz.prog = true := by as_aux_lemma => kernel_rfl
theorem readable24 : Tryz.prog.readableRec 24 = true := by as_aux_lemma => kernel_rfl
theorem sized24 : 24 < Tryz.prog.types.size := of_decide_eq_true (by as_aux_lemma => kernel_rfl)
theorem cells24 : Tryz.prog.cellsOf 24 = 3 := by as_aux_lemma => kernel_rfl

end Go.Proofs.YtcapkpeaofppnaaGreatDoor
