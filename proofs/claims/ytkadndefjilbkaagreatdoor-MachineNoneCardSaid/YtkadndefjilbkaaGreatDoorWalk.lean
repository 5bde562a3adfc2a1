/- The closed run of MachineNone: whatever the argument, the call returns true and leaves all that was there as it was. -/
import Derived.Test.YtkadndefjilbkaaGreatDoorProg
import Derived.Test.YtkadndefjilbkaaGreatDoorEvTop
import Derived.KernelRfl
namespace Go.Proofs.YtkadndefjilbkaaGreatDoor
open Go Go.RowKit

theorem mixed : Tryz.prog.follows .mixedOrders = true := by as_aux_lemma => kernel_rfl
set_option maxRecDepth 100000 in
theorem run_says (n : Int) : Go.Ev.says ((Go.Ev.ev Tryz.prog 3000).call 0 3 [.raw (.int .i64 n)] ⟨0, .lf⟩) = true := by as_aux_lemma => kernel_rfl
theorem walk (n : Int) (w : World) : Calls Tryz.prog 3 #[.int .i64 n] w fun e w' => e = .returned (.bool true) ∧ Below w.heap.size w w' :=
  Go.Ev.ev_true mixed (us := [.int .i64 n]) (run_says n) w

end Go.Proofs.YtkadndefjilbkaaGreatDoor
