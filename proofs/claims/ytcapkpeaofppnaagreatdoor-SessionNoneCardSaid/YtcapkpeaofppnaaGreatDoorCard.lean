/- SessionNone returns true at every input and leaves its argument as it was; nothing is asked of the input (the card ties the three laid tables to the text). After the guide's MapyProofs and ToyasCard. -/
import Derived.Test.YtcapkpeaofppnaaGreatDoorCards
import Derived.Test.YtcapkpeaofppnaaGreatDoorTie
import Derived.Test.YtcapkpeaofppnaaGreatDoorOver
import Derived.Test.YtcapkpeaofppnaaGreatDoorCardL
import Derived.Test.YtcapkpeaofppnaaGreatDoorCardM
import Derived.Test.YtcapkpeaofppnaaGreatDoorCardG
import Derived.ProofKit
import Derived.LaidMore
import Derived.OpenShut
import Derived.Stop.Joined
import Derived.SevenTiedAt
namespace Go.Proofs.YtcapkpeaofppnaaGreatDoor
open Go Go.ChangeShapes Go.WideShapes Go.ChangeAt Go.RowKit

set_option maxHeartbeats 8000000 in
theorem sessionNone_holds : Rows.SessionNoneCardSaid :=
  Claim7.holds_tied_plain_at .later [] [.data, .data, .data] true (true, "5925e2484e41d20525649f28d5fc81f51e4da2ed9dac4cdfd9b5ec4db79fa9d6") true
    over (fun _ h => by cases h) wf_text (fun _ h => by cases h) sessionNone_row_tie rfl ⟨rfl, rfl⟩ main_is rfl
    (fun f fn hf hfn => by
      obtain rfl : f = 3 := Option.some.inj (named3.symm.trans hf) |>.symm
      obtain rfl : fn = Tryz.f3 := (Option.some.inj (Tryz.func3.symm.trans hfn)).symm
      exact ⟨looks_is, fun j t ht => by
        rw [Tryz.params3] at ht
        have h3 : t = 24 := by
          rcases j with _ | j
          · simpa using ht.symm
          · simp at ht
        subst h3
        exact no_stand_in⟩)
    goes_not
#print axioms sessionNone_holds

end Go.Proofs.YtcapkpeaofppnaaGreatDoor
