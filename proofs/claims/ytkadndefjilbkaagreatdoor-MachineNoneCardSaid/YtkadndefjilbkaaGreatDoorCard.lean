/- MachineNone returns true at every input and leaves its argument as it was; nothing is asked of the input (the card ties the three laid tables to the text). After the guide's MapyProofs and ToyasCard. -/
import Derived.Test.YtkadndefjilbkaaGreatDoorCards
import Derived.Test.YtkadndefjilbkaaGreatDoorTie
import Derived.Test.YtkadndefjilbkaaGreatDoorOver
import Derived.ProofKit
import Derived.LaidMore
import Derived.OpenShut
import Derived.Stop.Joined
import Derived.SevenTiedAt
namespace Go.Proofs.YtkadndefjilbkaaGreatDoor
open Go Go.ChangeShapes Go.WideShapes Go.ChangeAt Go.RowKit

theorem machineNone_holds : Rows.MachineNoneCardSaid :=
  Claim7.holds_tied_plain_at .later [] [.data, .data, .data] true (true, "400ce3d6058ec987fe978053050c81a94ab70d3e30468bae7efb64fbb10f2b01") false
    over (fun _ h => by cases h) (by as_aux_lemma => kernel_rfl) (fun _ h => by cases h) machineNone_row_tie rfl ⟨rfl, rfl⟩ (by as_aux_lemma => kernel_rfl) rfl
    (fun f fn hf hfn => by
      obtain rfl : f = 3 := Option.some.inj (named3.symm.trans hf) |>.symm
      obtain rfl : fn = Tryz.f3 := (Option.some.inj (Tryz.func3.symm.trans hfn)).symm
      exact ⟨by as_aux_lemma => kernel_rfl, fun j t ht => by
        rw [Tryz.params3] at ht
        have h3 : t = 3 := by
          rcases j with _ | j
          · simpa using ht.symm
          · simp at ht
        subst h3
        exact (show Tryz.prog.wantsStandIn 3 = false by as_aux_lemma => kernel_rfl)⟩)
    (by as_aux_lemma => kernel_rfl)
#print axioms machineNone_holds
end Go.Proofs.YtkadndefjilbkaaGreatDoor
