/-
  DERIVED. GIVEN WITH THE SEED: THE CARDS: each row of YtcapkpeaofppnaaGreatDoorRows.lean that lists a variable, with what it lists TIED to the program's text (the seventh form; the later family's looks); each row that meets fmt, with fmt's text TOLD by the authors' own Lean function (tested against real Go, not proved from fmt's source: count such statements apart). THE CARD IS WHAT COUNTS. Prove the row's statement (the work); the ties are given (YtcapkpeaofppnaaGreatDoorTie.lean); close each card by the builder's one call (the guide's Derived/Test/ToyasCard.lean, 'card_holds'). Laid BY PROGRAM, IN A SANDBOX (cutbox-door.mjs). By AI agents, Wed Nov 11 2026. No macro, syntax, notation, axiom, sorry.
-/
import Derived.Test.YtcapkpeaofppnaaGreatDoorRows
import GoSem.ClaimSeven
namespace Go.Proofs.YtcapkpeaofppnaaGreatDoor
namespace Rows

/-- THE TIED CARD OF 'constraintlaw53.SessionNone'. -/
def sessionNoneCard : Claim7 := { stood := { row := sessionNoneRow, standIns := [], harness := (true, "5925e2484e41d20525649f28d5fc81f51e4da2ed9dac4cdfd9b5ec4db79fa9d6"), looks := true }, kinds := [], alts := [], laidByText := true, laidKinds := [.data, .data, .data], laidTests := true, laidLooks := .later }
def SessionNoneCardSaid : Prop := Claim7.holds Tryz.pinned (.plain (OpenSpec.ofChange sessionNoneSpec)) sessionNoneCard

/-- THE SECOND FORM's CARD OF 'constraintlaw53.SessionNone'. -/
def sessionNoneUptoCard : Claim7 := { stood := { row := sessionNoneUptoRow, standIns := [], harness := (true, "5925e2484e41d20525649f28d5fc81f51e4da2ed9dac4cdfd9b5ec4db79fa9d6"), looks := true }, kinds := [], alts := [], laidByText := true, laidKinds := [.data, .data, .data], laidTests := true, laidLooks := .later }
def SessionNoneUptoCardSaid : Prop := Claim7.holds Tryz.pinned (.plain (OpenSpec.upto sessionNoneSpec)) sessionNoneUptoCard
end Rows
end Go.Proofs.YtcapkpeaofppnaaGreatDoor
