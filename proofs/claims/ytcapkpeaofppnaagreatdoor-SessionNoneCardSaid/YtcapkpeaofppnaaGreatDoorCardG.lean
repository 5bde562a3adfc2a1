/- Where the program goes, by the kernel. No condition. -/
import Derived.Test.YtcapkpeaofppnaaGreatDoorRows
import Derived.ProofKit
import Derived.LaidMore
import Derived.OpenShut
import Derived.Stop.Joined
import Derived.SevenTiedAt
namespace Go.Proofs.YtcapkpeaofppnaaGreatDoor
open Go Go.ChangeShapes Go.WideShapes Go.ChangeAt Go.RowKit

theorem goes_none (P : Program) (f : FuncId) (h : P.funcs.toList.all (fun fn => !fn.goes) = true) : P.goes f = false := by
  have hP : ∀ g : Nat, (P.funcs[g]?).any Func.goes = false := by
    intro g
    cases hg : P.funcs[g]? with
    | none => rfl
    | some fn =>
      have hm : fn ∈ P.funcs.toList := Array.mem_toList_iff.2 (Array.mem_of_getElem? hg)
      simpa using List.all_eq_true.1 h fn hm
  have h2 : P.funcs.any Func.goes = false := by
    rw [← Array.any_toList, List.any_eq_false]
    intro fn hm
    simpa using List.all_eq_true.1 h fn hm
  unfold Program.goes
  simp only [hP, h2, Bool.and_false, Bool.or_false]
  simp
theorem goesBy_none (c : OpenClaim) (P : Program) (hs : c.start = .entering) (h : P.funcs.toList.all (fun fn => !fn.goes) = true) : c.goesBy P = false := by
  unfold OpenClaim.goesBy Program.goesAt Program.goesFrom
  rw [hs]
  cases P.funcNamed c.func with
  | none => rfl
  | some f => simp [goes_none P f h]
theorem none_go : Tryz.pinned.checked.prog.funcs.toList.all (fun fn => !fn.goes) = true := by as_aux_lemma => kernel_rfl
theorem goes_not : false = Rows.sessionNoneRow.goesBy Tryz.pinned.checked.prog := (goesBy_none _ _ rfl none_go).symm

end Go.Proofs.YtcapkpeaofppnaaGreatDoor
