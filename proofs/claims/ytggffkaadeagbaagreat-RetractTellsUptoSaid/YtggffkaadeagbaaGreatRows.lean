/-
  NARROWER THAN 'FOR EVERY INPUT', by the rows' own cells (each row's printed sentence says how): RetractChecks: loops · RetractTells: loops · RetractRuns: loops · RetractKeeps: loops · RetractCommutes: loops · RetractForgets: loops · RetractUndoes: loops.
  DERIVED. THE GIVEN ROWS OF THIS SEAT. 7 by the template 'for every input the law returns true; each argument reads behind the call as it read before'; 0 by the template 'total and deterministic' (their statements: YtggffkaadeagbaaGreatTotals.lean).
  GIVEN WITH THE SEED: the statements are not yours to turn. If you find one false, say at which input.
  Laid BY PROGRAM, IN A SANDBOX (cutbox-rows.mjs): the forced cells as the released guide's own fill.sh prints them over the translation 7567fbba44f46cf0… (all of the seat's roots in one cut). By AI agents, Wed Nov 11 2026. No macro, syntax, notation, axiom, sorry.
-/
import Derived.Test.YtggffkaadeagbaaGreatChecked
import GoSem.Claim
import GoSem.ClaimJoined
import GoSem.ClaimMapViews
import Derived.JoinedTies
import Derived.KernelRfl
namespace Go.Proofs.YtggffkaadeagbaaGreat
/- THE CELL 'sum', in the pinned program and in every row, IS THE sha256 OF THE DUMP (.gsa) THAT YtggffkaadeagbaaGreatProg.lean LOADS. Nothing in Lean hashes anything: it is a label: what it is worth is what the hold of that sum in a sandbox is worth. -/
noncomputable def Tryz.pinned : Pinned := { name := "ytggffkaadeagbaagreat", sum := "7567fbba44f46cf04038d728d1b03b386189313fc769fade2a311ce4d6c91f67", checked := Tryz.checked }
namespace Rows
def none {H : Type} : Left H := { results := [], args := [] }

/-- 'constraintlaw50.RetractChecks': WHATEVER THE INPUT: true; the input reads as it did. -/
def retractChecksSpec : ChangeSpec := { name := "retractChecks", fn := fun _ => fun
  | [d1, d2] => { results := [.lit (.bool true)], args := [d1, d2] }
  | _ => none }
def retractChecksRow : OpenClaim := { program := "ytggffkaadeagbaagreat", sum := "7567fbba44f46cf04038d728d1b03b386189313fc769fade2a311ce4d6c91f67", func := "constraint/constraintlaw50.RetractChecks", spec := "retractChecks", inPlace := ["internal/bytealg.IndexByteString", "internal/bytealg.IndexString", "slices.overlaps[constraint/api.Bind]"], unfollowed := true, recurses := true, named := ["internal/bytealg.MaxLen"], loops := true, plainKeys := false, apart := false }
def RetractChecksSaid : Prop := retractChecksRow.holds Tryz.pinned (OpenSpec.ofChange retractChecksSpec)

/-- ITS FALSE NEIGHBOUR: 'it returns false'. Refute it at one input. -/
def retractChecksWrong : ChangeSpec := { name := "retractChecks", fn := fun _ => fun
  | [d1, d2] => { results := [.lit (.bool false)], args := [d1, d2] }
  | _ => none }
def RetractChecksWrongFalsely : Prop := retractChecksRow.holds Tryz.pinned (OpenSpec.ofChange retractChecksWrong)

/-- 'constraintlaw50.RetractTells': WHATEVER THE INPUT: true; the input reads as it did. -/
def retractTellsSpec : ChangeSpec := { name := "retractTells", fn := fun _ => fun
  | [d1, d2, d3] => { results := [.lit (.bool true)], args := [d1, d2, d3] }
  | _ => none }
def retractTellsRow : OpenClaim := { program := "ytggffkaadeagbaagreat", sum := "7567fbba44f46cf04038d728d1b03b386189313fc769fade2a311ce4d6c91f67", func := "constraint/constraintlaw50.RetractTells", spec := "retractTells", inPlace := ["internal/bytealg.IndexByteString", "internal/bytealg.IndexString", "slices.overlaps[constraint/api.Bind]"], unfollowed := true, recurses := true, named := ["internal/bytealg.MaxLen"], loops := true, plainKeys := false, apart := false }
def RetractTellsSaid : Prop := retractTellsRow.holds Tryz.pinned (OpenSpec.ofChange retractTellsSpec)

/-- ITS FALSE NEIGHBOUR: 'it returns false'. Refute it at one input. -/
def retractTellsWrong : ChangeSpec := { name := "retractTells", fn := fun _ => fun
  | [d1, d2, d3] => { results := [.lit (.bool false)], args := [d1, d2, d3] }
  | _ => none }
def RetractTellsWrongFalsely : Prop := retractTellsRow.holds Tryz.pinned (OpenSpec.ofChange retractTellsWrong)

/-- 'constraintlaw50.RetractRuns': WHATEVER THE INPUT: true; the input reads as it did. -/
def retractRunsSpec : ChangeSpec := { name := "retractRuns", fn := fun _ => fun
  | [d1, d2, d3] => { results := [.lit (.bool true)], args := [d1, d2, d3] }
  | _ => none }
def retractRunsRow : OpenClaim := { program := "ytggffkaadeagbaagreat", sum := "7567fbba44f46cf04038d728d1b03b386189313fc769fade2a311ce4d6c91f67", func := "constraint/constraintlaw50.RetractRuns", spec := "retractRuns", inPlace := ["internal/bytealg.IndexByteString", "internal/bytealg.IndexString", "slices.overlaps[constraint/api.Bind]"], unfollowed := true, recurses := true, named := ["internal/bytealg.MaxLen"], loops := true, plainKeys := false, apart := false }
def RetractRunsSaid : Prop := retractRunsRow.holds Tryz.pinned (OpenSpec.ofChange retractRunsSpec)

/-- ITS FALSE NEIGHBOUR: 'it returns false'. Refute it at one input. -/
def retractRunsWrong : ChangeSpec := { name := "retractRuns", fn := fun _ => fun
  | [d1, d2, d3] => { results := [.lit (.bool false)], args := [d1, d2, d3] }
  | _ => none }
def RetractRunsWrongFalsely : Prop := retractRunsRow.holds Tryz.pinned (OpenSpec.ofChange retractRunsWrong)

/-- 'constraintlaw50.RetractKeeps': WHATEVER THE INPUT: true; the input reads as it did. -/
def retractKeepsSpec : ChangeSpec := { name := "retractKeeps", fn := fun _ => fun
  | [d1, d2, d3] => { results := [.lit (.bool true)], args := [d1, d2, d3] }
  | _ => none }
def retractKeepsRow : OpenClaim := { program := "ytggffkaadeagbaagreat", sum := "7567fbba44f46cf04038d728d1b03b386189313fc769fade2a311ce4d6c91f67", func := "constraint/constraintlaw50.RetractKeeps", spec := "retractKeeps", inPlace := ["internal/bytealg.IndexByteString", "internal/bytealg.IndexString", "slices.overlaps[constraint/api.Bind]"], unfollowed := true, recurses := true, named := ["internal/bytealg.MaxLen"], loops := true, plainKeys := false, apart := false }
def RetractKeepsSaid : Prop := retractKeepsRow.holds Tryz.pinned (OpenSpec.ofChange retractKeepsSpec)

/-- ITS FALSE NEIGHBOUR: 'it returns false'. Refute it at one input. -/
def retractKeepsWrong : ChangeSpec := { name := "retractKeeps", fn := fun _ => fun
  | [d1, d2, d3] => { results := [.lit (.bool false)], args := [d1, d2, d3] }
  | _ => none }
def RetractKeepsWrongFalsely : Prop := retractKeepsRow.holds Tryz.pinned (OpenSpec.ofChange retractKeepsWrong)

/-- 'constraintlaw50.RetractCommutes': WHATEVER THE INPUT: true; the input reads as it did. -/
def retractCommutesSpec : ChangeSpec := { name := "retractCommutes", fn := fun _ => fun
  | [d1, d2, d3] => { results := [.lit (.bool true)], args := [d1, d2, d3] }
  | _ => none }
def retractCommutesRow : OpenClaim := { program := "ytggffkaadeagbaagreat", sum := "7567fbba44f46cf04038d728d1b03b386189313fc769fade2a311ce4d6c91f67", func := "constraint/constraintlaw50.RetractCommutes", spec := "retractCommutes", inPlace := ["internal/bytealg.IndexByteString", "internal/bytealg.IndexString", "slices.overlaps[constraint/api.Bind]"], unfollowed := true, recurses := true, named := ["internal/bytealg.MaxLen"], loops := true, plainKeys := false, apart := false }
def RetractCommutesSaid : Prop := retractCommutesRow.holds Tryz.pinned (OpenSpec.ofChange retractCommutesSpec)

/-- ITS FALSE NEIGHBOUR: 'it returns false'. Refute it at one input. -/
def retractCommutesWrong : ChangeSpec := { name := "retractCommutes", fn := fun _ => fun
  | [d1, d2, d3] => { results := [.lit (.bool false)], args := [d1, d2, d3] }
  | _ => none }
def RetractCommutesWrongFalsely : Prop := retractCommutesRow.holds Tryz.pinned (OpenSpec.ofChange retractCommutesWrong)

/-- 'constraintlaw50.RetractForgets': WHATEVER THE INPUT: true; the input reads as it did. -/
def retractForgetsSpec : ChangeSpec := { name := "retractForgets", fn := fun _ => fun
  | [d1, d2, d3] => { results := [.lit (.bool true)], args := [d1, d2, d3] }
  | _ => none }
def retractForgetsRow : OpenClaim := { program := "ytggffkaadeagbaagreat", sum := "7567fbba44f46cf04038d728d1b03b386189313fc769fade2a311ce4d6c91f67", func := "constraint/constraintlaw50.RetractForgets", spec := "retractForgets", inPlace := ["internal/bytealg.IndexByteString", "internal/bytealg.IndexString", "slices.overlaps[constraint/api.Bind]"], unfollowed := true, recurses := true, named := ["internal/bytealg.MaxLen"], loops := true, plainKeys := false, apart := false }
def RetractForgetsSaid : Prop := retractForgetsRow.holds Tryz.pinned (OpenSpec.ofChange retractForgetsSpec)

/-- ITS FALSE NEIGHBOUR: 'it returns false'. Refute it at one input. -/
def retractForgetsWrong : ChangeSpec := { name := "retractForgets", fn := fun _ => fun
  | [d1, d2, d3] => { results := [.lit (.bool false)], args := [d1, d2, d3] }
  | _ => none }
def RetractForgetsWrongFalsely : Prop := retractForgetsRow.holds Tryz.pinned (OpenSpec.ofChange retractForgetsWrong)

/-- 'constraintlaw50.RetractUndoes': WHATEVER THE INPUT: true; the input reads as it did. -/
def retractUndoesSpec : ChangeSpec := { name := "retractUndoes", fn := fun _ => fun
  | [d1, d2] => { results := [.lit (.bool true)], args := [d1, d2] }
  | _ => none }
def retractUndoesRow : OpenClaim := { program := "ytggffkaadeagbaagreat", sum := "7567fbba44f46cf04038d728d1b03b386189313fc769fade2a311ce4d6c91f67", func := "constraint/constraintlaw50.RetractUndoes", spec := "retractUndoes", inPlace := ["internal/bytealg.IndexByteString", "internal/bytealg.IndexString", "slices.overlaps[constraint/api.Bind]"], unfollowed := true, recurses := true, named := ["internal/bytealg.MaxLen"], loops := true, plainKeys := false, apart := false }
def RetractUndoesSaid : Prop := retractUndoesRow.holds Tryz.pinned (OpenSpec.ofChange retractUndoesSpec)

/-- ITS FALSE NEIGHBOUR: 'it returns false'. Refute it at one input. -/
def retractUndoesWrong : ChangeSpec := { name := "retractUndoes", fn := fun _ => fun
  | [d1, d2] => { results := [.lit (.bool false)], args := [d1, d2] }
  | _ => none }
def RetractUndoesWrongFalsely : Prop := retractUndoesRow.holds Tryz.pinned (OpenSpec.ofChange retractUndoesWrong)

/- THE SECOND FORM. 'bulk': how many values and letters a reading holds, each counted each time it is reached (what is shared counts as often as it is met; a slice's spare places count too). A statement '..UptoSaid' is the law's where the arguments, and the package variables that the reading takes, are together of bulk at most 1048576: NARROWER than '..Said'. Prove '..Said' where nothing that the law and all that it calls make is longer than what came in: it says more and counts as full. Else prove '..UptoSaid'. A law counts once. -/
mutual
def uptoBulk {H : Type} : DataW H → Nat
  | .lit (.string bytes) => bytes.length + 1
  | .lit _ => 1
  | .nil => 1
  | .ptr d => uptoBulk d + 1
  | .slice elems spare => uptoBulkAll elems + uptoBulkAll spare + 1
  | .agg parts => uptoBulkAll parts + 1
  | .iface _ d => uptoBulk d + 1
  | .map entries => uptoBulkEntries entries + 1
  | .held _ => 1
def uptoBulkAll {H : Type} : List (DataW H) → Nat
  | [] => 0
  | d :: r => uptoBulk d + uptoBulkAll r
def uptoBulkEntries {H : Type} : List (Lit × DataW H) → Nat
  | [] => 0
  | x :: r => uptoBulkEntry x + uptoBulkEntries r
def uptoBulkEntry {H : Type} : Lit × DataW H → Nat
  | (.string bytes, d) => bytes.length + uptoBulk d + 1
  | (_, d) => uptoBulk d + 1
 end
def uptoSmall : (H : Type) → List (DataW H) → Bool := fun _ ds => decide (uptoBulkAll ds ≤ 1048576)
def OpenSpec.upto (s : _root_.Go.ChangeSpec) : _root_.Go.OpenSpec := { _root_.Go.OpenSpec.ofChange s with cond := some uptoSmall }

/-- 'constraintlaw50.RetractChecks', WHERE WHAT IT READS IS OF BULK AT MOST 1048576: true; the input reads as it did. -/
def retractChecksUptoRow : OpenClaim := { program := "ytggffkaadeagbaagreat", sum := "7567fbba44f46cf04038d728d1b03b386189313fc769fade2a311ce4d6c91f67", func := "constraint/constraintlaw50.RetractChecks", spec := "retractChecks", inPlace := ["internal/bytealg.IndexByteString", "internal/bytealg.IndexString", "slices.overlaps[constraint/api.Bind]"], unfollowed := true, recurses := true, named := ["internal/bytealg.MaxLen"], loops := true, plainKeys := false, apart := false, narrowed := true }
def RetractChecksUptoSaid : Prop := retractChecksUptoRow.holds Tryz.pinned (OpenSpec.upto retractChecksSpec)

/-- 'constraintlaw50.RetractTells', WHERE WHAT IT READS IS OF BULK AT MOST 1048576: true; the input reads as it did. -/
def retractTellsUptoRow : OpenClaim := { program := "ytggffkaadeagbaagreat", sum := "7567fbba44f46cf04038d728d1b03b386189313fc769fade2a311ce4d6c91f67", func := "constraint/constraintlaw50.RetractTells", spec := "retractTells", inPlace := ["internal/bytealg.IndexByteString", "internal/bytealg.IndexString", "slices.overlaps[constraint/api.Bind]"], unfollowed := true, recurses := true, named := ["internal/bytealg.MaxLen"], loops := true, plainKeys := false, apart := false, narrowed := true }
def RetractTellsUptoSaid : Prop := retractTellsUptoRow.holds Tryz.pinned (OpenSpec.upto retractTellsSpec)

/-- 'constraintlaw50.RetractRuns', WHERE WHAT IT READS IS OF BULK AT MOST 1048576: true; the input reads as it did. -/
def retractRunsUptoRow : OpenClaim := { program := "ytggffkaadeagbaagreat", sum := "7567fbba44f46cf04038d728d1b03b386189313fc769fade2a311ce4d6c91f67", func := "constraint/constraintlaw50.RetractRuns", spec := "retractRuns", inPlace := ["internal/bytealg.IndexByteString", "internal/bytealg.IndexString", "slices.overlaps[constraint/api.Bind]"], unfollowed := true, recurses := true, named := ["internal/bytealg.MaxLen"], loops := true, plainKeys := false, apart := false, narrowed := true }
def RetractRunsUptoSaid : Prop := retractRunsUptoRow.holds Tryz.pinned (OpenSpec.upto retractRunsSpec)

/-- 'constraintlaw50.RetractKeeps', WHERE WHAT IT READS IS OF BULK AT MOST 1048576: true; the input reads as it did. -/
def retractKeepsUptoRow : OpenClaim := { program := "ytggffkaadeagbaagreat", sum := "7567fbba44f46cf04038d728d1b03b386189313fc769fade2a311ce4d6c91f67", func := "constraint/constraintlaw50.RetractKeeps", spec := "retractKeeps", inPlace := ["internal/bytealg.IndexByteString", "internal/bytealg.IndexString", "slices.overlaps[constraint/api.Bind]"], unfollowed := true, recurses := true, named := ["internal/bytealg.MaxLen"], loops := true, plainKeys := false, apart := false, narrowed := true }
def RetractKeepsUptoSaid : Prop := retractKeepsUptoRow.holds Tryz.pinned (OpenSpec.upto retractKeepsSpec)

/-- 'constraintlaw50.RetractCommutes', WHERE WHAT IT READS IS OF BULK AT MOST 1048576: true; the input reads as it did. -/
def retractCommutesUptoRow : OpenClaim := { program := "ytggffkaadeagbaagreat", sum := "7567fbba44f46cf04038d728d1b03b386189313fc769fade2a311ce4d6c91f67", func := "constraint/constraintlaw50.RetractCommutes", spec := "retractCommutes", inPlace := ["internal/bytealg.IndexByteString", "internal/bytealg.IndexString", "slices.overlaps[constraint/api.Bind]"], unfollowed := true, recurses := true, named := ["internal/bytealg.MaxLen"], loops := true, plainKeys := false, apart := false, narrowed := true }
def RetractCommutesUptoSaid : Prop := retractCommutesUptoRow.holds Tryz.pinned (OpenSpec.upto retractCommutesSpec)

/-- 'constraintlaw50.RetractForgets', WHERE WHAT IT READS IS OF BULK AT MOST 1048576: true; the input reads as it did. -/
def retractForgetsUptoRow : OpenClaim := { program := "ytggffkaadeagbaagreat", sum := "7567fbba44f46cf04038d728d1b03b386189313fc769fade2a311ce4d6c91f67", func := "constraint/constraintlaw50.RetractForgets", spec := "retractForgets", inPlace := ["internal/bytealg.IndexByteString", "internal/bytealg.IndexString", "slices.overlaps[constraint/api.Bind]"], unfollowed := true, recurses := true, named := ["internal/bytealg.MaxLen"], loops := true, plainKeys := false, apart := false, narrowed := true }
def RetractForgetsUptoSaid : Prop := retractForgetsUptoRow.holds Tryz.pinned (OpenSpec.upto retractForgetsSpec)

/-- 'constraintlaw50.RetractUndoes', WHERE WHAT IT READS IS OF BULK AT MOST 1048576: true; the input reads as it did. -/
def retractUndoesUptoRow : OpenClaim := { program := "ytggffkaadeagbaagreat", sum := "7567fbba44f46cf04038d728d1b03b386189313fc769fade2a311ce4d6c91f67", func := "constraint/constraintlaw50.RetractUndoes", spec := "retractUndoes", inPlace := ["internal/bytealg.IndexByteString", "internal/bytealg.IndexString", "slices.overlaps[constraint/api.Bind]"], unfollowed := true, recurses := true, named := ["internal/bytealg.MaxLen"], loops := true, plainKeys := false, apart := false, narrowed := true }
def RetractUndoesUptoSaid : Prop := retractUndoesUptoRow.holds Tryz.pinned (OpenSpec.upto retractUndoesSpec)

end Rows
end Go.Proofs.YtggffkaadeagbaaGreat
