/-
  NARROWER THAN 'FOR EVERY INPUT', by the rows' own cells (each row's printed sentence says how): CompileBlocks: loops · CompileRight: loops · CompileWhole: loops · CompileImages: loops.
  DERIVED. THE GIVEN ROWS OF THIS SEAT. 4 by the template 'for every input the law returns true; each argument reads behind the call as it read before'; 0 by the template 'total and deterministic' (their statements: YtabefplkfkfdfaaGreatTotals.lean).
  GIVEN WITH THE SEED: the statements are not yours to turn. If you find one false, say at which input.
  Laid BY PROGRAM, IN A SANDBOX (cutbox-rows.mjs): the forced cells as the released guide's own fill.sh prints them over the translation 4e6f4b5e99af6e73… (all of the seat's roots in one cut). By AI agents, Wed Nov 11 2026. No macro, syntax, notation, axiom, sorry.
-/
import Derived.Test.YtabefplkfkfdfaaGreatChecked
import GoSem.Claim
import GoSem.ClaimJoined
import GoSem.ClaimMapViews
import Derived.JoinedTies
import Derived.KernelRfl
namespace Go.Proofs.YtabefplkfkfdfaaGreat
/- THE CELL 'sum', in the pinned program and in every row, IS THE sha256 OF THE DUMP (.gsa) THAT YtabefplkfkfdfaaGreatProg.lean LOADS. Nothing in Lean hashes anything: it is a label: what it is worth is what the hold of that sum in a sandbox is worth. -/
noncomputable def Tryz.pinned : Pinned := { name := "ytabefplkfkfdfaagreat", sum := "4e6f4b5e99af6e7385ca28ba2e97c458cb5169196a6d293ae86aa81f4503d931", checked := Tryz.checked }
namespace Rows
def none {H : Type} : Left H := { results := [], args := [] }

/-- 'constraintlaw34.CompileBlocks': WHATEVER THE INPUT: true; the input reads as it did. -/
def compileBlocksSpec : ChangeSpec := { name := "compileBlocks", fn := fun _ => fun
  | [d1, d2, d3] => { results := [.lit (.bool true)], args := [d1, d2, d3] }
  | _ => none }
def compileBlocksRow : OpenClaim := { program := "ytabefplkfkfdfaagreat", sum := "4e6f4b5e99af6e7385ca28ba2e97c458cb5169196a6d293ae86aa81f4503d931", func := "constraint/constraintlaw34.CompileBlocks", spec := "compileBlocks", inPlace := ["internal/bytealg.IndexByteString", "internal/bytealg.IndexString"], unfollowed := true, recurses := true, named := ["internal/bytealg.MaxLen"], loops := true, plainKeys := false, apart := false }
def CompileBlocksSaid : Prop := compileBlocksRow.holds Tryz.pinned (OpenSpec.ofChange compileBlocksSpec)

/-- ITS FALSE NEIGHBOUR: 'it returns false'. Refute it at one input. -/
def compileBlocksWrong : ChangeSpec := { name := "compileBlocks", fn := fun _ => fun
  | [d1, d2, d3] => { results := [.lit (.bool false)], args := [d1, d2, d3] }
  | _ => none }
def CompileBlocksWrongFalsely : Prop := compileBlocksRow.holds Tryz.pinned (OpenSpec.ofChange compileBlocksWrong)

/-- 'constraintlaw34.CompileRight': WHATEVER THE INPUT: true; the input reads as it did. -/
def compileRightSpec : ChangeSpec := { name := "compileRight", fn := fun _ => fun
  | [d] => { results := [.lit (.bool true)], args := [d] }
  | _ => none }
def compileRightRow : OpenClaim := { program := "ytabefplkfkfdfaagreat", sum := "4e6f4b5e99af6e7385ca28ba2e97c458cb5169196a6d293ae86aa81f4503d931", func := "constraint/constraintlaw34.CompileRight", spec := "compileRight", inPlace := ["internal/bytealg.IndexByteString", "internal/bytealg.IndexString"], unfollowed := true, recurses := true, named := ["internal/bytealg.MaxLen"], loops := true, plainKeys := false, apart := false }
def CompileRightSaid : Prop := compileRightRow.holds Tryz.pinned (OpenSpec.ofChange compileRightSpec)

/-- ITS FALSE NEIGHBOUR: 'it returns false'. Refute it at one input. -/
def compileRightWrong : ChangeSpec := { name := "compileRight", fn := fun _ => fun
  | [d] => { results := [.lit (.bool false)], args := [d] }
  | _ => none }
def CompileRightWrongFalsely : Prop := compileRightRow.holds Tryz.pinned (OpenSpec.ofChange compileRightWrong)

/-- 'constraintlaw34.CompileWhole': WHATEVER THE INPUT: true; the input reads as it did. -/
def compileWholeSpec : ChangeSpec := { name := "compileWhole", fn := fun _ => fun
  | [d] => { results := [.lit (.bool true)], args := [d] }
  | _ => none }
def compileWholeRow : OpenClaim := { program := "ytabefplkfkfdfaagreat", sum := "4e6f4b5e99af6e7385ca28ba2e97c458cb5169196a6d293ae86aa81f4503d931", func := "constraint/constraintlaw34.CompileWhole", spec := "compileWhole", inPlace := ["internal/bytealg.IndexByteString", "internal/bytealg.IndexString"], unfollowed := true, recurses := true, named := ["internal/bytealg.MaxLen"], loops := true, plainKeys := false, apart := false }
def CompileWholeSaid : Prop := compileWholeRow.holds Tryz.pinned (OpenSpec.ofChange compileWholeSpec)

/-- ITS FALSE NEIGHBOUR: 'it returns false'. Refute it at one input. -/
def compileWholeWrong : ChangeSpec := { name := "compileWhole", fn := fun _ => fun
  | [d] => { results := [.lit (.bool false)], args := [d] }
  | _ => none }
def CompileWholeWrongFalsely : Prop := compileWholeRow.holds Tryz.pinned (OpenSpec.ofChange compileWholeWrong)

/-- 'constraintlaw34.CompileImages': WHATEVER THE INPUT: true; the input reads as it did. -/
def compileImagesSpec : ChangeSpec := { name := "compileImages", fn := fun _ => fun
  | [d1, d2, d3] => { results := [.lit (.bool true)], args := [d1, d2, d3] }
  | _ => none }
def compileImagesRow : OpenClaim := { program := "ytabefplkfkfdfaagreat", sum := "4e6f4b5e99af6e7385ca28ba2e97c458cb5169196a6d293ae86aa81f4503d931", func := "constraint/constraintlaw34.CompileImages", spec := "compileImages", inPlace := ["internal/bytealg.IndexByteString", "internal/bytealg.IndexString"], unfollowed := true, recurses := true, named := ["internal/bytealg.MaxLen"], loops := true, plainKeys := false, apart := false }
def CompileImagesSaid : Prop := compileImagesRow.holds Tryz.pinned (OpenSpec.ofChange compileImagesSpec)

/-- ITS FALSE NEIGHBOUR: 'it returns false'. Refute it at one input. -/
def compileImagesWrong : ChangeSpec := { name := "compileImages", fn := fun _ => fun
  | [d1, d2, d3] => { results := [.lit (.bool false)], args := [d1, d2, d3] }
  | _ => none }
def CompileImagesWrongFalsely : Prop := compileImagesRow.holds Tryz.pinned (OpenSpec.ofChange compileImagesWrong)

/- THE SECOND FORM. 'bulk': how many values and letters a reading holds, each counted each time it is reached (what is shared counts as often as it is met; a slice's spare places count too). A statement '..UptoSaid' is the law's where the arguments, and the package variables that the reading takes, are together of bulk at most 1048576: NARROWER than '..Said'. Prove '..Said' where nothing that the law and all that it calls make is longer than what came in: it says more and counts as full. Else prove '..UptoSaid'. A law counts once. -/
mutual
def uptoBulk {H : Type} : DataW H → Nat
  | .lit (.string bytes) => bytes.length + 1
  | .lit _ => 1
  | .nil => 1
  | .ptr d => uptoBulk d + 1
  | .slice elems spare => uptoBulkAll elems + uptoBulkAll spare + 1
  | .agg parts => uptoBulkAll parts + 1
  | .iface _ d => uptoBulk d + 1
  | .map entries => uptoBulkEntries entries + 1
  | .held _ => 1
def uptoBulkAll {H : Type} : List (DataW H) → Nat
  | [] => 0
  | d :: r => uptoBulk d + uptoBulkAll r
def uptoBulkEntries {H : Type} : List (Lit × DataW H) → Nat
  | [] => 0
  | x :: r => uptoBulkEntry x + uptoBulkEntries r
def uptoBulkEntry {H : Type} : Lit × DataW H → Nat
  | (.string bytes, d) => bytes.length + uptoBulk d + 1
  | (_, d) => uptoBulk d + 1
 end
def uptoSmall : (H : Type) → List (DataW H) → Bool := fun _ ds => decide (uptoBulkAll ds ≤ 1048576)
def OpenSpec.upto (s : _root_.Go.ChangeSpec) : _root_.Go.OpenSpec := { _root_.Go.OpenSpec.ofChange s with cond := some uptoSmall }

/-- 'constraintlaw34.CompileBlocks', WHERE WHAT IT READS IS OF BULK AT MOST 1048576: true; the input reads as it did. -/
def compileBlocksUptoRow : OpenClaim := { program := "ytabefplkfkfdfaagreat", sum := "4e6f4b5e99af6e7385ca28ba2e97c458cb5169196a6d293ae86aa81f4503d931", func := "constraint/constraintlaw34.CompileBlocks", spec := "compileBlocks", inPlace := ["internal/bytealg.IndexByteString", "internal/bytealg.IndexString"], unfollowed := true, recurses := true, named := ["internal/bytealg.MaxLen"], loops := true, plainKeys := false, apart := false, narrowed := true }
def CompileBlocksUptoSaid : Prop := compileBlocksUptoRow.holds Tryz.pinned (OpenSpec.upto compileBlocksSpec)

/-- 'constraintlaw34.CompileRight', WHERE WHAT IT READS IS OF BULK AT MOST 1048576: true; the input reads as it did. -/
def compileRightUptoRow : OpenClaim := { program := "ytabefplkfkfdfaagreat", sum := "4e6f4b5e99af6e7385ca28ba2e97c458cb5169196a6d293ae86aa81f4503d931", func := "constraint/constraintlaw34.CompileRight", spec := "compileRight", inPlace := ["internal/bytealg.IndexByteString", "internal/bytealg.IndexString"], unfollowed := true, recurses := true, named := ["internal/bytealg.MaxLen"], loops := true, plainKeys := false, apart := false, narrowed := true }
def CompileRightUptoSaid : Prop := compileRightUptoRow.holds Tryz.pinned (OpenSpec.upto compileRightSpec)

/-- 'constraintlaw34.CompileWhole', WHERE WHAT IT READS IS OF BULK AT MOST 1048576: true; the input reads as it did. -/
def compileWholeUptoRow : OpenClaim := { program := "ytabefplkfkfdfaagreat", sum := "4e6f4b5e99af6e7385ca28ba2e97c458cb5169196a6d293ae86aa81f4503d931", func := "constraint/constraintlaw34.CompileWhole", spec := "compileWhole", inPlace := ["internal/bytealg.IndexByteString", "internal/bytealg.IndexString"], unfollowed := true, recurses := true, named := ["internal/bytealg.MaxLen"], loops := true, plainKeys := false, apart := false, narrowed := true }
def CompileWholeUptoSaid : Prop := compileWholeUptoRow.holds Tryz.pinned (OpenSpec.upto compileWholeSpec)

/-- 'constraintlaw34.CompileImages', WHERE WHAT IT READS IS OF BULK AT MOST 1048576: true; the input reads as it did. -/
def compileImagesUptoRow : OpenClaim := { program := "ytabefplkfkfdfaagreat", sum := "4e6f4b5e99af6e7385ca28ba2e97c458cb5169196a6d293ae86aa81f4503d931", func := "constraint/constraintlaw34.CompileImages", spec := "compileImages", inPlace := ["internal/bytealg.IndexByteString", "internal/bytealg.IndexString"], unfollowed := true, recurses := true, named := ["internal/bytealg.MaxLen"], loops := true, plainKeys := false, apart := false, narrowed := true }
def CompileImagesUptoSaid : Prop := compileImagesUptoRow.holds Tryz.pinned (OpenSpec.upto compileImagesSpec)

end Rows
end Go.Proofs.YtabefplkfkfdfaaGreat
