/- The row of AuditMemories holds: where what it reads is of bulk at most 1048576, it returns true. The conditions of the row alone. -/
import Derived.Test.YtpfogalbnijcoaaGreatRkV
open Go.Proofs.YtpfogalbnijcoaaGreat.Tryz renaming pinned->avF
open Go.Proofs.YtpfogalbnijcoaaGreat.Rows renaming auditMemoriesUptoRow->att
open Go.Proofs.Tryz renaming f3->avB
open Go.Proofs.YtpfogalbnijcoaaGreat.Rows.OpenSpec renaming upto->atX
open Go.OpenClaim renaming holds_of_cond->axY
open Option renaming some->aa
open Bool renaming true->ab
set_option linter.all false
namespace Go.Proofs.YtpfogalbnijcoaaGreat
open Go Go.ChangeShapes Go.WideShapes Go.ChangeAt Go.RowKit
theorem ai6:avF.checked.prog.funcNamed att.func=aa 3:=by kernel_rfl
set_option maxHeartbeats 8000000 in
theorem aft:joinedFacts avF.checked.prog 3 avB (atX Rows.auditMemoriesSpec).bare att=ab:=by
 simp only[joinedFacts,Bool.and_eq_true]
 repeat' apply And.intro
 all_goals (as_aux_lemma=>kernel_rfl)
theorem anh:avB.isInstance avF.checked.prog att.origin att.targs:=of_decide_eq_true (by kernel_rfl)
theorem ani:avB.isWrapper avF.checked.prog att.wrapper att.mainSum:=by
 unfold Func.isWrapper;rw[if_neg (by decide+kernel)];exact⟨rfl,rfl⟩
set_option maxHeartbeats 8000000 in
theorem auditMemories_holds:Rows.AuditMemoriesUptoSaid:=
 axY 3 avB rfl rfl rfl rfl rfl rfl rfl ⟨rfl,rfl,rfl,rfl,rfl⟩ rfl rfl rfl rfl rfl ai6 Tryz.func3 aft anh ani
  (λos started H enc _ F=>acA os started H enc F)
end Go.Proofs.YtpfogalbnijcoaaGreat
