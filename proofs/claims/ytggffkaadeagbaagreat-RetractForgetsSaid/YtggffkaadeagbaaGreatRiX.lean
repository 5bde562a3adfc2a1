/- The row of RetractForgets holds: whatever the program, the memory, the constraints, it returns true. The conditions of the row alone. -/
import Derived.Test.YtggffkaadeagbaaGreatRiW
open Go.Proofs.YtggffkaadeagbaaGreat.Tryz renaming pinned->avH
open Go.Proofs.YtggffkaadeagbaaGreat.Rows renaming retractForgetsRow->atH
open Go.Proofs.Tryz renaming f8->avC
open Go.OpenClaim renaming holds_of_wide->ax1
set_option linter.all false
namespace Go.Proofs.YtggffkaadeagbaaGreat
open Go Go.ChangeShapes Go.WideShapes Go.ChangeAt Go.RowKit
theorem aiL:avH.checked.prog.funcNamed atH.func=some 8:=by kernel_rfl
set_option maxHeartbeats 8000000 in
theorem aeI:joinedFacts avH.checked.prog 8 avC Rows.retractForgetsSpec atH=true:=by
 simp only[joinedFacts,Bool.and_eq_true]
 repeat' apply And.intro
 all_goals (as_aux_lemma=>kernel_rfl)
theorem ank:avC.isInstance avH.checked.prog atH.origin atH.targs:=of_decide_eq_true (by kernel_rfl)
theorem anl:avC.isWrapper avH.checked.prog atH.wrapper atH.mainSum:=by
 unfold Func.isWrapper;rw[if_neg (by decide+kernel)];exact⟨rfl,rfl⟩
set_option maxHeartbeats 8000000 in
theorem retractForgets_holds:Rows.RetractForgetsSaid:=
 ax1 8 avC rfl rfl rfl rfl rfl rfl rfl ⟨rfl,rfl,rfl,rfl,rfl⟩ rfl rfl rfl rfl rfl aiL Tryz.func8 aeI ank anl
  (fun os started H enc _=>aeH os started H enc)
end Go.Proofs.YtggffkaadeagbaaGreat
