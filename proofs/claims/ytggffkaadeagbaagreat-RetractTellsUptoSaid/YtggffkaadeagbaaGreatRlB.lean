/- The row of RetractTells holds: whatever the program, the memory, the constraints, it returns true. The conditions of the row alone. -/
import Derived.Test.YtggffkaadeagbaaGreatRlA
open Go.Proofs.YtggffkaadeagbaaGreat.Tryz renaming pinned->awp
open Go.Proofs.YtggffkaadeagbaaGreat.Rows renaming retractTellsUptoRow->aui
open Go.Proofs.Tryz renaming f4->awl
open Go.Proofs.YtggffkaadeagbaaGreat.Rows.OpenSpec renaming upto->auJ
open Go.OpenClaim renaming holds_of_cond->ayF
open Option renaming some->aa
open Bool renaming true->ab
set_option linter.all false
namespace Go.Proofs.YtggffkaadeagbaaGreat
open Go Go.ChangeShapes Go.WideShapes Go.ChangeAt Go.RowKit
theorem ajO:awp.checked.prog.funcNamed aui.func=aa 4:=by kernel_rfl
set_option maxHeartbeats 8000000 in
theorem af_:joinedFacts awp.checked.prog 4 awl (auJ Rows.retractTellsSpec).bare aui=ab:=by
 simp only[joinedFacts,Bool.and_eq_true]
 repeat' apply And.intro
 all_goals (as_aux_lemma=>kernel_rfl)
theorem aoe:awl.isInstance awp.checked.prog aui.origin aui.targs:=of_decide_eq_true (by kernel_rfl)
theorem aof:awl.isWrapper awp.checked.prog aui.wrapper aui.mainSum:=by
 unfold Func.isWrapper;rw[if_neg (by decide+kernel)];exact⟨rfl,rfl⟩
set_option maxHeartbeats 8000000 in
theorem retractTells_holds:Rows.RetractTellsUptoSaid:=
 ayF 4 awl rfl rfl rfl rfl rfl rfl rfl ⟨rfl,rfl,rfl,rfl,rfl⟩ rfl rfl rfl rfl rfl ajO Tryz.func4 af_ aoe aof
  (λos started H enc _ F=>af9 os started H enc F)
end Go.Proofs.YtggffkaadeagbaaGreat
