/- The row of RetractChecks holds: whatever the program and the memory, it returns true. The conditions of the row alone. -/
import Derived.Test.YtggffkaadeagbaaGreatRkV
open Go.Proofs.YtggffkaadeagbaaGreat.Tryz renaming pinned->auj
open Go.Proofs.YtggffkaadeagbaaGreat.Rows renaming retractChecksUptoRow->ar2
open Go.Proofs.Tryz renaming f3->auf
open Go.Proofs.YtggffkaadeagbaaGreat.Rows.OpenSpec renaming upto->asx
open Go.OpenClaim renaming holds_of_cond->awB
set_option linter.all false
namespace Go.Proofs.YtggffkaadeagbaaGreat
open Go Go.ChangeShapes Go.WideShapes Go.ChangeAt Go.RowKit
theorem ah6:auj.checked.prog.funcNamed ar2.func=some 3:=by kernel_rfl
set_option maxHeartbeats 8000000 in
theorem aeu:joinedFacts auj.checked.prog 3 auf (asx Rows.retractChecksSpec).bare ar2=true:=by
 simp only[joinedFacts,Bool.and_eq_true]
 repeat' apply And.intro
 all_goals (as_aux_lemma=>kernel_rfl)
theorem amf:auf.isInstance auj.checked.prog ar2.origin ar2.targs:=of_decide_eq_true (by kernel_rfl)
theorem amg:auf.isWrapper auj.checked.prog ar2.wrapper ar2.mainSum:=by
 unfold Func.isWrapper;rw[if_neg (by decide+kernel)];exact⟨rfl,rfl⟩
set_option maxHeartbeats 8000000 in
theorem retractChecks_holds:Rows.RetractChecksUptoSaid:=
 awB 3 auf rfl rfl rfl rfl rfl rfl rfl ⟨rfl,rfl,rfl,rfl,rfl⟩ rfl rfl rfl rfl rfl ah6 Tryz.func3 aeu amf amg
  (fun os started H enc _ F=>aet os started H enc F)
end Go.Proofs.YtggffkaadeagbaaGreat
