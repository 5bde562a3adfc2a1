/- The check of the one program that the examples use: by a closed run. No condition. -/
import Derived.Test.YtcapkpeaofppnaaGreatDoorProg
import Derived.Test.YtcapkpeaofppnaaGreatDoorEvHook
import Derived.KernelRfl
namespace Go.Proofs.YtcapkpeaofppnaaGreatDoor
open Go Go.RowKit Go.Ev

theorem mixed : Tryz.prog.follows .mixedOrders = true := by as_aux_lemma => kernel_rfl
/-- The program of the examples, as a plain value. -/
def theP : IV := (.agg [(.tree 2 [(.agg [(.raw (.string ⟨#[112]⟩)), (.raw (.int .i64 1))]), (.agg [(.raw (.string ⟨#[113]⟩)), (.raw (.int .i64 1))])]), (.tree 6 [(.agg [(.raw (.string ⟨#[]⟩)), (.tree 1 []), (.tree 2 [(.agg [(.raw (.string ⟨#[112]⟩)), (.tree 4 [(.agg [(.raw (.int .i64 1)), (.raw (.int .i64 0)), (.raw (.string ⟨#[]⟩)), (.tree 1 [])])])])]), (.tree 1 []), (.tree 3 [(.agg [(.raw (.int .i64 0)), (.raw (.string ⟨#[113]⟩)), (.tree 4 [(.agg [(.raw (.int .i64 1)), (.raw (.int .i64 0)), (.raw (.string ⟨#[]⟩)), (.tree 1 [])])])])]), (.raw (.int .i64 1))])])])
def theZ : IV := (.tup [(.raw (.int .i64 0)), (.raw (.int .i64 0))])
set_option maxRecDepth 100000 in
theorem check_says : comes ((evH Tryz.prog (fun _ => []) 3000).call 0 28 [theP] ⟨0, .lf⟩) theZ = true := by as_aux_lemma => kernel_rfl
theorem check_ok : PCall Tryz.prog false true 28 [theP] theZ := PCall.run mixed (fun _ _ _ h => by cases h) check_says

end Go.Proofs.YtcapkpeaofppnaaGreatDoor
