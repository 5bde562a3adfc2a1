/- A part of the proof, no condition: a call of plain values, in the words of a row. -/
import Derived.Test.YtpfogalbnijcoaaGreatRuU
import Derived.Test.YtpfogalbnijcoaaGreatRows
import Derived.LaidMore
import Derived.Stop.Joined
import Derived.SevenTiedAt
import Derived.Lib.SmallJoins
import Derived.WideKeyArgs
import Derived.Below
import Derived.Test.YtpfogalbnijcoaaGreatRgR
open Go.Proofs.Tryz renaming prog->ar1
open Go.DataW renaming TrodAll->aw6
open Option renaming none->ah
open Bool renaming true->ab,false->af
set_option linter.all false
namespace Go.Proofs.YtpfogalbnijcoaaGreat
open Go Go.ChangeShapes Go.WideShapes Go.ChangeAt Go.RowKit
theorem own:ownKnob ar1.godebug=ah:=by as_aux_lemma=>kernel_rfl
theorem laidOut:laidOutB ar1=ab:=by as_aux_lemma=>kernel_rfl
theorem WV:ar1.readableRec 29=ab:=by as_aux_lemma=>kernel_rfl
theorem aeU:29<ar1.types.size:=of_decide_eq_true (by as_aux_lemma=>kernel_rfl)
theorem aeV{f:FuncId}{xs:List Ev.IV}{us:List Value}{W:World}(hf:f<ar1.funcs.size)(h:CC f af xs (Ev.iB ab))(hr:Ev.aC (Ev.ew (Ev.allM W)) xs us):
 Calls ar1 f us.toArray W λe W'=>e=.returned (.bool ab)/\Below W.heap.size W W':=by
 refine callsIn_wide.1 (((h.1 hf).1 (Ev.allM W) W us Ev.AQ hr).mono λe W' hR=>?_);cases e with
 |returned u=>
  obtain⟨_,M',_,_,_,h4,h5,h6,h7,h8,h9⟩:=hR
  have hu:u=.bool ab:=by
   generalize hx:Ev.IV.raw (.bool ab)=x at h4;cases h4<;>first|(cases hx;rfl)|cases hx
  rw[hu];exact⟨rfl,h5,h6,h7,h8,h9⟩
 |panicked ch=>exact absurd hR.1 (by simp)
 |outgrown=>exact hR.elim
theorem WW{H:Type}{enc:TypeId×Value->H}{P:Program}{f:Func}{s:ChangeSpec}{apart fresh handsOn:Bool}{W W':World}{args:Array Value}{v:Value}{ds gs:List (DataW H)}{before pa pv:List MemPlace}
 (hW:DataW.Whole enc P f.params.toList s.vars apart W args.toList ds gs before)
 (er:∀(b:Nat) (sp:Nat->Bool) (hd:Bool),aw6 enc P W' b sp hd f.resultTypes.toList (v.resultList f.resultTypes.size) (s.fn H (ds++gs)).results [])
 (br:∀sp:Nat->Bool,(∀p∈before,sp p.block=ab)->aw6 enc P W' 0 sp ab f.params.toList args.toList (s.fn H (ds++gs)).args pa)
 (alU:∀sp:Nat->Bool,(∀p∈before,sp p.block=ab)->DataW.TrodVars enc P W' sp s.vars (s.fn H (ds++gs)).vars pv)
 (Gx:before=pa++pv)(hk:W.keptBut W' (·∈before)):s.post enc P f apart fresh handsOn af W args v W':=by
 have hold:∀p∈before,(λb=>decide (b<W.heap.size)) p.block=ab:=λp hp=>by simpa using hW.lt p hp
 refine⟨ds,gs,before,[],pa,pv,hW,er _ _ _,br _ hold,alU _ hold,World.keptBut_mono (λp hp=>⟨hp,?_⟩) hk,λh=>by cases h⟩;rw[Gx,List.mem_append]at hp;exact Or.inr hp
end Go.Proofs.YtpfogalbnijcoaaGreat
namespace Go.Proofs.YtpfogalbnijcoaaGreat
open Go Go.ChangeShapes Go.WideShapes Go.ChangeAt Go.RowKit
theorem WX:ar1.readableRec 25=ab:=by as_aux_lemma=>kernel_rfl
theorem aeW:25<ar1.types.size:=of_decide_eq_true (by as_aux_lemma=>kernel_rfl)
end Go.Proofs.YtpfogalbnijcoaaGreat
