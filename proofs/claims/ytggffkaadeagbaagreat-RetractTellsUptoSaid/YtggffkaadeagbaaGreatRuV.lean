/- A part of the proof, no condition: a call of plain values, in the words of a row. -/
import Derived.Test.YtggffkaadeagbaaGreatRuU
import Derived.Test.YtggffkaadeagbaaGreatRows
import Derived.LaidMore
import Derived.Stop.Joined
import Derived.SevenTiedAt
import Derived.Lib.SmallJoins
import Derived.WideKeyArgs
import Derived.Below
import Derived.Test.YtggffkaadeagbaaGreatRgR
open Go.Proofs.Tryz renaming prog->asK
open Go.DataW renaming TrodAll->axO
open Option renaming none->ah
open Bool renaming true->ab,false->af
set_option linter.all false
namespace Go.Proofs.YtggffkaadeagbaaGreat
open Go Go.ChangeShapes Go.WideShapes Go.ChangeAt Go.RowKit
theorem own:ownKnob asK.godebug=ah:=by as_aux_lemma=>kernel_rfl
theorem laidOut:laidOutB asK=ab:=by as_aux_lemma=>kernel_rfl
theorem XC:asK.readableRec 29=ab:=by as_aux_lemma=>kernel_rfl
theorem afD:29<asK.types.size:=of_decide_eq_true (by as_aux_lemma=>kernel_rfl)
theorem afE{f:FuncId}{xs:List Ev.IV}{us:List Value}{W:World}(hf:f<asK.funcs.size)(h:CC f af xs (Ev.iB ab))(hr:Ev.aB (Ev.eH (Ev.allM W)) xs us):
 Calls asK f us.toArray W λe W'=>e=.returned (.bool ab)/\Below W.heap.size W W':=by
 refine callsIn_wide.1 (((h.1 hf).1 (Ev.allM W) W us Ev.AW hr).mono λe W' hR=>?_);cases e with
 |returned u=>
  obtain⟨_,M',_,_,_,h4,h5,h6,h7,h8,h9⟩:=hR
  have hu:u=.bool ab:=by
   generalize hx:Ev.IV.raw (.bool ab)=x at h4;cases h4<;>first|(cases hx;rfl)|cases hx
  rw[hu];exact⟨rfl,h5,h6,h7,h8,h9⟩
 |panicked ch=>exact absurd hR.1 (by simp)
 |outgrown=>exact hR.elim
theorem XD{H:Type}{enc:TypeId×Value->H}{P:Program}{f:Func}{s:ChangeSpec}{apart fresh handsOn:Bool}{W W':World}{args:Array Value}{v:Value}{ds gs:List (DataW H)}{before pa pv:List MemPlace}
 (hW:DataW.Whole enc P f.params.toList s.vars apart W args.toList ds gs before)
 (eE:∀(b:Nat) (sp:Nat->Bool) (hd:Bool),axO enc P W' b sp hd f.resultTypes.toList (v.resultList f.resultTypes.size) (s.fn H (ds++gs)).results [])
 (bp:∀sp:Nat->Bool,(∀p∈before,sp p.block=ab)->axO enc P W' 0 sp ab f.params.toList args.toList (s.fn H (ds++gs)).args pa)
 (amU:∀sp:Nat->Bool,(∀p∈before,sp p.block=ab)->DataW.TrodVars enc P W' sp s.vars (s.fn H (ds++gs)).vars pv)
 (GW:before=pa++pv)(hk:W.keptBut W' (·∈before)):s.post enc P f apart fresh handsOn af W args v W':=by
 have hold:∀p∈before,(λb=>decide (b<W.heap.size)) p.block=ab:=λp hp=>by simpa using hW.lt p hp
 refine⟨ds,gs,before,[],pa,pv,hW,eE _ _ _,bp _ hold,amU _ hold,World.keptBut_mono (λp hp=>⟨hp,?_⟩) hk,λh=>by cases h⟩;rw[GW,List.mem_append]at hp;exact Or.inr hp
end Go.Proofs.YtggffkaadeagbaaGreat
namespace Go.Proofs.YtggffkaadeagbaaGreat
open Go Go.ChangeShapes Go.WideShapes Go.ChangeAt Go.RowKit
theorem XE:asK.readableRec 25=ab:=by as_aux_lemma=>kernel_rfl
theorem afF:25<asK.types.size:=of_decide_eq_true (by as_aux_lemma=>kernel_rfl)
end Go.Proofs.YtggffkaadeagbaaGreat
