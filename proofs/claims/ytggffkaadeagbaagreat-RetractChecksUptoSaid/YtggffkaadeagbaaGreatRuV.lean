/- A part of the proof, no condition: a call of plain values, in the words of a row. -/
import Derived.Test.YtggffkaadeagbaaGreatRuU
import Derived.Test.YtggffkaadeagbaaGreatRows
import Derived.LaidMore
import Derived.Stop.Joined
import Derived.SevenTiedAt
import Derived.Lib.SmallJoins
import Derived.WideKeyArgs
import Derived.Below
import Derived.Test.YtggffkaadeagbaaGreatRgR
open Go.Proofs.Tryz renaming prog->aqD
open Go.DataW renaming TrodAll->avJ
set_option linter.all false
namespace Go.Proofs.YtggffkaadeagbaaGreat
open Go Go.ChangeShapes Go.WideShapes Go.ChangeAt Go.RowKit
theorem own:ownKnob aqD.godebug=none:=by as_aux_lemma=>kernel_rfl
theorem laidOut:laidOutB aqD=true:=by as_aux_lemma=>kernel_rfl
theorem V3:aqD.readableRec 29=true:=by as_aux_lemma=>kernel_rfl
theorem ad0:29<aqD.types.size:=of_decide_eq_true (by as_aux_lemma=>kernel_rfl)
theorem ad1{f:FuncId}{xs:List Ev.IV}{us:List Value}{W:World}(hf:f<aqD.funcs.size)(h:CC f false xs (Ev.iB true))(hr:Ev.ax (Ev.eo (Ev.allM W)) xs us):
 Calls aqD f us.toArray W fun e W'=>e=.returned (.bool true)∧Below W.heap.size W W':=by
 refine callsIn_wide.1 (((h.1 hf).1 (Ev.allM W) W us Ev.zO hr).mono fun e W' hR=>?_);cases e with
 |returned u=>
  obtain⟨_,M',_,_,_,h4,h5,h6,h7,h8,h9⟩:=hR
  have hu:u=.bool true:=by
   generalize hx:Ev.IV.raw (.bool true)=x at h4;cases h4<;>first|(cases hx;rfl)|cases hx
  rw[hu];exact⟨rfl,h5,h6,h7,h8,h9⟩
 |panicked ch=>exact absurd hR.1 (by simp)
 |outgrown=>exact hR.elim
theorem V4{H:Type}{enc:TypeId×Value→H}{P:Program}{f:Func}{s:ChangeSpec}{apart fresh handsOn:Bool}{W W':World}{args:Array Value}{v:Value}{ds gs:List (DataW H)}{before pa pv:List MemPlace}
 (hW:DataW.Whole enc P f.params.toList s.vars apart W args.toList ds gs before)
 (ej:∀(b:Nat) (sp:Nat→Bool) (hd:Bool),avJ enc P W' b sp hd f.resultTypes.toList (v.resultList f.resultTypes.size) (s.fn H (ds++gs)).results [])
 (bc:∀sp:Nat→Bool,(∀p∈before,sp p.block=true)→avJ enc P W' 0 sp true f.params.toList args.toList (s.fn H (ds++gs)).args pa)
 (ak5:∀sp:Nat→Bool,(∀p∈before,sp p.block=true)→DataW.TrodVars enc P W' sp s.vars (s.fn H (ds++gs)).vars pv)
 (FP:before=pa++pv)(hk:W.keptBut W' (·∈before)):s.post enc P f apart fresh handsOn false W args v W':=by
 have hold:∀p∈before,(fun b=>decide (b<W.heap.size)) p.block=true:=fun p hp=>by simpa using hW.lt p hp
 refine⟨ds,gs,before,[],pa,pv,hW,ej _ _ _,bc _ hold,ak5 _ hold,World.keptBut_mono (fun p hp=>⟨hp,?_⟩) hk,fun h=>by cases h⟩;rw[FP,List.mem_append]at hp;exact Or.inr hp
end Go.Proofs.YtggffkaadeagbaaGreat
namespace Go.Proofs.YtggffkaadeagbaaGreat
open Go Go.ChangeShapes Go.WideShapes Go.ChangeAt Go.RowKit
theorem V5:aqD.readableRec 25=true:=by as_aux_lemma=>kernel_rfl
theorem ad2:25<aqD.types.size:=of_decide_eq_true (by as_aux_lemma=>kernel_rfl)
end Go.Proofs.YtggffkaadeagbaaGreat
