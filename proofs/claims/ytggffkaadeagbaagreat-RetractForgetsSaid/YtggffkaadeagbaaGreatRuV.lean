/- A part of the proof, no condition: a call of plain values, in the words of a row. -/
import Derived.Test.YtggffkaadeagbaaGreatRuU
import Derived.Test.YtggffkaadeagbaaGreatRows
import Derived.LaidMore
import Derived.Stop.Joined
import Derived.SevenTiedAt
import Derived.Lib.SmallJoins
import Derived.WideKeyArgs
import Derived.Below
import Derived.Test.YtggffkaadeagbaaGreatRgR
open Go.Proofs.Tryz renaming prog->ar3
open Go.DataW renaming TrodAll->aw4
set_option linter.all false
namespace Go.Proofs.YtggffkaadeagbaaGreat
open Go Go.ChangeShapes Go.WideShapes Go.ChangeAt Go.RowKit
theorem own:ownKnob ar3.godebug=none:=by as_aux_lemma=>kernel_rfl
theorem laidOut:laidOutB ar3=true:=by as_aux_lemma=>kernel_rfl
theorem VS:ar3.readableRec 29=true:=by as_aux_lemma=>kernel_rfl
theorem aek:29<ar3.types.size:=of_decide_eq_true (by as_aux_lemma=>kernel_rfl)
theorem ael{f:FuncId}{xs:List Ev.IV}{us:List Value}{W:World}(hf:f<ar3.funcs.size)(h:CC f false xs (Ev.iB true))(hr:Ev.ax (Ev.eW (Ev.allM W)) xs us):
 Calls ar3 f us.toArray W fun e W'=>e=.returned (.bool true)∧Below W.heap.size W W':=by
 refine callsIn_wide.1 (((h.1 hf).1 (Ev.allM W) W us Ev.An hr).mono fun e W' hR=>?_);cases e with
 |returned u=>
  obtain⟨_,M',_,_,_,h4,h5,h6,h7,h8,h9⟩:=hR
  have hu:u=.bool true:=by
   generalize hx:Ev.IV.raw (.bool true)=x at h4;cases h4<;>first|(cases hx;rfl)|cases hx
  rw[hu];exact⟨rfl,h5,h6,h7,h8,h9⟩
 |panicked ch=>exact absurd hR.1 (by simp)
 |outgrown=>exact hR.elim
theorem VT{H:Type}{enc:TypeId×Value→H}{P:Program}{f:Func}{s:ChangeSpec}{apart fresh handsOn:Bool}{W W':World}{args:Array Value}{v:Value}{ds gs:List (DataW H)}{before pa pv:List MemPlace}
 (hW:DataW.Whole enc P f.params.toList s.vars apart W args.toList ds gs before)
 (eo:∀(b:Nat) (sp:Nat→Bool) (hd:Bool),aw4 enc P W' b sp hd f.resultTypes.toList (v.resultList f.resultTypes.size) (s.fn H (ds++gs)).results [])
 (bg:∀sp:Nat→Bool,(∀p∈before,sp p.block=true)→aw4 enc P W' 0 sp true f.params.toList args.toList (s.fn H (ds++gs)).args pa)
 (amj:∀sp:Nat→Bool,(∀p∈before,sp p.block=true)→DataW.TrodVars enc P W' sp s.vars (s.fn H (ds++gs)).vars pv)
 (RJ:before=pa++pv)(hk:W.keptBut W' (·∈before)):s.post enc P f apart fresh handsOn false W args v W':=by
 have hold:∀p∈before,(fun b=>decide (b<W.heap.size)) p.block=true:=fun p hp=>by simpa using hW.lt p hp
 refine⟨ds,gs,before,[],pa,pv,hW,eo _ _ _,bg _ hold,amj _ hold,World.keptBut_mono (fun p hp=>⟨hp,?_⟩) hk,fun h=>by cases h⟩;rw[RJ,List.mem_append]at hp;exact Or.inr hp
end Go.Proofs.YtggffkaadeagbaaGreat
namespace Go.Proofs.YtggffkaadeagbaaGreat
open Go Go.ChangeShapes Go.WideShapes Go.ChangeAt Go.RowKit
theorem VU:ar3.readableRec 25=true:=by as_aux_lemma=>kernel_rfl
theorem aem:25<ar3.types.size:=of_decide_eq_true (by as_aux_lemma=>kernel_rfl)
end Go.Proofs.YtggffkaadeagbaaGreat
