/- A part of the verified evaluator of closed runs (EvTop): lemmas and definitions over the model, without conditions of their own. -/
import Derived.Test.YtcapkpeaofppnaaGreatDoorEvDraw7
import Derived.RowKit3
import Derived.Below
namespace Go.Ev
open Go.RowKit
variable {P : Program}

theorem inv_none {N : Nat} (w : World) : Inv N ⟨fun _ _ => none, fun _ => none⟩ ⟨0, .lf⟩ w :=
  ⟨fun _ _ h => (by cases h), fun _ _ _ h => (by cases h), fun _ _ h => (by obtain ⟨_, _, h, _⟩ := h; cases h), fun _ _ _ _ => rfl, fun _ _ _ h => (by obtain ⟨_, _, h, _⟩ := h; cases h), fun _ _ h => (by cases h), fun _ _ => rfl⟩

/-- What a closed run says of the model's. -/
def says (r : Option (IV × St)) : Bool :=
  match r with
  | some (.raw (.bool true), _) => true
  | _ => false

theorem ev_trueL (hmix : P.follows .mixedOrders = true) {n : Nat} {f : FuncId} {args : List IV} {us : List Value} (hr : RvL ⟨fun _ _ => none, fun _ => none⟩ args us) (h : says ((ev P n).call 0 f args ⟨0, .lf⟩) = true) (w : World) :
    Calls P f us.toArray w fun e w' => e = .returned (.bool true) ∧ Below w.heap.size w w' := by
  unfold says at h
  split at h
  · rename_i σ' hc
    refine callsIn_wide.1 (((ev_sound hmix n).call σ'.n 0 f _ _ _ _ hc (Nat.le_refl _) ⟨fun _ _ => none, fun _ => none⟩ us w (inv_none w) hr).mono fun e w' hR => ?_)
    cases e with
    | returned u =>
      obtain ⟨ι', h1, h2, h3⟩ := hR
      have hu : u = .bool true := by generalize hx : IV.raw (.bool true) = x at h1; cases h1 <;> first | (cases hx; rfl) | cases hx
      rw [hu]
      exact ⟨rfl, h3.os, h3.tape, h3.output, h3.size, fun b hb => h3.frame b hb fun id ho => (by obtain ⟨_, _, ho, _⟩ := ho; cases ho)⟩
    | panicked chain => exact hR.elim
    | outgrown => exact hR.elim
  · cases h
theorem ev_true (hmix : P.follows .mixedOrders = true) {n : Nat} {f : FuncId} {us : List Value} (h : says ((ev P n).call 0 f (us.map .raw) ⟨0, .lf⟩) = true) (w : World) :
    Calls P f us.toArray w fun e w' => e = .returned (.bool true) ∧ Below w.heap.size w w' := ev_trueL hmix (RvL.raws us) h w
/-- A struct of plain cells. -/
theorem rvl_agg (vs : List Value) : RvL ⟨fun _ _ => none, fun _ => none⟩ [.agg (vs.map .raw)] [.agg vs.toArray] := RvL.cons (.agg _ _ (by simp) (RvL.raws vs).2) RvL.nil
end Go.Ev
