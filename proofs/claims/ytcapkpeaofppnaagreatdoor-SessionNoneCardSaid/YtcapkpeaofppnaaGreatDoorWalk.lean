/- The closed run of SessionNone: whatever the argument, the call returns true and leaves all that was there as it was. No condition. -/
import Derived.Test.YtcapkpeaofppnaaGreatDoorProg
import Derived.Test.YtcapkpeaofppnaaGreatDoorCheck
import Derived.KernelRfl
namespace Go.Proofs.YtcapkpeaofppnaaGreatDoor
open Go Go.RowKit Go.Ev

def hooks : Hk := fun f => match Nat.beq f 28 with
  | true => [([theP], theZ)]
  | false => []
theorem hooks_ok (f : FuncId) (xs : List IV) (z : IV) (h : (xs, z) ∈ hooks f) : PCall Tryz.prog false true f xs z := by
  unfold hooks at h
  split at h
  · rename_i hf
    have hf' := Nat.eq_of_beq_eq_true hf
    subst hf'
    simp only [List.mem_singleton, Prod.mk.injEq] at h
    obtain ⟨rfl, rfl⟩ := h
    exact check_ok
  · cases h
set_option maxRecDepth 100000 in
theorem run_says (k m : Int) (a : Option Addr) (l c : Nat) : says ((evH Tryz.prog hooks 3000).call 0 3 [.agg [.raw (.int .i64 k), .raw (.int .i64 m), .raw (.slice a l c)]] ⟨0, .lf⟩) = true := by as_aux_lemma => kernel_rfl
theorem walk (k m : Int) (a : Option Addr) (l c : Nat) (w : World) : Calls Tryz.prog 3 #[.agg #[.int .i64 k, .int .i64 m, .slice a l c]] w fun e w' => e = .returned (.bool true) ∧ Below w.heap.size w w' :=
  evH_trueL mixed hooks_ok (us := [.agg #[.int .i64 k, .int .i64 m, .slice a l c]]) (rvl_agg [.int .i64 k, .int .i64 m, .slice a l c]) (run_says k m a l c) w

end Go.Proofs.YtcapkpeaofppnaaGreatDoor
