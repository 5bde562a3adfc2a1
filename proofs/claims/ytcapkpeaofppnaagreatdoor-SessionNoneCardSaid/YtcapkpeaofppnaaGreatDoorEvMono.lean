/- A part of the verified evaluator of closed runs (EvMono): lemmas and definitions over the model, without conditions of their own. -/
import Derived.Test.YtcapkpeaofppnaaGreatDoorEvOps11
namespace Go.Ev
variable {P : Program} {ro : Nat} {σ : St} {ρ : Operand → IV} {o : Oper} {out : OpOut}

/-- The store has not shrunk. -/
def Grown (σ : St) : OpOut → Prop
  | .val _ σ' => σ.n ≤ σ'.n
  | _ => True

theorem grown_ret {v : IV} {σ' : St} (hle : σ.n ≤ σ'.n) (h : ret v σ' = some out) : Grown σ out := by rw [ret_val h]; exact hle
theorem grown_same {v : IV} (h : ret v σ = some out) : Grown σ out := grown_ret (Nat.le_refl σ.n) h
theorem grown_put {v : IV} {id : Nat} {ob : Ob} (h : ret v (σ.put id ob) = some out) : Grown σ out := grown_ret (σ' := σ.put id ob) (Nat.le_refl σ.n) h
theorem grown_add {v : IV} {ob : Ob} (h : ret v (σ.add ob) = some out) : Grown σ out := grown_ret (Nat.le_succ _) h

theorem mapSet_n {kt : TypeId} {m k v : IV} {σ' : St} (h : mapSet P ro kt m k v σ = some σ') : σ'.n = σ.n := by
  unfold mapSet at h
  repeat' split at h
  all_goals first | (cases h; done) | (cases h; rfl)

theorem callee_grown {f : IV} {args : List IV} (h : calleeI P f args = some out) : Grown σ out := by
  unfold calleeI at h
  repeat' split at h
  all_goals first | (cases h; done) | (cases h; exact trivial)

theorem invoke_grown {x : IV} {name : String} {args : List IV} (h : invokeI P x name args = some out) : Grown σ out := by
  unfold invokeI at h
  repeat' split at h
  all_goals first | (cases h; done) | (cases h; exact trivial)

theorem append_grown {argTypes : Array TypeId} {s x : IV} (h : appendI P ro argTypes s x σ = some out) : Grown σ out := by
  have hn : ∀ {size sLen n : Nat} {new : List IV} {s : IV}, appendNew size sLen n new s σ = some out → Grown σ out := by
    intro size sLen n new s h
    unfold appendNew at h
    split at h
    · split at h
      · exact grown_add h
      · cases h
    · cases h
  unfold appendI at h
  split at h
  · split at h
    · split at h
      · split at h
        · cases h
        · split at h
          · split at h
            · unfold appendTo at h
              repeat' split at h
              all_goals first | exact grown_same h | exact grown_put h | exact grown_ret (by exact Nat.le_refl σ.n) h | exact hn h | cases h
            · cases h
          · cases h
      · cases h
    · cases h
  · cases h

theorem builtin_grown {b : Builtin} {argTypes : Array TypeId} {args : List IV} (h : builtinI P ro b argTypes args σ = some out) : Grown σ out := by
  unfold builtinI at h
  split at h
  · split at h
    · exact append_grown h
    · cases h
  · split at h
    · rw [Option.map_eq_some_iff] at h; obtain ⟨z, hz, rfl⟩ := h; exact Nat.le_refl _
    · cases h
  · split at h
    · rw [Option.map_eq_some_iff] at h; obtain ⟨z, hz, rfl⟩ := h; exact Nat.le_refl _
    · cases h
  · rw [Option.map_eq_some_iff] at h; obtain ⟨z, hz, rfl⟩ := h; exact Nat.le_refl _
  · rw [Option.map_eq_some_iff] at h; obtain ⟨z, hz, rfl⟩ := h; exact Nat.le_refl _
  · split at h
    · unfold deleteB at h
      repeat' split at h
      all_goals first | exact grown_put h | cases h
    · cases h
  · split at h
    · unfold clearB at h
      repeat' split at h
      all_goals first | exact grown_same h | exact grown_put h | cases h
    · cases h
  · split at h
    · unfold copyB at h
      repeat' split at h
      all_goals first | exact grown_same h | exact grown_put h | cases h
    · cases h
  · cases h

theorem op_grown (h : evOp P ro ρ o σ = some out) : Grown σ out := by
  unfold evOp at h
  cases ho : o.op <;> rw [ho] at h <;> (try dsimp only at h)
  case call c =>
    split at h
    · exact builtin_grown h
    · exact callee_grown h
    · exact invoke_grown h
  case defer c =>
    split at h
    · split at h
      · cases h; exact trivial
      · cases h
    · cases h
  case mapUpdate =>
    split at h
    · split at h
      · rename_i σ' hs
        exact grown_ret (Nat.le_of_eq (mapSet_n hs).symm) h
      · cases h
    · cases h
  case insert =>
    split at h
    · split at h
      · rename_i σ' hs
        exact grown_ret (Nat.le_of_eq (mapSet_n hs).symm) h
      · cases h
    · cases h
  all_goals (repeat' split at h)
  all_goals first | exact grown_same h | exact grown_put h | exact grown_add h | (cases h; done) | (cases h; exact trivial)
end Go.Ev
