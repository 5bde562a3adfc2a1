/- A part of the verified evaluator of closed runs (EvHook): lemmas and definitions over the model, without conditions of their own. -/
import Derived.Test.YtcapkpeaofppnaaGreatDoorEvPure
import Derived.Test.YtcapkpeaofppnaaGreatDoorEvTop
/-
The evaluator with contracts: a call of a listed function, at arguments that read as listed, is not run.
-/
namespace Go.Ev
open Go.RowKit
variable {P : Program}
/-- Plain values, compared. -/
def rawEq : Value → Value → Bool
  | .int k n, .int k' n' => decide (k = k') && decide (n = n')
  | .bool a, .bool b => a == b
  | .string a, .string b => decide (a = b)
  | _, _ => false
theorem rawEq_eq {a b : Value} (h : rawEq a b = true) : a = b := by
  unfold rawEq at h
  split at h
  · simp only [Bool.and_eq_true, decide_eq_true_eq] at h; rw [h.1, h.2]
  · rw [beq_iff_eq] at h; rw [h]
  · rw [decide_eq_true_eq] at h; rw [h]
  · cases h

/-- Two lists, compared. -/
def all2 (p : IV → IV → Bool) : List IV → List IV → Bool
  | [], [] => true
  | a :: as, b :: bs => p a b && all2 p as bs
  | _, _ => false
theorem all2_sound {p : IV → IV → Bool} : ∀ {as bs : List IV}, all2 p as bs = true → as.length = bs.length ∧ ∀ (i : Nat) a b, as[i]? = some a → bs[i]? = some b → p a b = true
  | [], [], _ => ⟨rfl, fun i a b h => by simp at h⟩
  | a :: as, b :: bs, h => by
    simp only [all2, Bool.and_eq_true] at h
    obtain ⟨h1, h2⟩ := all2_sound h.2
    refine ⟨by simp [h1], fun i => ?_⟩
    cases i with
    | zero => intro a' b' e1 e2; simp at e1 e2; subst e1 e2; exact h.1
    | succ i => intro a' b' e1 e2; simp at e1 e2; exact h2 i a' b' e1 e2
  | [], _ :: _, h => by simp [all2] at h
  | _ :: _, [], h => by simp [all2] at h

/-- Does a value read as the plain one in this store? -/
def canB (σ : St) : Nat → IV → IV → Bool
  | 0, _, _ => false
  | f + 1, x, z =>
    match z with
    | .raw u => match x with
      | .raw v => rawEq v u
      | _ => false
    | .agg ds => match x with
      | .agg cs => all2 (canB σ f) cs ds
      | _ => false
    | .tup ds => match x with
      | .tup cs => all2 (canB σ f) cs ds
      | _ => false
    | .tree s es => match x with
      | .raw (.slice none l c) => es.isEmpty && Nat.blt 0 s && Nat.beq l 0 && Nat.beq c 0
      | .emp => es.isEmpty && Nat.blt 0 s
      | .tree s' es' => es.isEmpty && es'.isEmpty && Nat.beq s s'
      | .sl id off len _ ep s' => match σ.at id with
        | some (.cells cs cep mn) => Nat.ble mn ep && Nat.ble ep cep && Nat.beq es.length len && Nat.ble (off + len * s) cs.length && Nat.beq s s' &&
            es.zipIdx.all fun (e, i) => Nat.beq (cellsOf e).length s && (cellsOf e).zipIdx.all fun (d, j) => match cs[off + i * s + j]? with
              | some c => canB σ f c d
              | none => true
        | _ => false
      | _ => false
    | _ => false

theorem canB_sound {fr : Bool} {σ : St} : ∀ {f : Nat} {x z : IV}, canB σ f x z = true → Can fr σ x z
  | 0, _, _, h => by simp [canB] at h
  | f + 1, x, z, h => by
    unfold canB at h
    split at h
    · split at h
      · rw [rawEq_eq h]; exact .raw _
      · cases h
    · split at h
      · obtain ⟨h1, h2⟩ := all2_sound h
        exact .agg _ _ h1 fun i c d e1 e2 => canB_sound (h2 i c d e1 e2)
      · cases h
    · split at h
      · obtain ⟨h1, h2⟩ := all2_sound h
        exact .tup _ _ h1 fun i c d e1 e2 => canB_sound (h2 i c d e1 e2)
      · cases h
    · split at h
      · rename_i es _ l c
        simp only [Bool.and_eq_true, List.isEmpty_iff, Nat.blt_eq, Nat.beq_eq] at h
        obtain ⟨⟨⟨h1, h2⟩, h3⟩, h4⟩ := h
        subst h1 h3 h4
        exact .nil _ h2
      · simp only [Bool.and_eq_true, List.isEmpty_iff, Nat.blt_eq] at h
        obtain ⟨h1, h2⟩ := h
        subst h1
        exact .emp _ h2
      · simp only [Bool.and_eq_true, List.isEmpty_iff, Nat.beq_eq] at h
        obtain ⟨⟨h1, h2⟩, h3⟩ := h
        subst h1 h2 h3
        exact .treeE _
      · split at h
        · rename_i hat
          simp only [Bool.and_eq_true, Nat.beq_eq, Nat.ble_eq, List.all_eq_true] at h
          obtain ⟨⟨⟨⟨⟨h1, h2⟩, h3⟩, h4⟩, h5⟩, h6⟩ := h
          subst h5
          refine .sl _ _ _ _ _ _ _ _ _ _ hat h1 h2 h3 h4 (fun e he => ?_) fun i e j c d e1 e2 e3 => ?_
          · obtain ⟨i, hi, rfl⟩ := List.getElem_of_mem he
            exact (h6 (_, i) (List.mk_mem_zipIdx_iff_getElem?.2 (List.getElem?_eq_getElem hi))).1
          · have := (h6 (e, i) (List.mk_mem_zipIdx_iff_getElem?.2 e1)).2 (d, j) (List.mk_mem_zipIdx_iff_getElem?.2 e2)
            simp only [e3] at this
            exact canB_sound this
        · cases h
      · cases h
    · cases h

/-- Contracts: a function, its arguments, its result. -/
abbrev Hk := FuncId → List (List IV × IV)
def hit (σ : St) (args : List IV) : List (List IV × IV) → Option IV
  | [] => none
  | (xs, z) :: l => if all2 (canB σ 40) args xs then some z else hit σ args l
theorem hit_sound {σ : St} {args : List IV} {z : IV} : ∀ {l : List (List IV × IV)}, hit σ args l = some z → ∃ xs, (xs, z) ∈ l ∧ CanL true σ args xs
  | [], h => by cases h
  | (xs, y) :: l, h => by
    rw [hit] at h
    split at h
    · rename_i ha
      cases h
      obtain ⟨h1, h2⟩ := all2_sound ha
      exact ⟨xs, .head _, h1, fun i c d e1 e2 => canB_sound (h2 i c d e1 e2)⟩
    · obtain ⟨xs', h1, h2⟩ := hit_sound h
      exact ⟨xs', .tail _ h1, h2⟩

def hook (H : Hk) (S : Self) : Self := ⟨S.code, fun ro f args σ => match hit σ args (H f) with
  | some z => some (z, σ)
  | none => S.call ro f args σ, S.pan, S.dcl⟩
/-- The evaluator with contracts. -/
def evH (P : Program) (H : Hk) (n : Nat) : Self := Nat.rec Self.none (fun _ S => hook H (evStep P S)) n

theorem hook_call {H : Hk} {S : Self} (hH : ∀ f xs z, (xs, z) ∈ H f → PCall P false true f xs z) (hC : CallOk P S) : CallOk P (hook H S) where
  call := by
    intro N ro f args σ v σ' h hN ι us w hi hr
    simp only [hook] at h
    split at h
    · rename_i z hz
      cases h
      obtain ⟨xs, h1, h2⟩ := hit_sound hz
      exact ((hH f xs _ h1).callC (ro := ro) h2).2 N hN ι us w hi hr
    · exact hC.call N ro f args σ v σ' h hN ι us w hi hr
  pan := hC.pan
  dcl := hC.dcl
  ent := hC.ent
theorem hook_mono {H : Hk} {S : Self} (hk : CallMono S) : CallMono (hook H S) where
  call := by
    intro ro f args σ v σ' h
    simp only [hook] at h
    split at h
    · cases h; exact Nat.le_refl _
    · exact hk.call ro f args σ v σ' h
  pan := hk.pan
  dcl := hk.dcl

theorem evH_ok (hmix : P.follows .mixedOrders = true) {H : Hk} (hH : ∀ f xs z, (xs, z) ∈ H f → PCall P false true f xs z) : ∀ n, CodeOk P (evH P H n) n ∧ CallOk P (evH P H n) ∧ CodeMono (evH P H n) ∧ CallMono (evH P H n)
  | 0 => ev_ok (fun _ _ h1 h2 h3 h4 => draw_ok hmix h1 h2 h3 h4) 0
  | n + 1 => by
    obtain ⟨h1, h2, h3, h4⟩ := evH_ok hmix hH n
    exact ⟨code_ok h1 h2 h3 h4 (draw_ok hmix h1 h2 h3 h4), hook_call hH (call_ok h1 h2 h3 h4), code_mono h3 h4, hook_mono (call_mono h3 h4)⟩

/-- A call from the empty store that comes to the listed value. -/
def comes (r : Option (IV × St)) (z : IV) : Bool :=
  match r with
  | some (v, σ) => canB σ 40 v z
  | none => false
theorem PCall.run (hmix : P.follows .mixedOrders = true) {H : Hk} (hH : ∀ f xs z, (xs, z) ∈ H f → PCall P false true f xs z) {n : Nat} {new : Bool} {f : FuncId} {xs : List IV} {z : IV} (h : comes ((evH P H n).call 0 f xs ⟨0, .lf⟩) z = true) : PCall P false new f xs z := by
  unfold comes at h
  split at h
  · rename_i v σ hc
    obtain ⟨_, h2, _, h4⟩ := evH_ok hmix hH n
    exact PCall.of ⟨h4.call _ _ _ _ _ _ hc, fun N hN ι us w hi hr => h2.call N 0 f xs _ _ _ hc hN ι us w hi hr⟩ (canB_sound h)
  · cases h

/-- What a closed run with contracts says of the model's. -/
theorem evH_trueL (hmix : P.follows .mixedOrders = true) {H : Hk} (hH : ∀ f xs z, (xs, z) ∈ H f → PCall P false true f xs z) {n : Nat} {f : FuncId} {args : List IV} {us : List Value} (hr : RvL ⟨fun _ _ => none, fun _ => none⟩ args us) (h : says ((evH P H n).call 0 f args ⟨0, .lf⟩) = true) (w : World) :
    Calls P f us.toArray w fun e w' => e = .returned (.bool true) ∧ Below w.heap.size w w' := by
  unfold says at h
  split at h
  · rename_i σ' hc
    refine callsIn_wide.1 (((evH_ok hmix hH n).2.1.call σ'.n 0 f _ _ _ _ hc (Nat.le_refl _) ⟨fun _ _ => none, fun _ => none⟩ us w (inv_none w) hr).mono fun e w' hR => ?_)
    cases e with
    | returned u =>
      obtain ⟨ι', h1, h2, h3⟩ := hR
      have hu : u = .bool true := by generalize hx : IV.raw (.bool true) = x at h1; cases h1 <;> first | (cases hx; rfl) | cases hx
      rw [hu]
      exact ⟨rfl, h3.os, h3.tape, h3.output, h3.size, fun b hb => h3.frame b hb fun id ho => (by obtain ⟨_, _, ho, _⟩ := ho; cases ho)⟩
    | panicked chain => exact hR.elim
    | outgrown => exact hR.elim
  · cases h
end Go.Ev
