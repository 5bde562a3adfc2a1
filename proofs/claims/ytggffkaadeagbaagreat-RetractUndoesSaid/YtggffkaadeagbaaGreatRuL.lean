/- Sorting by insertion: plain lists. -/
import Derived.Test.YtggffkaadeagbaaGreatRuK
import Derived.Test.YtggffkaadeagbaaGreatRuH
set_option linter.all false
namespace Go.Proofs.YtggffkaadeagbaaGreat
open Go Go.Ev
section sorting
variable {α : Type} {lt : α → α → Bool}
def mrg (lt : α → α → Bool) : List α → List α → List α
  | out, [] => out
  | out, b :: l => mrg lt (insL lt b out) l
theorem mrg_app (o A B : List α) : mrg lt o (A ++ B) = mrg lt (mrg lt o A) B := by
  induction A generalizing o with
  | nil => rfl
  | cons a A ih => exact ih _
theorem mrg_snoc (o A : List α) (x : α) : mrg lt o (A ++ [x]) = insL lt x (mrg lt o A) := by rw [mrg_app]; rfl
theorem mrg_len (o A : List α) : (mrg lt o A).length = o.length + A.length := by
  induction A generalizing o with
  | nil => rfl
  | cons a A ih => rw [mrg, ih, insL_len]; simp; omega
structure Ord (lt : α → α → Bool) : Prop where
  h1 : ∀ x y z, lt x y = true → lt z y = false → lt x z = true
  h2 : ∀ x y, lt x y = true → lt y x = false
abbrev Srt (lt : α → α → Bool) (p : List α) : Prop := p.Pairwise fun a b => lt b a = false
theorem insL_cons (x a : α) (l : List α) : insL lt x (a :: l) = if lt x a then x :: a :: l else a :: insL lt x l := rfl
theorem mem_insL {b x : α} : ∀ {l : List α}, b ∈ insL lt x l ↔ b = x ∨ b ∈ l
  | [] => by simp [insL]
  | a :: l => by
    rw [insL_cons]
    split
    · simp
    · simp [mem_insL (l := l)]; grind
theorem srt_insL (hO : Ord lt) (x : α) : ∀ {p : List α}, Srt lt p → Srt lt (insL lt x p)
  | [], _ => by simp [insL, Srt]
  | a :: l, h => by
    have h' := List.pairwise_cons.1 h
    rw [insL_cons]
    split
    · rename_i hxa
      refine List.pairwise_cons.2 ⟨fun b hb => ?_, h⟩
      rcases List.mem_cons.1 hb with rfl | hb
      · exact hO.h2 _ _ hxa
      · exact hO.h2 _ _ (hO.h1 x a b hxa (h'.1 b hb))
    · rename_i hxa
      refine List.pairwise_cons.2 ⟨fun b hb => ?_, srt_insL hO x h'.2⟩
      rcases mem_insL.1 hb with rfl | hb
      · simpa using hxa
      · exact h'.1 b hb
theorem srt_mrg (hO : Ord lt) : ∀ (A : List α) {o : List α}, Srt lt o → Srt lt (mrg lt o A)
  | [], _, h => h
  | a :: A, _, h => srt_mrg hO A (srt_insL hO a h)
theorem insL_app {x : α} : ∀ {A B : List α}, (∀ a ∈ A, lt x a = false) → (∀ b ∈ B, lt x b = true) → insL lt x (A ++ B) = A ++ x :: B
  | [], [], _, _ => rfl
  | [], b :: B, _, hB => by simp [insL, hB b (by simp)]
  | a :: A, B, hA, hB => by
    have := insL_app (A := A) (B := B) (fun a ha => hA a (by simp [ha])) hB
    simp [insL, hA a (by simp), this]
theorem ins_exit (hO : Ord lt) {p : List α} {x : α} {j : Nat} (hs : Srt lt p) (hj : j ≤ p.length) (hB : ∀ b ∈ p.drop j, lt x b = true) (hA : ∀ i, j = i + 1 → ∀ a, p[i]? = some a → lt x a = false) :
    p.take j ++ x :: p.drop j = insL lt x p := by
  have h := insL_app (lt := lt) (x := x) (A := p.take j) (B := p.drop j) ?_ hB
  · rw [List.take_append_drop] at h; exact h.symm
  · intro a ha
    cases j with
    | zero => simp at ha
    | succ i =>
      obtain ⟨q, hq, rfl⟩ := List.mem_iff_getElem.1 ha
      simp at hq
      have hi : i < p.length := by omega
      have hx := hA i rfl p[i] (List.getElem?_eq_getElem hi)
      rw [List.getElem_take]
      by_cases hqi : q = i
      · subst hqi; exact hx
      · have hlt : q < i := by omega
        have hpw := List.pairwise_iff_getElem.1 hs q i (by omega) hi hlt
        cases hxa : lt x p[q] with
        | false => rfl
        | true => rw [hO.h1 x _ _ hxa hpw] at hx; cases hx
theorem filter_insL (hO : Ord lt) (q : α → Bool) (x : α) : ∀ {p : List α}, Srt lt p → (insL lt x p).filter q = if q x then insL lt x (p.filter q) else p.filter q
  | [], _ => by cases h : q x <;> simp [insL, h]
  | a :: l, h => by
    have h' := List.pairwise_cons.1 h
    rw [insL_cons]
    split
    · rename_i hxa
      cases hq : q x with
      | false => simp [List.filter_cons, hq]
      | true =>
        rw [List.filter_cons_of_pos hq]
        have hall : ∀ b ∈ (a :: l).filter q, lt x b = true := fun b hb => by
          have hb := (List.mem_filter.1 hb).1
          rcases List.mem_cons.1 hb with rfl | hb
          · exact hxa
          · exact hO.h1 x a b hxa (h'.1 b hb)
        have := insL_app (lt := lt) (x := x) (A := []) (B := (a :: l).filter q) (by simp) hall
        simp only [List.nil_append] at this
        simp [this]
    · rename_i hxa
      have ih := filter_insL hO q x h'.2
      cases hqa : q a with
      | false => rw [List.filter_cons_of_neg (by simp [hqa]), List.filter_cons_of_neg (by simp [hqa]), ih]
      | true =>
        rw [List.filter_cons_of_pos hqa, List.filter_cons_of_pos hqa, ih]
        cases hq : q x with
        | false => rfl
        | true =>
          simp only [if_true]
          rw [insL_cons, if_neg hxa]
theorem filter_mrg (hO : Ord lt) (q : α → Bool) : ∀ (A : List α) {o : List α}, Srt lt o → (mrg lt o A).filter q = mrg lt (o.filter q) (A.filter q)
  | [], _, _ => rfl
  | a :: A, o, h => by
    rw [mrg, filter_mrg hO q A (srt_insL hO a h), filter_insL hO q a h]
    cases hq : q a with
    | false => rw [List.filter_cons_of_neg (by simp [hq])]; simp
    | true => rw [List.filter_cons_of_pos hq]; simp [mrg]
end sorting
def ltF (a b : Fa) : Bool := decide (a.id < b.id)
theorem insF_eq (b : Fa) : ∀ l : List Fa, insF b l = insL ltF b l
  | [] => rfl
  | x :: l => by simp [insF, insL, ltF, insF_eq b l]
theorem mergeF_eq : ∀ (l o : List Fa), mergeF o l = mrg ltF o l
  | [], _ => rfl
  | b :: l, o => by rw [mergeF, mrg, insF_eq, mergeF_eq l]
theorem mergeA_eq : ∀ (l o : List At), mergeA o l = mrg ltA o l
  | [], _ => rfl
  | b :: l, o => by rw [mergeA, mrg, mergeA_eq l]
theorem ordF : Ord ltF := ⟨fun x y z h1 h2 => by simp [ltF] at *; omega, fun x y h => by simp [ltF] at *; omega⟩
end Go.Proofs.YtggffkaadeagbaaGreat
