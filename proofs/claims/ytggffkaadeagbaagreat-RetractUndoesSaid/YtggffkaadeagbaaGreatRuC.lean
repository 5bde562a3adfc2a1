/- Lists of whole numbers: Index, Contains, Has, inside; same, Equal, SameInts. -/
import Derived.Test.YtggffkaadeagbaaGreatRuB
set_option linter.all false
namespace Go.Proofs.YtggffkaadeagbaaGreat
open Go Go.Ev
theorem n183 : (Tryz.prog.funcs[183]?).map (·.params.size) = some 2 := by kernel_rfl
theorem t183 (z : IV) : tupOk Tryz.prog 183 z = true := by kernel_rfl
def idxF (n : Int) : List Int → Nat → Int
  | [], _ => -1
  | x :: l, i => if n = x then i else idxF n l (i + 1)
theorem idxF_pos (n : Int) : ∀ (l : List Int) (i : Nat), decide (0 ≤ idxF n l i) = l.contains n
  | [], _ => rfl
  | x :: l, i => by
    by_cases h : n = x
    · simp [idxF, h]
    · have := idxF_pos n l (i + 1)
      simp [idxF, h] at this ⊢
      exact this
theorem c183 (l : List Int) (n : Int) (hl : Sm l) : CC 183 false [iL l, iI n] (iI (idxF n l 0)) := by
  refine CC.of ex183 n183 (t183 _) (by simp) (by simp) ?_
  simp [fir183, SE.den]
  refine sat_loop l.length (fun i (_ : Unit) => [iI i]) (fun i _ => idxF n l 0 = idxF n (l.drop i) i) () ?_ ?_ fun i _ hi hI => ?_
  · simp [SE.den]
  · simp
  by_cases hlt : i < l.length
  · rw [List.drop_eq_getElem_cons hlt] at hI
    have hw := wrapi hlt hl
    simp [SE.den, hlt, hw]
    by_cases h : n = l[i]
    · left; exact ⟨h, by rw [hI]; simp [idxF, h]⟩
    · right; simp [h, hI, idxF]; omega
  · simp [SE.den, hlt]
    rw [hI, List.drop_of_length_le (by omega)]; rfl
theorem n121 : (Tryz.prog.funcs[121]?).map (·.params.size) = some 2 := by kernel_rfl
theorem t121 (z : IV) : tupOk Tryz.prog 121 z = true := by kernel_rfl
theorem c121 (l : List Int) (n : Int) (hl : Sm l) : CC 121 false [iL l, iI n] (iB (l.contains n)) := by
  refine CC.of ex121 n121 (t121 _) (by simp) (by simp) ?_
  simp [fir121, SE.den]
  refine ⟨_, c183 l n hl, ?_⟩
  have := idxF_pos n l 0
  simp at this ⊢
  exact this
theorem n58 : (Tryz.prog.funcs[58]?).map (·.params.size) = some 2 := by kernel_rfl
theorem t58 (z : IV) : tupOk Tryz.prog 58 z = true := by kernel_rfl
theorem c58 (l : List Int) (n : Int) (hl : Sm l) : CC 58 false [iL l, iI n] (iB (l.contains n)) := by
  refine CC.of ex58 n58 (t58 _) (by simp) (by simp) ?_
  simp [fir58, SE.den]
  exact ⟨_, c121 l n hl, by simp⟩
theorem c58n (l : List Int) (n : Int) (hl : Sm l) : CC 58 true [iL l, iI n] (iB (l.contains n)) := by
  refine CC.of exn58 n58 (t58 _) (by simp) (by simp) ?_
  simp [firn58, SE.den, isRaw1]
  exact ⟨_, c121 l n hl, by simp [isRaw1]⟩
theorem n67 : (Tryz.prog.funcs[67]?).map (·.params.size) = some 2 := by kernel_rfl
theorem t67 (z : IV) : tupOk Tryz.prog 67 z = true := by kernel_rfl
theorem c67 (l : List Int) (n : Int) (hl : Sm l) : CC 67 false [iL l, iI n] (iB (l.contains n)) := by
  refine CC.of ex67 n67 (t67 _) (by simp) (by simp) ?_
  simp [fir67, SE.den]
  refine sat_loop l.length (fun i (_ : Unit) => [iI i]) (fun i _ => (n ∈ l ↔ n ∈ l.drop i)) () ?_ ?_ fun i _ hi hI => ?_
  · simp [SE.den]
  · simp
  by_cases hlt : i < l.length
  · rw [List.drop_eq_getElem_cons hlt, List.mem_cons] at hI
    have hw := wrapi hlt hl
    simp [SE.den, hlt, hw]
    grind
  · simp [SE.den, hlt]
    rw [hI, List.drop_of_length_le (by omega)]; simp
theorem n94 : (Tryz.prog.funcs[94]?).map (·.params.size) = some 2 := by kernel_rfl
theorem t94 (z : IV) : tupOk Tryz.prog 94 z = true := by kernel_rfl
theorem c94 (l : List Int) (n : Int) (hl : Sm l) : CC 94 false [iL l, iI n] (iB (l.contains n)) := by
  refine CC.of ex94 n94 (t94 _) (by simp) (by simp) ?_
  simp [fir94, SE.den]
  refine sat_loop l.length (fun i (_ : Unit) => [iI i]) (fun i _ => (n ∈ l ↔ n ∈ l.drop i)) () ?_ ?_ fun i _ hi hI => ?_
  · simp [SE.den]
  · simp
  by_cases hlt : i < l.length
  · rw [List.drop_eq_getElem_cons hlt, List.mem_cons] at hI
    have hw := wrapi hlt hl
    simp [SE.den, hlt, hw]
    grind
  · simp [SE.den, hlt]
    rw [hI, List.drop_of_length_le (by omega)]; simp
theorem n53 : (Tryz.prog.funcs[53]?).map (·.params.size) = some 2 := by kernel_rfl
theorem t53 (z : IV) : tupOk Tryz.prog 53 z = true := by kernel_rfl
theorem c53 (a b : List Int) (hl : Sm a) : CC 53 false [iL a, iL b] (iB (a == b)) := by
  refine CC.of ex53 n53 (t53 _) (by simp) (by simp) ?_
  simp [fir53, SE.den]
  by_cases hab : a.length = b.length
  · right; simp [hab]
    refine sat_loop a.length (fun i (_ : Unit) => [iI i]) (fun i _ => (a = b ↔ a.drop i = b.drop i)) () ?_ ?_ fun i _ hi hI => ?_
    · simp [SE.den]
    · simp
    by_cases hlt : i < a.length
    · have hlb : i < b.length := by omega
      have hI2 : a = b ↔ a[i] = b[i] ∧ a.drop (i + 1) = b.drop (i + 1) := by
        rw [hI, List.drop_eq_getElem_cons hlt, List.drop_eq_getElem_cons hlb, List.cons.injEq]
      have hw := wrapi hlt hl
      simp [SE.den, hlt, hlb, hw]
      by_cases h : a[i] = b[i]
      · right; exact ⟨h, by omega, by rw [hI2]; simp [h]⟩
      · left; exact ⟨h, fun hh => h (hI2.1 hh).1⟩
    · simp [SE.den, hlt]
      rw [List.drop_of_length_le (by omega), List.drop_of_length_le (by omega)] at hI
      exact hI.2 rfl
  · left; exact ⟨by omega, fun h => hab (by rw [h])⟩
theorem n78 : (Tryz.prog.funcs[78]?).map (·.params.size) = some 2 := by kernel_rfl
theorem t78 (z : IV) : tupOk Tryz.prog 78 z = true := by kernel_rfl
theorem c78 (a b : List Int) (hl : Sm a) : CC 78 false [iL a, iL b] (iB (a == b)) := by
  refine CC.of ex78 n78 (t78 _) (by simp) (by simp) ?_
  simp [fir78, SE.den]
  by_cases hab : a.length = b.length
  · right; simp [hab]
    refine sat_loop a.length (fun i (_ : Unit) => [iI i]) (fun i _ => (a = b ↔ a.drop i = b.drop i)) () ?_ ?_ fun i _ hi hI => ?_
    · simp [SE.den]
    · simp
    by_cases hlt : i < a.length
    · have hlb : i < b.length := by omega
      have hI2 : a = b ↔ a[i] = b[i] ∧ a.drop (i + 1) = b.drop (i + 1) := by
        rw [hI, List.drop_eq_getElem_cons hlt, List.drop_eq_getElem_cons hlb, List.cons.injEq]
      have hw := wrapi hlt hl
      simp [SE.den, hlt, hlb, hw]
      by_cases h : a[i] = b[i]
      · right; exact ⟨h, by omega, by rw [hI2]; simp [h]⟩
      · left; exact ⟨h, fun hh => h (hI2.1 hh).1⟩
    · simp [SE.den, hlt]
      rw [List.drop_of_length_le (by omega), List.drop_of_length_le (by omega)] at hI
      exact hI.2 rfl
  · left; exact ⟨by omega, fun h => hab (by rw [h])⟩
theorem n164 : (Tryz.prog.funcs[164]?).map (·.params.size) = some 2 := by kernel_rfl
theorem t164 (z : IV) : tupOk Tryz.prog 164 z = true := by kernel_rfl
theorem c164 (a b : List Int) (hl : Sm a) : CC 164 false [iL a, iL b] (iB (a == b)) := by
  refine CC.of ex164 n164 (t164 _) (by simp) (by simp) ?_
  simp [fir164, SE.den]
  by_cases hab : a.length = b.length
  · right; simp [hab]
    refine sat_loop a.length (fun i (_ : Unit) => [iI i]) (fun i _ => (a = b ↔ a.drop i = b.drop i)) () ?_ ?_ fun i _ hi hI => ?_
    · simp [SE.den]
    · simp
    by_cases hlt : i < a.length
    · have hlb : i < b.length := by omega
      have hI2 : a = b ↔ a[i] = b[i] ∧ a.drop (i + 1) = b.drop (i + 1) := by
        rw [hI, List.drop_eq_getElem_cons hlt, List.drop_eq_getElem_cons hlb, List.cons.injEq]
      have hw := wrapi hlt hl
      simp [SE.den, hlt, hlb, hw]
      by_cases h : a[i] = b[i]
      · right; exact ⟨h, by omega, by rw [hI2]; simp [h]⟩
      · left; exact ⟨h, fun hh => h (hI2.1 hh).1⟩
    · simp [SE.den, hlt]
      rw [List.drop_of_length_le (by omega), List.drop_of_length_le (by omega)] at hI
      exact hI.2 rfl
  · left; exact ⟨by omega, fun h => hab (by rw [h])⟩
end Go.Proofs.YtggffkaadeagbaaGreat
