/- The program's Retract: what is deleted, the map, the whole. -/
import Derived.Test.YtggffkaadeagbaaGreatRuM
set_option linter.all false
namespace Go.Proofs.YtggffkaadeagbaaGreat
open Go Go.Ev
variable {Q : IV → Prop} {k0 k1 k2 k3 k4 k5 : List IV → Prop}
def zF : Fa := ⟨0, ⟨[], []⟩, []⟩
theorem sub_F {L : List Fa} {l h : Nat} (h1 : l ≤ h) (h2 : h ≤ L.length) : denSub 4 (iFs L) (iI (l : Nat)) (iI (h : Nat)) = some (iFs ((L.take h).drop l)) := by
  simp [denSub, intI?, h1, h2, List.map_drop, List.map_take]
theorem clr_F {L : List Fa} {l : Nat} (h1 : l ≤ L.length) : denClr 4 (iFs L) (iI (l : Nat)) (.agg [iI 0, iS [], iT [], iL []]) = some (iFs (L.take l ++ List.replicate (L.length - l) zF)) := by
  simp [denClr, intI?, h1, cellsOf, List.map_take, encF, zF]
theorem clr_F' {L : List Fa} {l : Nat} (h1 : l ≤ L.length) : denClr 4 (iFs L) (iI (l : Nat)) (.agg [.raw (.int .i64 0), .raw (.string ⟨#[]⟩), .tree 4 [], .tree 1 []]) = some (iFs (L.take l ++ List.replicate (L.length - l) zF)) := clr_F h1
theorem take_set_self {α : Type} (l : List α) (j : Nat) (x : α) : (l.set j x).take j = l.take j := by
  apply List.ext_getElem?
  intro q
  simp only [List.getElem?_take, List.getElem?_set]
  grind
theorem sub_T {L : List Fa} {l : Nat} (h1 : l ≤ L.length) : denSub 4 (iFs L) (iI 0) (iI (l : Nat)) = some (iFs (L.take l)) := by
  have := sub_F (L := L) (l := 0) (h := l) (Nat.zero_le _) h1
  simpa using this
/-- Where the first one that goes stands. -/
def IdxP (l : List Fa) (n : Int) (r : Int) : Prop := (r = -1 ∧ ∀ f ∈ l, n ∉ f.j) ∨ ∃ i : Nat, r = i ∧ ∃ h : i < l.length, (∀ f ∈ l.take i, n ∉ f.j) ∧ n ∈ l[i].j
theorem s22v8 {v0 v2 v3 v4 v5 v6 v7 v8 : IV} {l : List Fa} {n : Int} (hl : l.length ≤ 100) (hw : ∀ f ∈ l, WfF f) (hk : ∀ r, IdxP l n r → k3 [iI r]) :
    fir22v8.sat Tryz.prog CC Q [k0, k1, k2, k3] [v0, iI n, v2, v3, v4, v5, v6, v7, v8, iFs l] := by
  refine sat_loop2 l.length (fun i (_ : Unit) => [iI i]) (fun i _ => ∀ f ∈ l.take i, n ∉ f.j) () ?_ ?_ fun i _ hi hI => ?_
  · simp [SE.den]
  · simp
  by_cases hlt : i < l.length
  · have hwr := wrapi hlt (by omega)
    simp [SE.den, hlt, hwr, iy_F hlt, cellOk, cellsOf]
    refine ⟨_, c58n _ _ (hw _ (List.getElem_mem hlt)).2, ?_⟩
    simp [SE.den, hwr]
    by_cases hc : n ∈ l[i].j
    · left; exact ⟨hc, hk _ (.inr ⟨i, rfl, hlt, hI, hc⟩)⟩
    · right
      refine ⟨hc, .mk () rfl (by omega) fun f hf => ?_⟩
      rw [List.take_succ_eq_append_getElem hlt] at hf
      rcases List.mem_append.1 hf with hf | hf
      · exact hI f hf
      · simp at hf; subst hf; exact hc
  · simp [SE.den, hlt]
    refine hk _ (.inl ⟨rfl, ?_⟩)
    rwa [List.take_of_length_le (by omega)] at hI
def DelP (l : List Fa) (n : Int) (vs : List IV) : Prop := ∃ a b, vs = [iFs (freeF l n), a, b]
theorem freeF_all {l : List Fa} {n : Int} (h : ∀ f ∈ l, n ∉ f.j) : freeF l n = l := by
  unfold freeF
  rw [List.filter_eq_self]
  intro f hf
  simpa using h f hf
theorem s22v9 {v0 v2 v3 v4 v5 v6 v7 v8 : IV} {l : List Fa} {n : Int} {i0 : Nat} (hl : l.length ≤ 100) (hw : ∀ f ∈ l, WfF f) (hi0 : i0 < l.length) (h1 : ∀ f ∈ l.take i0, n ∉ f.j) (h2 : n ∈ l[i0].j) (hk : ∀ vs, DelP l n vs → k2 vs) :
    fir22v9.sat Tryz.prog CC Q [k0, k1, k2] [v0, iI n, v2, v3, v4, v5, v6, v7, v8, iFs l, iI i0] := by
  have hw0 : IntKind.i64.wrap ((i0 : Int) + 1) = ((i0 + 1 : Nat) : Int) := wrapi hi0 (by omega)
  refine sat_loopM2 (fun p : Nat × Nat × List Fa => [iI p.1, iI p.2.1, iFs p.2.2]) (fun p => p.1 ≤ l.length ∧ p.2.1 < p.1 ∧ p.2.2.length = l.length ∧ p.2.2.take p.2.1 = freeF (l.take p.1) n ∧ p.2.2.drop p.1 = l.drop p.1) (fun p => l.length - p.1) (i0 + 1, i0, l) ?_ ?_ fun ⟨i, j, r⟩ ⟨hi, hj, hr, hA, hB⟩ => ?_
  · simp [SE.den, hw0]
  · refine ⟨by simp; omega, by simp, rfl, ?_, rfl⟩
    show l.take i0 = freeF (l.take (i0 + 1)) n
    rw [List.take_succ_eq_append_getElem hi0, freeF, List.filter_append, List.filter_cons_of_neg (by simpa using h2), ← freeF, freeF_all h1]; simp
  simp only at hi hj hr hA hB
  by_cases hlt : i < l.length
  · have hir : i < r.length := by omega
    have hjr : j < r.length := by omega
    have hri : r[i] = l[i] := by
      have h3 := congrArg (fun q => q[0]?) hB
      simp only [List.getElem?_drop, Nat.add_zero] at h3
      rw [List.getElem?_eq_getElem hir, List.getElem?_eq_getElem hlt] at h3
      exact Option.some.inj h3
    have hwi := wrapi hlt (by omega)
    have hwj := wrapi hjr (by omega)
    have hset := set_F (l := r) (i := j) l[i] hjr
    have hidx := iy_F hir
    rw [hri] at hidx
    generalize hr1 : r.set j l[i] = r1 at hset
    simp [SE.den, hir, hidx, cellOk, cellsOf]
    refine ⟨_, c58n _ _ (hw _ (List.getElem_mem hlt)).2, ?_⟩
    simp [SE.den, hidx, iy_F hjr, cellOk, cellsOf, hset, hwi, hwj]
    by_cases hc : n ∈ l[i].j
    · right
      refine ⟨hc, .mk (i + 1, j, r) (by simp) ⟨by omega, by simp; omega, hr, ?_, ?_⟩ (by simp; omega)⟩
      · show r.take j = freeF (l.take (i + 1)) n
        rw [List.take_succ_eq_append_getElem hlt, freeF, List.filter_append, List.filter_cons_of_neg (by simpa using hc), ← freeF, hA]; simp
      · show r.drop (i + 1) = l.drop (i + 1)
        rw [← List.drop_drop (i := 1) (j := i), ← List.drop_drop (i := 1) (j := i), hB]
    · left
      refine ⟨hc, .mk (i + 1, j + 1, r1) (by simp) ⟨by omega, by simp; omega, by subst hr1; simp [hr], ?_, ?_⟩ (by simp; omega)⟩
      · show r1.take (j + 1) = freeF (l.take (i + 1)) n
        subst hr1
        have hjs : j < (r.set j l[i]).length := by simp; omega
        rw [List.take_succ_eq_append_getElem hlt, freeF, List.filter_append, List.filter_cons_of_pos (by simpa using hc), ← freeF, ← hA, List.take_succ_eq_append_getElem hjs, take_set_self]
        simp
      · show r1.drop (i + 1) = l.drop (i + 1)
        subst hr1
        rw [List.drop_set_of_lt (by omega), ← List.drop_drop (i := 1) (j := i), ← List.drop_drop (i := 1) (j := i), hB]
  · have hil : i = l.length := by omega
    subst hil
    rw [List.take_length] at hA
    have hlt2 : ¬ (l.length < r.length) := by omega
    have hs1 := sub_F (L := r) (l := j) (h := r.length) (by omega) (Nat.le_refl _)
    have hs2 := clr_F' (L := r) (l := j) (by omega)
    have hcl : j ≤ (r.take j ++ List.replicate (r.length - j) zF).length := by simp; omega
    have hs3 := sub_T (L := r.take j ++ List.replicate (r.length - j) zF) (l := j) hcl
    have hfin : (r.take j ++ List.replicate (r.length - j) zF).take j = freeF l n := by
      rw [List.take_append_of_le_length (by simp; omega), List.take_take, Nat.min_self, hA]
    rw [hfin] at hs3
    generalize r.take j ++ List.replicate (r.length - j) zF = r2 at hs2 hs3
    simp [SE.den, hlt2, hs1, hs2, hs3]
    first | exact hk _ ⟨_, _, rfl⟩ | (refine hk _ ⟨_, _, ?_⟩; simp)
theorem s22v10 {v0 v2 v3 v4 v5 v6 v7 v8 : IV} {l : List Fa} {n : Int} (hl : l.length ≤ 100) (hw : ∀ f ∈ l, WfF f) (hk : ∀ vs, DelP l n vs → k2 vs) :
    fir22v10.sat Tryz.prog CC Q [k0, k1, k2] [v0, iI n, v2, v3, v4, v5, v6, v7, v8, iFs l] := by
  refine sat_blk2 (fun vs => ∃ r, vs = [iI r] ∧ IdxP l n r) ?_ ?_
  · simp [SE.den]
    exact s22v8 hl hw fun r hr => ⟨r, rfl, hr⟩
  · rintro vs ⟨r, rfl, hr⟩
    refine ⟨rfl, ?_⟩
    rcases hr with ⟨rfl, h⟩ | ⟨i, rfl, hi, h1, h2⟩
    · simp [SE.den]
      exact hk _ ⟨_, _, by rw [freeF_all h]⟩
    · have : ¬ ((i : Int) = -1) := by omega
      simp [SE.den, this]
      exact s22v9 hl hw hi h1 h2 hk
end Go.Proofs.YtggffkaadeagbaaGreat
