/- A part of the proof, no condition: Retract of the program. -/
import Derived.Test.YtggffkaadeagbaaGreatRuM
import Derived.Test.YtggffkaadeagbaaGreatRuH
set_option linter.all false
namespace Go.Proofs.YtggffkaadeagbaaGreat
open Go Go.Ev
variable {Q : IV → Prop} {k0 k1 k2 k3 k4 k5 : List IV → Prop}
def zF : Fa := ⟨0, ⟨[], []⟩, []⟩
theorem sub_F {L : List Fa} {l h : Nat} (h1 : l ≤ h) (h2 : h ≤ L.length) : denSub 4 (iFs L) (iI (l : Nat)) (iI (h : Nat)) = some (iFs ((L.take h).drop l)) := by
  simp [denSub, intI?, h1, h2, List.map_drop, List.map_take]
theorem clr_F {L : List Fa} {l : Nat} (h1 : l ≤ L.length) : denClr 4 (iFs L) (iI (l : Nat)) (.agg [iI 0, iS [], iT [], iL []]) = some (iFs (L.take l ++ List.replicate (L.length - l) zF)) := by
  simp [denClr, intI?, h1, cellsOf, List.map_take, encF, zF]
theorem clr_F' {L : List Fa} {l : Nat} (h1 : l ≤ L.length) : denClr 4 (iFs L) (iI (l : Nat)) (.agg [.raw (.int .i64 0), .raw (.string ⟨#[]⟩), .tree 4 [], .tree 1 []]) = some (iFs (L.take l ++ List.replicate (L.length - l) zF)) := clr_F h1
theorem take_set_self {α : Type} (l : List α) (j : Nat) (x : α) : (l.set j x).take j = l.take j := by
  apply List.ext_getElem?
  intro q
  simp only [List.getElem?_take, List.getElem?_set]
  grind
theorem sub_T {L : List Fa} {l : Nat} (h1 : l ≤ L.length) : denSub 4 (iFs L) (iI 0) (iI (l : Nat)) = some (iFs (L.take l)) := by
  have := sub_F (L := L) (l := 0) (h := l) (Nat.zero_le _) h1
  simpa using this
def IdxP (l : List Fa) (n : Int) (r : Int) : Prop := (r = -1 ∧ ∀ f ∈ l, n ∉ f.j) ∨ ∃ i : Nat, r = i ∧ ∃ h : i < l.length, (∀ f ∈ l.take i, n ∉ f.j) ∧ n ∈ l[i].j
theorem s22v8 {v0 v2 v3 v4 v5 v6 v7 v8 : IV} {l : List Fa} {n : Int} (hl : l.length ≤ 100) (hw : ∀ f ∈ l, WfF f) (hk : ∀ r, IdxP l n r → k3 [iI r]) :
    fir22v8.sat Tryz.prog CC Q [k0, k1, k2, k3] [v0, iI n, v2, v3, v4, v5, v6, v7, v8, iFs l] := by
  refine sat_loop2 l.length (fun i (_ : Unit) => [iI i]) (fun i _ => ∀ f ∈ l.take i, n ∉ f.j) () ?_ ?_ fun i _ hi hI => ?_
  · simp [SE.den]
  · simp
  by_cases hlt : i < l.length
  · have hwr := wrapi hlt (by omega)
    simp [SE.den, hlt, hwr, iy_F hlt, cellOk, cellsOf]
    refine ⟨_, c58n _ _ (hw _ (List.getElem_mem hlt)).2, ?_⟩
    simp [SE.den, hwr]
    by_cases hc : n ∈ l[i].j
    · left; exact ⟨hc, hk _ (.inr ⟨i, rfl, hlt, hI, hc⟩)⟩
    · right
      refine ⟨hc, .mk () rfl (by omega) fun f hf => ?_⟩
      rw [List.take_succ_eq_append_getElem hlt] at hf
      rcases List.mem_append.1 hf with hf | hf
      · exact hI f hf
      · simp at hf; subst hf; exact hc
  · simp [SE.den, hlt]
    refine hk _ (.inl ⟨rfl, ?_⟩)
    rwa [List.take_of_length_le (by omega)] at hI
def DelP (l : List Fa) (n : Int) (vs : List IV) : Prop := ∃ a b, vs = [iFs (freeF l n), a, b]
theorem freeF_all {l : List Fa} {n : Int} (h : ∀ f ∈ l, n ∉ f.j) : freeF l n = l := by
  unfold freeF
  rw [List.filter_eq_self]
  intro f hf
  simpa using h f hf
theorem s22v9 {v0 v2 v3 v4 v5 v6 v7 v8 : IV} {l : List Fa} {n : Int} {i0 : Nat} (hl : l.length ≤ 100) (hw : ∀ f ∈ l, WfF f) (hi0 : i0 < l.length) (h1 : ∀ f ∈ l.take i0, n ∉ f.j) (h2 : n ∈ l[i0].j) (hk : ∀ vs, DelP l n vs → k2 vs) :
    fir22v9.sat Tryz.prog CC Q [k0, k1, k2] [v0, iI n, v2, v3, v4, v5, v6, v7, v8, iFs l, iI i0] := by
  have hw0 : IntKind.i64.wrap ((i0 : Int) + 1) = ((i0 + 1 : Nat) : Int) := wrapi hi0 (by omega)
  refine sat_loopM2 (fun p : Nat × Nat × List Fa => [iI p.1, iI p.2.1, iFs p.2.2]) (fun p => p.1 ≤ l.length ∧ p.2.1 < p.1 ∧ p.2.2.length = l.length ∧ p.2.2.take p.2.1 = freeF (l.take p.1) n ∧ p.2.2.drop p.1 = l.drop p.1) (fun p => l.length - p.1) (i0 + 1, i0, l) ?_ ?_ fun ⟨i, j, r⟩ ⟨hi, hj, hr, hA, hB⟩ => ?_
  · simp [SE.den, hw0]
  · refine ⟨by simp; omega, by simp, rfl, ?_, rfl⟩
    show l.take i0 = freeF (l.take (i0 + 1)) n
    rw [List.take_succ_eq_append_getElem hi0, freeF, List.filter_append, List.filter_cons_of_neg (by simpa using h2), ← freeF, freeF_all h1]; simp
  simp only at hi hj hr hA hB
  by_cases hlt : i < l.length
  · have hir : i < r.length := by omega
    have hjr : j < r.length := by omega
    have hri : r[i] = l[i] := by
      have h3 := congrArg (fun q => q[0]?) hB
      simp only [List.getElem?_drop, Nat.add_zero] at h3
      rw [List.getElem?_eq_getElem hir, List.getElem?_eq_getElem hlt] at h3
      exact Option.some.inj h3
    have hwi := wrapi hlt (by omega)
    have hwj := wrapi hjr (by omega)
    have hset := set_F (l := r) (i := j) l[i] hjr
    have hidx := iy_F hir
    rw [hri] at hidx
    generalize hr1 : r.set j l[i] = r1 at hset
    simp [SE.den, hir, hidx, cellOk, cellsOf]
    refine ⟨_, c58n _ _ (hw _ (List.getElem_mem hlt)).2, ?_⟩
    simp [SE.den, hidx, iy_F hjr, cellOk, cellsOf, hset, hwi, hwj]
    by_cases hc : n ∈ l[i].j
    · right
      refine ⟨hc, .mk (i + 1, j, r) (by simp) ⟨by omega, by simp; omega, hr, ?_, ?_⟩ (by simp; omega)⟩
      · show r.take j = freeF (l.take (i + 1)) n
        rw [List.take_succ_eq_append_getElem hlt, freeF, List.filter_append, List.filter_cons_of_neg (by simpa using hc), ← freeF, hA]; simp
      · show r.drop (i + 1) = l.drop (i + 1)
        rw [← List.drop_drop (i := 1) (j := i), ← List.drop_drop (i := 1) (j := i), hB]
    · left
      refine ⟨hc, .mk (i + 1, j + 1, r1) (by simp) ⟨by omega, by simp; omega, by subst hr1; simp [hr], ?_, ?_⟩ (by simp; omega)⟩
      · show r1.take (j + 1) = freeF (l.take (i + 1)) n
        subst hr1
        have hjs : j < (r.set j l[i]).length := by simp; omega
        rw [List.take_succ_eq_append_getElem hlt, freeF, List.filter_append, List.filter_cons_of_pos (by simpa using hc), ← freeF, ← hA, List.take_succ_eq_append_getElem hjs, take_set_self]
        simp
      · show r1.drop (i + 1) = l.drop (i + 1)
        subst hr1
        rw [List.drop_set_of_lt (by omega), ← List.drop_drop (i := 1) (j := i), ← List.drop_drop (i := 1) (j := i), hB]
  · have hil : i = l.length := by omega
    subst hil
    rw [List.take_length] at hA
    have hlt2 : ¬ (l.length < r.length) := by omega
    have hs1 := sub_F (L := r) (l := j) (h := r.length) (by omega) (Nat.le_refl _)
    have hs2 := clr_F' (L := r) (l := j) (by omega)
    have hcl : j ≤ (r.take j ++ List.replicate (r.length - j) zF).length := by simp; omega
    have hs3 := sub_T (L := r.take j ++ List.replicate (r.length - j) zF) (l := j) hcl
    have hfin : (r.take j ++ List.replicate (r.length - j) zF).take j = freeF l n := by
      rw [List.take_append_of_le_length (by simp; omega), List.take_take, Nat.min_self, hA]
    rw [hfin] at hs3
    generalize r.take j ++ List.replicate (r.length - j) zF = r2 at hs2 hs3
    simp [SE.den, hlt2, hs1, hs2, hs3]
    first | exact hk _ ⟨_, _, rfl⟩ | (refine hk _ ⟨_, _, ?_⟩; simp)
theorem s22v10 {v0 v2 v3 v4 v5 v6 v7 v8 : IV} {l : List Fa} {n : Int} (hl : l.length ≤ 100) (hw : ∀ f ∈ l, WfF f) (hk : ∀ vs, DelP l n vs → k2 vs) :
    fir22v10.sat Tryz.prog CC Q [k0, k1, k2] [v0, iI n, v2, v3, v4, v5, v6, v7, v8, iFs l] := by
  refine sat_blk2 (fun vs => ∃ r, vs = [iI r] ∧ IdxP l n r) ?_ ?_
  · simp [SE.den]
    exact s22v8 hl hw fun r hr => ⟨r, rfl, hr⟩
  · rintro vs ⟨r, rfl, hr⟩
    refine ⟨rfl, ?_⟩
    rcases hr with ⟨rfl, h⟩ | ⟨i, rfl, hi, h1, h2⟩
    · simp [SE.den]
      exact hk _ ⟨_, _, by rw [freeF_all h]⟩
    · have : ¬ ((i : Int) = -1) := by omega
      simp [SE.den, this]
      exact s22v9 hl hw hi h1 h2 hk
end Go.Proofs.YtggffkaadeagbaaGreat
namespace Go.Proofs.YtggffkaadeagbaaGreat
open Go Go.Ev
variable {Q : IV → Prop} {k0 k1 k2 k3 k4 k5 : List IV → Prop}
theorem s22v11 {v0 v2 v3 v4 v5 v6 v7 v9 v10 v11 v12 : IV} {l : List Fa} {n : Int} (hl : l.length ≤ 100) (hw : ∀ f ∈ l, WfF f) (hk : ∀ r, IdxP l n r → k3 [iI r]) :
    fir22v11.sat Tryz.prog CC Q [k0, k1, k2, k3] [v0, iI n, v2, v3, v4, v5, v6, v7, iFs l, v9, v10, v11, v12] := by
  refine sat_loop2 l.length (fun i (_ : Unit) => [iI i]) (fun i _ => ∀ f ∈ l.take i, n ∉ f.j) () ?_ ?_ fun i _ hi hI => ?_
  · simp [SE.den]
  · simp
  by_cases hlt : i < l.length
  · have hwr := wrapi hlt (by omega)
    simp [SE.den, hlt, hwr, iy_F hlt, cellOk, cellsOf]
    refine ⟨_, c58n _ _ (hw _ (List.getElem_mem hlt)).2, ?_⟩
    simp [SE.den, hwr]
    by_cases hc : n ∈ l[i].j
    · left; exact ⟨hc, hk _ (.inr ⟨i, rfl, hlt, hI, hc⟩)⟩
    · right
      refine ⟨hc, .mk () rfl (by omega) fun f hf => ?_⟩
      rw [List.take_succ_eq_append_getElem hlt] at hf
      rcases List.mem_append.1 hf with hf | hf
      · exact hI f hf
      · simp at hf; subst hf; exact hc
  · simp [SE.den, hlt]
    refine hk _ (.inl ⟨rfl, ?_⟩)
    rwa [List.take_of_length_le (by omega)] at hI
theorem s22v12 {v0 v2 v3 v4 v5 v6 v7 v9 v10 v11 v12 : IV} {l : List Fa} {n : Int} {i0 : Nat} (hl : l.length ≤ 100) (hw : ∀ f ∈ l, WfF f) (hi0 : i0 < l.length) (h1 : ∀ f ∈ l.take i0, n ∉ f.j) (h2 : n ∈ l[i0].j) (hk : ∀ vs, DelP l n vs → k2 vs) :
    fir22v12.sat Tryz.prog CC Q [k0, k1, k2] [v0, iI n, v2, v3, v4, v5, v6, v7, iFs l, v9, v10, v11, v12, iI i0] := by
  have hw0 : IntKind.i64.wrap ((i0 : Int) + 1) = ((i0 + 1 : Nat) : Int) := wrapi hi0 (by omega)
  refine sat_loopM2 (fun p : Nat × Nat × List Fa => [iI p.1, iI p.2.1, iFs p.2.2]) (fun p => p.1 ≤ l.length ∧ p.2.1 < p.1 ∧ p.2.2.length = l.length ∧ p.2.2.take p.2.1 = freeF (l.take p.1) n ∧ p.2.2.drop p.1 = l.drop p.1) (fun p => l.length - p.1) (i0 + 1, i0, l) ?_ ?_ fun ⟨i, j, r⟩ ⟨hi, hj, hr, hA, hB⟩ => ?_
  · simp [SE.den, hw0]
  · refine ⟨by simp; omega, by simp, rfl, ?_, rfl⟩
    show l.take i0 = freeF (l.take (i0 + 1)) n
    rw [List.take_succ_eq_append_getElem hi0, freeF, List.filter_append, List.filter_cons_of_neg (by simpa using h2), ← freeF, freeF_all h1]; simp
  simp only at hi hj hr hA hB
  by_cases hlt : i < l.length
  · have hir : i < r.length := by omega
    have hjr : j < r.length := by omega
    have hri : r[i] = l[i] := by
      have h3 := congrArg (fun q => q[0]?) hB
      simp only [List.getElem?_drop, Nat.add_zero] at h3
      rw [List.getElem?_eq_getElem hir, List.getElem?_eq_getElem hlt] at h3
      exact Option.some.inj h3
    have hwi := wrapi hlt (by omega)
    have hwj := wrapi hjr (by omega)
    have hset := set_F (l := r) (i := j) l[i] hjr
    have hidx := iy_F hir
    rw [hri] at hidx
    generalize hr1 : r.set j l[i] = r1 at hset
    simp [SE.den, hir, hidx, cellOk, cellsOf]
    refine ⟨_, c58n _ _ (hw _ (List.getElem_mem hlt)).2, ?_⟩
    simp [SE.den, hidx, iy_F hjr, cellOk, cellsOf, hset, hwi, hwj]
    by_cases hc : n ∈ l[i].j
    · right
      refine ⟨hc, .mk (i + 1, j, r) (by simp) ⟨by omega, by simp; omega, hr, ?_, ?_⟩ (by simp; omega)⟩
      · show r.take j = freeF (l.take (i + 1)) n
        rw [List.take_succ_eq_append_getElem hlt, freeF, List.filter_append, List.filter_cons_of_neg (by simpa using hc), ← freeF, hA]; simp
      · show r.drop (i + 1) = l.drop (i + 1)
        rw [← List.drop_drop (i := 1) (j := i), ← List.drop_drop (i := 1) (j := i), hB]
    · left
      refine ⟨hc, .mk (i + 1, j + 1, r1) (by simp) ⟨by omega, by simp; omega, by subst hr1; simp [hr], ?_, ?_⟩ (by simp; omega)⟩
      · show r1.take (j + 1) = freeF (l.take (i + 1)) n
        subst hr1
        have hjs : j < (r.set j l[i]).length := by simp; omega
        rw [List.take_succ_eq_append_getElem hlt, freeF, List.filter_append, List.filter_cons_of_pos (by simpa using hc), ← freeF, ← hA, List.take_succ_eq_append_getElem hjs, take_set_self]
        simp
      · show r1.drop (i + 1) = l.drop (i + 1)
        subst hr1
        rw [List.drop_set_of_lt (by omega), ← List.drop_drop (i := 1) (j := i), ← List.drop_drop (i := 1) (j := i), hB]
  · have hil : i = l.length := by omega
    subst hil
    rw [List.take_length] at hA
    have hlt2 : ¬ (l.length < r.length) := by omega
    have hs1 := sub_F (L := r) (l := j) (h := r.length) (by omega) (Nat.le_refl _)
    have hs2 := clr_F' (L := r) (l := j) (by omega)
    have hcl : j ≤ (r.take j ++ List.replicate (r.length - j) zF).length := by simp; omega
    have hs3 := sub_T (L := r.take j ++ List.replicate (r.length - j) zF) (l := j) hcl
    have hfin : (r.take j ++ List.replicate (r.length - j) zF).take j = freeF l n := by
      rw [List.take_append_of_le_length (by simp; omega), List.take_take, Nat.min_self, hA]
    rw [hfin] at hs3
    generalize r.take j ++ List.replicate (r.length - j) zF = r2 at hs2 hs3
    simp [SE.den, hlt2, hs1, hs2, hs3]
    first | exact hk _ ⟨_, _, rfl⟩ | (refine hk _ ⟨_, _, ?_⟩; simp)
theorem s22v13 {v0 v2 v3 v4 v5 v6 v7 v9 v10 v11 v12 : IV} {l : List Fa} {n : Int} (hl : l.length ≤ 100) (hw : ∀ f ∈ l, WfF f) (hk : ∀ vs, DelP l n vs → k2 vs) :
    fir22v13.sat Tryz.prog CC Q [k0, k1, k2] [v0, iI n, v2, v3, v4, v5, v6, v7, iFs l, v9, v10, v11, v12] := by
  refine sat_blk2 (fun vs => ∃ r, vs = [iI r] ∧ IdxP l n r) ?_ ?_
  · simp [SE.den]
    exact s22v11 hl hw fun r hr => ⟨r, rfl, hr⟩
  · rintro vs ⟨r, rfl, hr⟩
    refine ⟨rfl, ?_⟩
    rcases hr with ⟨rfl, h⟩ | ⟨i, rfl, hi, h1, h2⟩
    · simp [SE.den]
      exact hk _ ⟨_, _, by rw [freeF_all h]⟩
    · have : ¬ ((i : Int) = -1) := by omega
      simp [SE.den, this]
      exact s22v12 hl hw hi h1 h2 hk
def ent (k : Int) : IV := .tup [iI k, .agg []]
abbrev iM (ks : List Int) : IV := .tup (ks.map ent)
def addK (ks : List Int) (k : Int) : List Int := if k ∈ ks then ks else ks ++ [k]
theorem keysOf_ks : ∀ ks : List Int, keysOf (ks.map ent) = some (ks.map (Value.int .i64))
  | [] => rfl
  | k :: ks => by simp [keysOf, ent, Ev.keyOf, keysOf_ks ks]
theorem nowAt_ks (k : Int) : ∀ (ks : List Int) (n : Nat), (k ∈ ks → ∃ i, nowAt (.int .i64) (.int .i64 k) (ks.map (Value.int .i64)) n = some (some (n + i)) ∧ ks[i]? = some k) ∧ (k ∉ ks → nowAt (.int .i64) (.int .i64 k) (ks.map (Value.int .i64)) n = some none)
  | [], n => by simp [nowAt]
  | a :: ks, n => by
    obtain ⟨h1, h2⟩ := nowAt_ks k ks (n + 1)
    by_cases h : k = a
    · subst h
      refine ⟨fun _ => ⟨0, by simp [nowAt, Instr.sameNow], rfl⟩, fun hn => absurd (by simp) hn⟩
    · refine ⟨fun hm => ?_, fun hn => ?_⟩
      · obtain ⟨i, g1, g2⟩ := h1 (by simpa [h] using hm)
        have hb : (k == a) = false := by simpa using h
        exact ⟨i + 1, by simp [nowAt, Instr.sameNow, hb, g1]; omega, by simpa using g2⟩
      · have hb : (k == a) = false := by simpa using h
        simp [nowAt, Instr.sameNow, hb, h2 (fun hm => hn (by simp [hm]))]
theorem und3 : Tryz.prog.underlying 3 = some (.int .i64) := by kernel_rfl
theorem denAt_ks (ks : List Int) (k : Int) : (k ∈ ks → ∃ i, denAt Tryz.prog 3 (ks.map ent) (iI k) = some (some i) ∧ ks[i]? = some k) ∧ (k ∉ ks → denAt Tryz.prog 3 (ks.map ent) (iI k) = some none) := by
  have h : denAt Tryz.prog 3 (ks.map ent) (iI k) = nowAt (.int .i64) (.int .i64 k) (ks.map (Value.int .i64)) 0 := by
    unfold denAt
    rw [keysOf_ks]
    simp [simpleK, und3, Ev.keyOf]
  rw [h]
  have := nowAt_ks k ks 0
  simpa using this
theorem set_same {α : Type} {l : List α} {i : Nat} {a : α} (h : l[i]? = some a) : l.set i a = l := by
  apply List.ext_getElem?
  intro q
  simp only [List.getElem?_set]
  grind
theorem den_ins {ν : List IV} {m key : SE} {ks : List Int} {k : Int} (h1 : m.den Tryz.prog ν = some (iM ks)) (h2 : key.den Tryz.prog ν = some (iI k)) : (SE.ins 3 m key .an).den Tryz.prog ν = some (iM (addK ks k)) := by
  simp only [SE.den, h1, h2, Option.bind_some]
  by_cases hm : k ∈ ks
  · obtain ⟨i, g1, g2⟩ := (denAt_ks ks k).1 hm
    rw [g1]
    simp only [addK, if_pos hm]
    rw [set_same]
    rw [List.getElem?_map, g2]; rfl
  · rw [(denAt_ks ks k).2 hm]
    simp [addK, if_neg hm, ent]
theorem den_has {ν : List IV} {m key : SE} {ks : List Int} {k : Int} (h1 : m.den Tryz.prog ν = some (iM ks)) (h2 : key.den Tryz.prog ν = some (iI k)) : (SE.has 3 m key).den Tryz.prog ν = some (iB (decide (k ∈ ks))) := by
  simp only [SE.den, h1, h2, Option.bind_some]
  by_cases hm : k ∈ ks
  · obtain ⟨i, g1, g2⟩ := (denAt_ks ks k).1 hm
    rw [g1]; simp [hm]
  · rw [(denAt_ks ks k).2 hm]; simp [hm]
theorem den_get {ν : List IV} {m key : SE} {ks : List Int} {k : Int} (h1 : m.den Tryz.prog ν = some (iM ks)) (h2 : key.den Tryz.prog ν = some (iI k)) : (SE.agn 0 (.get 3 m key .an)).den Tryz.prog ν = some (.agg []) := by
  simp only [SE.den, h1, h2, Option.bind_some]
  by_cases hm : k ∈ ks
  · obtain ⟨i, g1, g2⟩ := (denAt_ks ks k).1 hm
    rw [g1]
    simp [g2, ent]
  · rw [(denAt_ks ks k).2 hm]; simp
theorem mem_addK {ks : List Int} {k a : Int} : a ∈ addK ks k ↔ a ∈ ks ∨ a = k := by
  unfold addK
  split
  · constructor
    · exact .inl
    · rintro (h | rfl) <;> assumption
  · simp
theorem s22v0 {v0 v1 v6 v4 : IV} {i : Nat} {x : Ap} {ks : List Int} (hi : i < 100) (hl : x.gone.length ≤ 100) (hk : ∀ ks', (∀ a, a ∈ ks' ↔ a ∈ ks ∨ a ∈ x.gone) → k0 [iI (i + 1 : Nat), iM ks', v4]) :
    fir22v0.sat Tryz.prog CC Q [k0] [v0, v1, iI i, iM ks, v4, .agg [iI x.rule, iL x.heads, iL x.gone, iL x.made, iB x.failed, iL x.just], v6] := by
  have hwi := wrapi hi (by omega)
  refine sat_loop2 x.gone.length (fun j (q : List Int) => [iI j, iM q]) (fun j q => ∀ a, a ∈ q ↔ a ∈ ks ∨ a ∈ x.gone.take j) ks ?_ ?_ fun j q hj hq => ?_
  · simp [SE.den]
  · simp
  by_cases hlt : j < x.gone.length
  · have hwr := wrapi hlt (by omega)
    have hidx : denIdx 1 (iL x.gone) (iI (j : Nat)) = some (iI x.gone[j]) := idx_iL (List.getElem?_eq_getElem hlt)
    simp [SE.den, hlt, cellOk, hidx]
    have hins := den_ins (ν := [iM q, iI x.gone[j]]) (m := .var 0) (key := .var 1) (ks := q) (k := x.gone[j]) rfl rfl
    simp [SE.den] at hins
    simp only [iI] at hins
    refine ⟨_, hins, ?_⟩
    simp [SE.den, hwr]
    refine .mk (addK q x.gone[j]) (by simp) (by omega) fun a => ?_
    rw [mem_addK, hq a, List.take_succ_eq_append_getElem hlt, List.mem_append]
    simp [or_assoc]
  · rw [List.take_of_length_le (by omega)] at hq
    have := hk q hq
    simp [SE.den, hlt, cellOk, hwi]
    first | exact this | simpa using this
theorem s22v14 {v2 v3 v5 v6 v7 v9 v11 v12 a b c : IV} {n nx gv : Int} {lg : List Ap} {l o : List Fa} (hl : l.length ≤ 100) (hw : ∀ f ∈ l, WfF f)
    (hQ : Q (.tup [.agg [iFs o, iFs (freeF l n), iPs lg, iI nx, iI gv], iI 0])) :
    fir22v14.sat Tryz.prog CC Q [k0, k1] [.agg [a, b, c, iI nx, iI gv], iI n, v2, v3, iPs lg, v5, v6, v7, iFs l, v9, iFs o, v11, v12] := by
  refine sat_blk2 (DelP l n) ?_ ?_
  · exact s22v13 hl hw fun vs h => h
  · rintro vs ⟨a', b', rfl⟩
    refine ⟨rfl, ?_⟩
    simp [SE.den, cellOk]
    first | exact hQ | simpa using hQ
theorem s22v15 {v2 v3 v5 v6 v7 a b c : IV} {n nx gv : Int} {lg : List Ap} {l o : List Fa} (hl : l.length ≤ 100) (hw : ∀ f ∈ l, WfF f) (hol : o.length ≤ 100) (how : ∀ f ∈ o, WfF f)
    (hQ : Q (.tup [.agg [iFs (freeF o n), iFs (freeF l n), iPs lg, iI nx, iI gv], iI 0])) :
    fir22v15.sat Tryz.prog CC Q [k0, k1] [.agg [a, b, c, iI nx, iI gv], iI n, v2, v3, iPs lg, v5, v6, v7, iFs l, iFs o] := by
  refine sat_blk2 (DelP o n) ?_ ?_
  · exact s22v10 hol how fun vs h => h
  · rintro vs ⟨a', b', rfl⟩
    exact ⟨rfl, s22v14 hl hw hQ⟩
theorem s22v16 {v2 v3 v5 v6 a b c : IV} {n nx gv : Int} {lg : List Ap} {l o : List Fa} (hl : l.length ≤ 100) (hw : ∀ f ∈ l, WfF f) (hol : o.length ≤ 18) (how : ∀ f ∈ o, WfF f)
    (hQ : Q (.tup [.agg [iFs (freeF (mrg ltF [] o) n), iFs (freeF l n), iPs lg, iI nx, iI gv], iI 0])) :
    fir22v16.sat Tryz.prog CC Q [k0, k1] [.agg [a, b, c, iI nx, iI gv], iI n, v2, v3, iPs lg, v5, v6, iFs o, iFs l] := by
  refine sat_blk2 (fun vs => vs = [iFs (mrg ltF [] o)]) ?_ ?_
  · simp [SE.den]
    exact s22v7 hol rfl
  · rintro vs rfl
    refine ⟨rfl, s22v15 hl hw (by rw [mrg_len]; simp; omega) (fun f hf => how f ?_) hQ⟩
    have : ∀ (A o' : List Fa), f ∈ mrg ltF o' A → f ∈ o' ∨ f ∈ A := by
      intro A
      induction A with
      | nil => intro o' h; exact .inl h
      | cons x A ih =>
        intro o' h
        rcases ih _ h with h | h
        · rcases mem_insL.1 h with rfl | h
          · exact .inr (by simp)
          · exact .inl h
        · exact .inr (by simp [h])
    simpa using this o [] hf
theorem s22v17 {v2 a c : IV} {n nx gv : Int} {ks : List Int} {lg : List Ap} {past l : List Fa} (hp : l.length + past.length ≤ 18) (hpw : ∀ f ∈ past, WfF f) (hlw : ∀ f ∈ l, WfF f)
    (hQ : Q (.tup [.agg [iFs (freeF (mrg ltF [] (l ++ past.filter fun f => decide (f.id ∈ ks))) n), iFs (freeF (past.filter fun f => !decide (f.id ∈ ks)) n), iPs lg, iI nx, iI gv], iI 0])) :
    fir22v17.sat Tryz.prog CC Q [k0] [.agg [a, iFs past, c, iI nx, iI gv], iI n, v2, iM ks, iPs lg, iFs l] := by
  refine sat_loop2 past.length (fun i (a : List Fa × List Fa) => [iI i, iFs a.1, iFs a.2])
    (fun i a => a.1.length ≤ l.length + i ∧ a.2.length ≤ i ∧ l ++ past.filter (fun f => decide (f.id ∈ ks)) = a.1 ++ (past.drop i).filter (fun f => decide (f.id ∈ ks)) ∧ past.filter (fun f => !decide (f.id ∈ ks)) = a.2 ++ (past.drop i).filter (fun f => !decide (f.id ∈ ks))) (l, []) ?_ ?_ fun j ⟨wi, wo⟩ hj ⟨hwi, hwo, hJ1, hJ2⟩ => ?_
  · simp [SE.den]
  · simp
  simp only at hwi hwo hJ1 hJ2
  by_cases hlt : j < past.length
  · rw [List.drop_eq_getElem_cons hlt] at hJ1 hJ2
    have hw := wrapi hlt (by omega)
    have hcat := cat_F1 (a := wi) past[j] (by omega)
    have hcat2 := cat_F1 (a := wo) past[j] (by omega)
    have hget := den_get (ν := [iM ks, iI past[j].id]) (m := .var 0) (key := .var 1) (ks := ks) (k := past[j].id) rfl rfl
    have hhas := den_has (ν := [iM ks, iI past[j].id]) (m := .var 0) (key := .var 1) (ks := ks) (k := past[j].id) rfl rfl
    simp [SE.den] at hget hhas
    simp only [iI] at hget hhas
    simp [SE.den, hlt, iy_F hlt, cellOk]
    obtain ⟨hq, ha1, ha2⟩ := hhas
    refine ⟨⟨_, hget⟩, iB (decide (past[j].id ∈ ks)), ⟨hq, ha1, by rw [ha2]⟩, ?_⟩
    simp [SE.den, hw, hcat, hcat2, cellsOf]
    by_cases hc : past[j].id ∈ ks
    · left
      refine ⟨hc, .mk (wi ++ [past[j]], wo) (by simp) (by omega) ⟨by simp; omega, by simp; omega, ?_, ?_⟩⟩
      · rw [hJ1, List.filter_cons_of_pos (by simpa using hc)]; simp
      · rw [hJ2, List.filter_cons_of_neg (by simpa using hc)]
    · right
      refine ⟨hc, .mk (wi, wo ++ [past[j]]) (by simp) (by omega) ⟨by simp; omega, by simp; omega, ?_, ?_⟩⟩
      · rw [hJ1, List.filter_cons_of_neg (by simpa using hc)]
      · rw [hJ2, List.filter_cons_of_pos (by simpa using hc)]; simp
  · rw [List.drop_of_length_le (by omega)] at hJ1 hJ2
    simp only [List.filter_nil, List.append_nil] at hJ1 hJ2
    rw [hJ1, hJ2] at hQ
    have hwiW : ∀ f ∈ wi, WfF f := fun f hf => by
      rw [← hJ1] at hf
      rcases List.mem_append.1 hf with hf | hf
      · exact hlw f hf
      · exact hpw f (List.mem_filter.1 hf).1
    have hwoW : ∀ f ∈ wo, WfF f := fun f hf => hpw f (List.mem_filter.1 (by rw [hJ2]; exact hf)).1
    simp [SE.den, hlt]
    exact s22v16 (by omega) hwoW (by omega) hwiW hQ
theorem s22v18 {v2 c : IV} {n nx gv : Int} {ks : List Int} {lg : List Ap} {past l : List Fa} (hp : l.length + past.length ≤ 18) (hpw : ∀ f ∈ past, WfF f) (hlw : ∀ f ∈ l, WfF f)
    (hQ : Q (.tup [.agg [iFs (freeF (mrg ltF [] (l ++ past.filter fun f => decide (f.id ∈ ks))) n), iFs (freeF (past.filter fun f => !decide (f.id ∈ ks)) n), iPs lg, iI nx, iI gv], iI 0])) :
    fir22v18.sat Tryz.prog CC Q [k0] [.agg [iFs l, iFs past, c, iI nx, iI gv], iI n, v2, iM ks, iPs lg] := by
  have hcat := cat_F (a := []) (b := l) (by simp; omega)
  simp only [List.map_nil, List.nil_append] at hcat
  refine sat_blk2 (fun vs => vs = [iFs l]) ?_ ?_
  · simp only [iFs, List.map_nil] at hcat
    simp [SE.den, hcat, Meet]
    exact ⟨4, _, ⟨rfl, rfl⟩, by simp⟩
  · rintro vs rfl
    refine ⟨rfl, ?_⟩
    simp [SE.den, cellOk]
    exact s22v17 hp hpw hlw hQ
def retP (m : Me) (n : Int) : Me × Int :=
  if n < 1 ∨ m.given < n then (⟨[], [], [], 0, 0⟩, 13) else
  (⟨freeF (mrg ltF [] (m.facts ++ m.past.filter fun f => decide (f.id ∈ backM m n))) n, freeF (m.past.filter fun f => !decide (f.id ∈ backM m n)) n, m.log.filter (fun x => !decide (n ∈ x.just)), m.next, m.given⟩, 0)
structure SmM2 (m : Me) : Prop where
  w : WfM m
  fp : m.facts.length + m.past.length ≤ 18
  l : m.log.length ≤ 12
  g : ∀ x ∈ m.log, x.gone.length ≤ 8
theorem SmM.two {m : Me} (h : SmM m) : SmM2 m := ⟨h.w, by have := h.f; have := h.p; omega, h.l, h.g⟩
theorem c22w (m : Me) (n : Int) (hm : SmM2 m) : CC 22 false [encM m, iI n] (.tup [encM (retP m n).1, iI (retP m n).2]) := by
  have pt : Pure (.tup [encM (retP m n).1, iI (retP m n).2]) := .tup _ (by simp [pure_encM])
  refine CC.of ex22x n22 (t22 _ _) (by simp [pure_encM]) pt ?_
  simp [fir22x, SE.den, encM, cellOk]
  by_cases h1 : n < 1
  · left; exact ⟨h1, by simp [retP, h1]⟩
  right; refine ⟨by omega, ?_⟩
  by_cases h2 : m.given < n
  · left; exact ⟨h2, by simp [retP, h2]⟩
  right; refine ⟨by omega, ?_⟩
  have hret : retP m n = (⟨freeF (mrg ltF [] (m.facts ++ m.past.filter fun f => decide (f.id ∈ backM m n))) n, freeF (m.past.filter fun f => !decide (f.id ∈ backM m n)) n, m.log.filter (fun x => !decide (n ∈ x.just)), m.next, m.given⟩, 0) := by
    rw [retP, if_neg (by omega)]
  rw [hret]
  have hll := hm.l
  refine sat_loop2 m.log.length (fun i (a : List Int × List Ap) => [iI i, iM a.1, iPs a.2])
    (fun i (a : List Int × List Ap) => a.2.length ≤ i ∧ (∀ k : Int, k ∈ backM m n ↔ k ∈ a.1 ∨ k ∈ (((m.log.drop i).filter fun x : Ap => decide (n ∈ x.just)).flatMap fun x : Ap => x.gone)) ∧ m.log.filter (fun x => !decide (n ∈ x.just)) = a.2 ++ (m.log.drop i).filter fun x => !decide (n ∈ x.just)) ([], []) ?_ ?_ fun i ⟨ks, lg⟩ hi ⟨hg, hI1, hI2⟩ => ?_
  · simp [SE.den]
  · simp [backM]
  simp only at hg hI1 hI2
  by_cases hlt : i < m.log.length
  · rw [List.drop_eq_getElem_cons hlt] at hI1 hI2
    have hw := wrapi hlt hm.w.sl
    obtain ⟨w1, w2, w3, w4⟩ := hm.w.l _ (List.getElem_mem hlt)
    have hgl := hm.g _ (List.getElem_mem hlt)
    have hcat2 := cat_P1 (a := lg) m.log[i] (by omega)
    simp [SE.den, hlt, iy_P hlt, cellOk]
    refine ⟨_, c58 _ _ w4, ?_⟩
    simp [SE.den, hw, cellOk, hcat2, cellsOf]
    by_cases hc : n ∈ m.log[i].just
    · left
      refine ⟨hc, ?_⟩
      refine s22v0 (x := m.log[i]) (by omega) (by omega) fun ks' hks => .mk (ks', lg) (by simp) (by omega) ⟨by simp; omega, fun k => ?_, ?_⟩
      · rw [hI1 k, List.filter_cons_of_pos (by simpa using hc), List.flatMap_cons, List.mem_append, hks k, or_assoc]; simp
      · rw [hI2, List.filter_cons_of_neg (by simpa using hc)]
    · right
      refine ⟨hc, .mk (ks, lg ++ [m.log[i]]) (by simp) (by omega) ⟨by simp; omega, fun k => ?_, ?_⟩⟩
      · rw [hI1 k, List.filter_cons_of_neg (by simpa using hc)]; simp
      · rw [hI2, List.filter_cons_of_pos (by simpa using hc)]; simp
  · rw [List.drop_of_length_le (by omega)] at hI1 hI2
    simp at hI1 hI2
    have hf1 : (fun f : Fa => decide (f.id ∈ backM m n)) = fun f => decide (f.id ∈ ks) := by
      funext f; simp [hI1 f.id]
    have hf2 : (fun f : Fa => !decide (f.id ∈ backM m n)) = fun f => !decide (f.id ∈ ks) := by
      funext f; simp [hI1 f.id]
    rw [hf1, hf2, hI2]
    simp [SE.den, hlt]
    exact s22v18 hm.fp hm.w.p hm.w.f rfl
end Go.Proofs.YtggffkaadeagbaaGreat
