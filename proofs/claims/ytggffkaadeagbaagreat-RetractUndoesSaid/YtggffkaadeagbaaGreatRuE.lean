/- Compare, CompareAtom, SameAtom, of both sides. -/
import Derived.Test.YtggffkaadeagbaaGreatRuD
set_option linter.all false
namespace Go.Proofs.YtggffkaadeagbaaGreat
open Go Go.Ev
theorem cmpT_eq (a b : Tm) : cmpT a b = or2 (cmpI (rk a.k) (rk b.k)) (if rk a.k = 0 then cmpI a.n b.n else if rk a.k = 1 then cmpI a.n b.n else if rk a.k = 2 then or2 (cmpI a.ts.length b.ts.length) (or2 (cmpS a.s b.s) (cmpL a.ts b.ts)) else or2 (cmpI a.k b.k) (or2 (cmpI a.n b.n) (cmpS a.s b.s))) := by
  cases a; cases b; simp only [cmpT, Tm.k, Tm.n, Tm.s, Tm.ts]; first | rfl | congr
theorem cmpI_len {α β : Type} {l : List α} {m : List β} (h : cmpI l.length m.length = 0) : l.length = m.length := by
  unfold cmpI at h
  split at h
  · omega
  · split at h <;> omega
theorem or2_ne {x y : Int} (h : ¬ x = 0) : or2 x y = x := if_neg h
theorem f190 (a b : Tm) (ha : WfT a) (hc : ∀ t ∈ a.ts, ∀ u, CC 190 false [encT t, encT u] (iI (cmpT t u))) : CC 190 false [encT a, encT b] (iI (cmpT a b)) := by
  refine CC.of ex190 n190 (t190 _) (by simp [pure_encT]) (by simp) ?_
  simp [fir190, SE.den, encT_eq, cellOk]
  refine ⟨_, c249 a.k, ?_⟩
  simp [SE.den]
  refine ⟨_, c249 b.k, ?_⟩
  simp [SE.den]
  refine ⟨_, c123 _ _, ?_⟩
  simp [SE.den]
  rw [cmpT_eq]
  by_cases h0 : cmpI (rk a.k) (rk b.k) = 0
  · right
    refine ⟨h0, ?_⟩
    refine ⟨_, c249 a.k, ?_⟩
    simp [SE.den, or2, h0]
    by_cases h1 : rk a.k = 0
    · left
      refine ⟨h1, _, c123 _ _, ?_⟩
      simp [SE.den, h1]
    · right
      refine ⟨h1, ?_⟩
      by_cases h2 : rk a.k = 1
      · left
        refine ⟨h2, _, c123 _ _, ?_⟩
        simp [SE.den, h2]
      · right
        refine ⟨h2, ?_⟩
        by_cases h3 : rk a.k = 2
        · left
          refine ⟨h3, _, c123 _ _, ?_⟩
          simp [SE.den, h3]
          by_cases h4 : cmpI a.ts.length b.ts.length = 0
          · right
            refine ⟨h4, _, c127 _ _, ?_⟩
            simp [SE.den, h4]
            by_cases h5 : cmpS a.s b.s = 0
            · right
              refine ⟨h5, _, c128 _ _ (cmpI_len h4) ((wfT_iff a).1 ha).1 hc, ?_⟩
              simp [SE.den, h5]
            · left; exact ⟨h5, by simp [h5]⟩
          · left; exact ⟨h4, by simp [h4]⟩
        · right
          refine ⟨h3, _, c123 _ _, ?_⟩
          simp [SE.den]
          refine ⟨_, c123 _ _, ?_⟩
          simp [SE.den]
          refine ⟨_, c127 _ _, ?_⟩
          simp [SE.den, isRaw1, cellsOf]
          refine ⟨_, c126 [_, _, _] (by simp), ?_⟩
          simp [SE.den, h1, h2, h3, or2]
          grind
  · left
    exact ⟨h0, by simp [or2, h0]⟩
theorem c190 : ∀ (a : Tm), WfT a → ∀ b : Tm, CC 190 false [encT a, encT b] (iI (cmpT a b))
  | .mk k n s ts, hw, b => f190 _ b hw fun t ht u => c190 t (((wfT_iff _).1 hw).2 t ht) u
  decreasing_by simp [Tm.ts] at ht; have := List.sizeOf_lt_of_mem ht; simp; omega
theorem c128' (l m : List Tm) (hlm : l.length = m.length) (hl : Sm l) (hw : ∀ t ∈ l, WfT t) : CC 128 false [iT l, iT m] (iI (cmpL l m)) :=
  c128 l m hlm hl fun t ht u => c190 t (hw t ht) u

/-! ### Constraints -/
def cmpA (a b : At) : Int := or2 (cmpS a.s b.s) (or2 (cmpI a.ts.length b.ts.length) (cmpL a.ts b.ts))
def WfA (a : At) : Prop := Sm a.ts ∧ ∀ t ∈ a.ts, WfT t
theorem cmpA_eq (a b : At) : cmpA a b = or2 (or2 (cmpS a.s b.s) (cmpI a.ts.length b.ts.length)) (cmpL a.ts b.ts) := by
  unfold cmpA or2; grind
theorem c66 (a b : At) (ha : WfA a) : CC 66 false [encA a, encA b] (iI (cmpA a b)) := by
  refine CC.of ex66 n66 (t66 _) (by simp [pure_encA]) (by simp) ?_
  simp [fir66, SE.den, encA, cellOk]
  refine ⟨_, c127 _ _, ?_⟩
  simp [SE.den]
  refine ⟨_, c123 _ _, ?_⟩
  simp [SE.den, isRaw1, cellsOf]
  refine ⟨_, c126 [_, _] (by simp), ?_⟩
  simp [SE.den]
  rw [cmpA_eq]
  by_cases h : or2 (cmpS a.s b.s) (cmpI a.ts.length b.ts.length) = 0
  · right
    have h0 : (or2 (cmpS a.s b.s) (or2 (cmpI a.ts.length b.ts.length) 0)) = 0 := by unfold or2 at h ⊢; grind
    have hl : a.ts.length = b.ts.length := cmpI_len (by unfold or2 at h; grind)
    refine ⟨h0, _, c128' _ _ hl ha.1 ha.2, ?_⟩
    simp [SE.den, h, or2]
    unfold or2 at h; simp [h]
  · left
    have h0 : (or2 (cmpS a.s b.s) (or2 (cmpI a.ts.length b.ts.length) 0)) = or2 (cmpS a.s b.s) (cmpI a.ts.length b.ts.length) := by unfold or2; grind
    rw [h0]
    exact ⟨h, (or2_ne h).symm⟩
theorem c66n (a b : At) (ha : WfA a) : CC 66 true [encA a, encA b] (iI (cmpA a b)) := by
  refine CC.of exn66 n66 (t66 _) (by simp [pure_encA]) (by simp) ?_
  simp [firn66, SE.den, encA, cellOk]
  refine ⟨_, c127 _ _, ?_⟩
  simp [SE.den]
  refine ⟨_, c123 _ _, ?_⟩
  simp [SE.den, isRaw1, cellsOf]
  refine ⟨_, c126 [_, _] (by simp), ?_⟩
  simp [SE.den, isRaw1]
  rw [cmpA_eq]
  by_cases h : or2 (cmpS a.s b.s) (cmpI a.ts.length b.ts.length) = 0
  · right
    have h0 : (or2 (cmpS a.s b.s) (or2 (cmpI a.ts.length b.ts.length) 0)) = 0 := by unfold or2 at h ⊢; grind
    have hl : a.ts.length = b.ts.length := cmpI_len (by unfold or2 at h; grind)
    refine ⟨h0, _, c128' _ _ hl ha.1 ha.2, ?_⟩
    simp [SE.den, h, or2, isRaw1]
    unfold or2 at h; simp [h]
  · left
    have h0 : (or2 (cmpS a.s b.s) (or2 (cmpI a.ts.length b.ts.length) 0)) = or2 (cmpS a.s b.s) (cmpI a.ts.length b.ts.length) := by unfold or2; grind
    rw [h0]
    exact ⟨h, (or2_ne h).symm⟩
theorem c133 (a b : At) (ha : WfA a) : CC 133 false [encA a, encA b] (iB (cmpA a b == 0)) := by
  refine CC.of ex133 n133 (t133 _) (by simp [pure_encA]) (by simp) ?_
  have h := c66 a b ha
  simp only [encA] at h
  simp [fir133, SE.den, encA, cellOk]
  refine ⟨_, h, ?_⟩
  simp [SE.den]
/-! ### The reference's -/
theorem c131 (l m : List Tm) (hlm : l.length = m.length) (hl : Sm l) (hc : ∀ t ∈ l, ∀ u, CC 191 false [encT t, encT u] (iI (cmpT t u))) : CC 131 false [iT l, iT m] (iI (cmpL l m)) := by
  refine CC.of ex131 n131 (t131 _) (by simp) (by simp) ?_
  simp [fir131, SE.den]
  refine sat_loop l.length (fun i (_ : Unit) => [iI i]) (fun i _ => cmpL l m = cmpL (l.drop i) (m.drop i)) () ?_ ?_ fun i _ hi hI => ?_
  · simp [SE.den]
  · simp
  by_cases hlt : i < l.length
  · have hlm' : i < m.length := by omega
    rw [List.drop_eq_getElem_cons hlt, List.drop_eq_getElem_cons hlm', cmpL] at hI
    have hw := wrapi hlt hl
    have h1 : denIdx 4 (iT l) (iI (i : Nat)) = some (encT l[i]) := denIdx_nat (by simp [hlt]) (by rw [encT_eq]; rfl)
    have h2 : denIdx 4 (iT m) (iI (i : Nat)) = some (encT m[i]) := denIdx_nat (by simp [hlm']) (by rw [encT_eq]; rfl)
    have h3 := hc l[i] (List.getElem_mem hlt) m[i]
    rw [encT_eq, encT_eq] at h3
    simp [SE.den, hlt, hlm', hw, h1, h2, encT_eq, cellOk]
    refine ⟨_, h3, ?_⟩
    simp [SE.den]
    by_cases h : cmpT l[i] m[i] = 0
    · right; exact ⟨h, by omega, by rw [hI]; simp [or2, h]⟩
    · left; exact ⟨h, by rw [hI]; simp [or2, h]⟩
  · simp [SE.den, hlt]
    refine ⟨_, c130 _ _, ?_⟩
    simp [SE.den]
    rw [hI, List.drop_of_length_le (by omega), cmpL, hlm]
    simp [cmpI]
theorem f191 (a b : Tm) (ha : WfT a) (hc : ∀ t ∈ a.ts, ∀ u, CC 191 false [encT t, encT u] (iI (cmpT t u))) : CC 191 false [encT a, encT b] (iI (cmpT a b)) := by
  refine CC.of ex191 n191 (t191 _) (by simp [pure_encT]) (by simp) ?_
  have ha5 := c250 a
  have hb5 := c250 b
  rw [encT_eq] at ha5 hb5
  simp [fir191, SE.den, encT_eq, cellOk]
  refine ⟨_, ha5, ?_⟩
  simp [SE.den]
  refine ⟨_, hb5, ?_⟩
  simp [SE.den]
  refine ⟨_, c130 _ _, ?_⟩
  simp [SE.den]
  rw [cmpT_eq]
  by_cases h0 : cmpI (rk a.k) (rk b.k) = 0
  · right
    refine ⟨h0, ?_⟩
    refine ⟨_, ha5, ?_⟩
    simp [SE.den, or2, h0]
    by_cases h1 : rk a.k = 0
    · left
      refine ⟨h1, _, c130 _ _, ?_⟩
      simp [SE.den, h1]
    · right
      refine ⟨h1, ?_⟩
      by_cases h2 : rk a.k = 1
      · left
        refine ⟨h2, _, c130 _ _, ?_⟩
        simp [SE.den, h2]
      · right
        refine ⟨h2, ?_⟩
        by_cases h3 : rk a.k = 2
        · left
          refine ⟨h3, _, c130 _ _, ?_⟩
          simp [SE.den, h3]
          by_cases h4 : cmpI a.ts.length b.ts.length = 0
          · left
            refine ⟨h4, _, c129 _ _, ?_⟩
            simp [SE.den, h4]
            by_cases h5 : cmpS a.s b.s = 0
            · left
              refine ⟨h5, _, c131 _ _ (cmpI_len h4) ((wfT_iff a).1 ha).1 hc, ?_⟩
              simp [SE.den, h5]
            · right; exact ⟨h5, by simp [h5]⟩
          · right; exact ⟨h4, by simp [h4]⟩
        · right
          refine ⟨h3, _, c130 _ _, ?_⟩
          simp [SE.den]
          by_cases h4 : cmpI a.k b.k = 0
          · left
            refine ⟨h4, _, c130 _ _, ?_⟩
            simp [SE.den]
            by_cases h5 : cmpI a.n b.n = 0
            · left
              refine ⟨h5, _, c129 _ _, ?_⟩
              simp [SE.den, h1, h2, h3, h4, h5]
            · right; exact ⟨h5, by simp [h1, h2, h3, h4, h5]⟩
          · right; exact ⟨h4, by simp [h1, h2, h3, h4]⟩
  · left
    exact ⟨h0, by simp [or2, h0]⟩
theorem c191 : ∀ (a : Tm), WfT a → ∀ b : Tm, CC 191 false [encT a, encT b] (iI (cmpT a b))
  | .mk k n s ts, hw, b => f191 _ b hw fun t ht u => c191 t (((wfT_iff _).1 hw).2 t ht) u
  decreasing_by simp [Tm.ts] at ht; have := List.sizeOf_lt_of_mem ht; simp; omega
theorem c131' (l m : List Tm) (hlm : l.length = m.length) (hl : Sm l) (hw : ∀ t ∈ l, WfT t) : CC 131 false [iT l, iT m] (iI (cmpL l m)) :=
  c131 l m hlm hl fun t ht u => c191 t (hw t ht) u
theorem c71 (a b : At) (ha : WfA a) : CC 71 false [encA a, encA b] (iI (cmpA a b)) := by
  refine CC.of ex71 n71 (t71 _) (by simp [pure_encA]) (by simp) ?_
  simp [fir71, SE.den, encA, cellOk]
  refine ⟨_, c129 _ _, ?_⟩
  simp [SE.den]
  by_cases h1 : cmpS a.s b.s = 0
  · left
    refine ⟨h1, _, c130 _ _, ?_⟩
    simp [SE.den]
    by_cases h2 : cmpI a.ts.length b.ts.length = 0
    · left
      refine ⟨h2, _, c131' _ _ (cmpI_len h2) ha.1 ha.2, ?_⟩
      simp [SE.den, cmpA, or2, h1, h2]
    · right; exact ⟨h2, by simp [cmpA, or2, h1, h2]⟩
  · right; exact ⟨h1, by simp [cmpA, or2, h1]⟩
theorem c71n (a b : At) (ha : WfA a) : CC 71 true [encA a, encA b] (iI (cmpA a b)) := by
  refine CC.of exn71 n71 (t71 _) (by simp [pure_encA]) (by simp) ?_
  simp [firn71, SE.den, encA, cellOk]
  refine ⟨_, c129 _ _, ?_⟩
  simp [SE.den, isRaw1]
  by_cases h1 : cmpS a.s b.s = 0
  · left
    refine ⟨h1, _, c130 _ _, ?_⟩
    simp [SE.den, isRaw1]
    by_cases h2 : cmpI a.ts.length b.ts.length = 0
    · left
      refine ⟨h2, _, c131' _ _ (cmpI_len h2) ha.1 ha.2, ?_⟩
      simp [SE.den, cmpA, or2, h1, h2, isRaw1]
    · right; exact ⟨h2, by simp [cmpA, or2, h1, h2]⟩
  · right; exact ⟨h1, by simp [cmpA, or2, h1]⟩
theorem c64 (a b : At) (ha : WfA a) : CC 64 false [encA a, encA b] (iB (cmpA a b == 0)) := by
  refine CC.of ex64 n64 (t64 _) (by simp [pure_encA]) (by simp) ?_
  have h := c71 a b ha
  simp only [encA] at h
  simp [fir64, SE.den, encA, cellOk]
  refine ⟨_, h, ?_⟩
  simp [SE.den]
end Go.Proofs.YtggffkaadeagbaaGreat
