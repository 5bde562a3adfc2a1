/- A part of the proof, no condition: comparisons are orders; memories behind Retract. -/
import Derived.Test.YtggffkaadeagbaaGreatRuH
import Derived.Test.YtggffkaadeagbaaGreatRuN
import Derived.Test.YtggffkaadeagbaaGreatRuQ
set_option linter.all false
namespace Go.Proofs.YtggffkaadeagbaaGreat
open Go Go.Ev
variable {Q : IV → Prop} {k0 k1 k2 k3 k4 k5 : List IV → Prop}
end Go.Proofs.YtggffkaadeagbaaGreat
namespace Go.Proofs.YtggffkaadeagbaaGreat
open Go Go.Ev
def T3 (x y z : Int) : Prop := x ≤ 0 → y ≤ 0 → z ≤ 0 ∧ (z = 0 → x = 0 ∧ y = 0)
theorem T3.or2 {x y z x' y' z' : Int} (h : T3 x y z) (k : x = 0 → y = 0 → z = 0 → T3 x' y' z') : T3 (or2 x x') (or2 y y') (or2 z z') := by
  intro h1 h2
  have hx : x ≤ 0 := by
    by_cases h0 : x = 0
    · omega
    · rw [or2_ne h0] at h1; exact h1
  have hy : y ≤ 0 := by
    by_cases h0 : y = 0
    · omega
    · rw [or2_ne h0] at h2; exact h2
  obtain ⟨hz, hz0⟩ := h hx hy
  by_cases h0 : z = 0
  · obtain ⟨hx0, hy0⟩ := hz0 h0
    have := k hx0 hy0 h0
    subst hx0 hy0 h0
    simp only [Proofs.YtggffkaadeagbaaGreat.or2, if_true] at h1 h2 ⊢
    exact this h1 h2
  · rw [or2_ne h0]
    exact ⟨hz, fun h => absurd h h0⟩
theorem or2_neg (x y : Int) : or2 (-x) (-y) = - or2 x y := by unfold or2; split <;> split <;> omega
theorem cmpI_neg (a b : Int) : cmpI b a = - cmpI a b := by unfold cmpI; split <;> split <;> (try split) <;> omega
theorem cmpI_T3 (a b c : Int) : T3 (cmpI a b) (cmpI b c) (cmpI a c) := by unfold T3 cmpI; grind
theorem cmpI_zero {a b : Int} (h : cmpI a b = 0) : a = b := by
  unfold cmpI at h
  split at h
  · omega
  · split at h <;> omega
theorem cmpS_cons (a b : UInt8) (l m : List UInt8) : cmpS (a :: l) (b :: m) = if a.toNat < b.toNat then -1 else if b.toNat < a.toNat then 1 else cmpS l m := by
  unfold cmpS
  rw [Op.bytesLess]
  by_cases h1 : a.toNat < b.toNat
  · have : a < b := UInt8.lt_iff_toNat_lt.2 h1
    simp [h1, this]
  · have h1' : ¬ a < b := fun h => h1 (UInt8.lt_iff_toNat_lt.1 h)
    by_cases h2 : b.toNat < a.toNat
    · have hne : ¬ a = b := fun h => by subst h; omega
      have hb : (a == b) = false := by simpa using hne
      simp [h1', hb, hne, h1, h2]
    · have he : a = b := UInt8.toNat_inj.1 (by omega)
      subst he
      simp
theorem cmpS_neg : ∀ a b : List UInt8, cmpS b a = - cmpS a b
  | [], [] => rfl
  | [], _ :: _ => rfl
  | _ :: _, [] => rfl
  | a :: l, b :: m => by
    have ih := cmpS_neg l m
    rw [cmpS_cons, cmpS_cons, ih]
    split <;> split <;> (try split) <;> omega
theorem cmpS_ne : ∀ (b : UInt8) (m : List UInt8), cmpS [] (b :: m) = -1 ∧ cmpS (b :: m) [] = 1 := fun _ _ => ⟨rfl, rfl⟩
theorem cmpS_T3 : ∀ a b c : List UInt8, T3 (cmpS a b) (cmpS b c) (cmpS a c)
  | [], [], [] => by intro _ _; exact ⟨Int.le_refl _, fun _ => ⟨rfl, rfl⟩⟩
  | [], [], c :: o => by intro _ _; rw [(cmpS_ne c o).1]; exact ⟨by omega, fun h => by omega⟩
  | [], b :: m, [] => by intro _ h; rw [(cmpS_ne b m).2] at h; omega
  | [], b :: m, c :: o => by intro _ _; rw [(cmpS_ne c o).1]; exact ⟨by omega, fun h => by omega⟩
  | a :: l, [], _ => by intro h; rw [(cmpS_ne a l).2] at h; omega
  | a :: l, b :: m, [] => by intro _ h; rw [(cmpS_ne b m).2] at h; omega
  | a :: l, b :: m, c :: o => by
    have ih := cmpS_T3 l m o
    unfold T3 at ih ⊢
    rw [cmpS_cons, cmpS_cons, cmpS_cons]
    intro h1 h2
    split at h1
    · split at h2
      · rw [if_pos (by omega)]; exact ⟨by omega, fun h => by omega⟩
      · split at h2
        · omega
        · rw [if_pos (by omega)]; exact ⟨by omega, fun h => by omega⟩
    · split at h1
      · omega
      · split at h2
        · rw [if_pos (by omega)]; exact ⟨by omega, fun h => by omega⟩
        · split at h2
          · omega
          · have g1 : ¬ a.toNat < c.toNat := by omega
            have g2 : ¬ c.toNat < a.toNat := by omega
            obtain ⟨k1, k2⟩ := ih h1 h2
            rw [if_neg g1, if_neg g2]
            refine ⟨k1, fun h => ?_⟩
            have := k2 h
            rw [if_neg (by assumption), if_neg (by assumption), if_neg (by assumption), if_neg (by assumption)]
            exact this
theorem antiL : ∀ (l m : List Tm), l.length = m.length → (∀ t ∈ l, ∀ u, cmpT u t = - cmpT t u) → cmpL m l = - cmpL l m
  | [], [], _, _ => rfl
  | t :: l, u :: m, h, k => by
    have ih := antiL l m (by simpa using h) fun t ht u => k t (by simp [ht]) u
    rw [cmpL, cmpL, ih, k t (by simp) u, or2_neg]
  | [], _ :: _, h, _ => by simp at h
  | _ :: _, [], h, _ => by simp at h
theorem rk_eq {a b : Int} (h : cmpI (rk a) (rk b) = 0) : rk b = rk a := (cmpI_zero h).symm
theorem anti1 (a b : Tm) (k : ∀ t ∈ a.ts, ∀ u, cmpT u t = - cmpT t u) : cmpT b a = - cmpT a b := by
  rw [cmpT_eq, cmpT_eq a b, cmpI_neg (rk a.k) (rk b.k)]
  by_cases h0 : cmpI (rk a.k) (rk b.k) = 0
  · have hr := rk_eq h0
    rw [hr] at h0 ⊢
    rw [h0]
    have e1 : ∀ x : Int, or2 (-0) x = x := fun x => by simp [or2]
    have e2 : ∀ x : Int, or2 0 x = x := fun x => by simp [or2]
    rw [e1, e2]
    split
    · exact cmpI_neg _ _
    · split
      · exact cmpI_neg _ _
      · split
        · rw [cmpI_neg (a.ts.length : Int) b.ts.length, cmpS_neg a.s b.s]
          by_cases hl : cmpI (a.ts.length : Int) b.ts.length = 0
          · rw [antiL a.ts b.ts (cmpI_len hl) k, or2_neg, or2_neg]
          · rw [or2_ne (by omega), or2_ne hl]
        · rw [cmpI_neg a.k b.k, cmpI_neg a.n b.n, cmpS_neg a.s b.s, or2_neg, or2_neg]
  · rw [or2_ne (by omega), or2_ne h0]
theorem antiT : ∀ (a b : Tm), cmpT b a = - cmpT a b
  | .mk k n s ts, b => anti1 _ b fun t ht u => antiT t u
  decreasing_by simp [Tm.ts] at ht; have := List.sizeOf_lt_of_mem ht; simp; omega
theorem transL : ∀ (l m o : List Tm), l.length = m.length → m.length = o.length → (∀ t ∈ l, ∀ u v, T3 (cmpT t u) (cmpT u v) (cmpT t v)) → T3 (cmpL l m) (cmpL m o) (cmpL l o)
  | [], [], [], _, _, _ => by intro _ _; exact ⟨Int.le_refl _, fun _ => ⟨rfl, rfl⟩⟩
  | t :: l, u :: m, v :: o, h1, h2, k => by
    rw [cmpL, cmpL, cmpL]
    exact (k t (by simp) u v).or2 fun _ _ _ => transL l m o (by simpa using h1) (by simpa using h2) fun t ht u v => k t (by simp [ht]) u v
  | [], _ :: _, _, h, _, _ => by simp at h
  | _ :: _, [], _, h, _, _ => by simp at h
  | _, [], _ :: _, _, h, _ => by simp at h
  | _, _ :: _, [], _, h, _ => by simp at h
theorem trans1 (a b c : Tm) (k : ∀ t ∈ a.ts, ∀ u v, T3 (cmpT t u) (cmpT u v) (cmpT t v)) : T3 (cmpT a b) (cmpT b c) (cmpT a c) := by
  rw [cmpT_eq a b, cmpT_eq b c, cmpT_eq a c]
  refine (cmpI_T3 (rk a.k) (rk b.k) (rk c.k)).or2 fun h1 h2 h3 => ?_
  rw [rk_eq h1]
  split
  · exact cmpI_T3 _ _ _
  · split
    · exact cmpI_T3 _ _ _
    · split
      · exact (cmpI_T3 _ _ _).or2 fun g1 g2 _ => (cmpS_T3 _ _ _).or2 fun _ _ _ => transL _ _ _ (cmpI_len g1) (cmpI_len g2) k
      · exact (cmpI_T3 _ _ _).or2 fun _ _ _ => (cmpI_T3 _ _ _).or2 fun _ _ _ => cmpS_T3 _ _ _
theorem transT : ∀ (a b c : Tm), T3 (cmpT a b) (cmpT b c) (cmpT a c)
  | .mk k n s ts, b, c => trans1 _ b c fun t ht u v => transT t u v
  decreasing_by simp [Tm.ts] at ht; have := List.sizeOf_lt_of_mem ht; simp; omega
theorem antiA (a b : At) : cmpA b a = - cmpA a b := by
  unfold cmpA
  rw [cmpS_neg a.s b.s, cmpI_neg (a.ts.length : Int) b.ts.length]
  by_cases hl : cmpI (a.ts.length : Int) b.ts.length = 0
  · rw [antiL a.ts b.ts (cmpI_len hl) fun t _ u => antiT t u, or2_neg, or2_neg]
  · rw [or2_ne (x := -cmpI (a.ts.length : Int) b.ts.length) (by omega), or2_ne hl, or2_neg]
theorem transA (a b c : At) : T3 (cmpA a b) (cmpA b c) (cmpA a c) := by
  unfold cmpA
  exact (cmpS_T3 _ _ _).or2 fun _ _ _ => (cmpI_T3 _ _ _).or2 fun g1 g2 _ => transL _ _ _ (cmpI_len g1) (cmpI_len g2) fun t _ u v => transT t u v
theorem ordA : Ord ltA := by
  refine ⟨fun x y z h1 h2 => ?_, fun x y h => ?_⟩
  · simp [ltA] at h1 h2 ⊢
    have := antiA z y
    obtain ⟨g1, g2⟩ := transA x y z (by omega) (by omega)
    by_cases h0 : cmpA x z = 0
    · have := (g2 h0).1; omega
    · omega
  · simp [ltA] at h ⊢
    have := antiA x y
    omega
theorem cmpA_refl (a : At) : cmpA a a = 0 := by have := antiA a a; omega
theorem sameF_refl (a : Fa) : sameF a a = true := by simp [sameF, cmpA_refl]
theorem sameFs_refl : ∀ l : List Fa, sameFs l l = true
  | [] => rfl
  | a :: l => by simp [sameFs, sameF_refl, sameFs_refl l]
theorem samePs_refl : ∀ l : List Ap, samePs l l = true
  | [] => rfl
  | a :: l => by simp [samePs, sameP, samePs_refl l]
theorem sameM_refl (m : Me) : sameM m m = true := by simp [sameM, sameFs_refl, samePs_refl]
end Go.Proofs.YtggffkaadeagbaaGreat
namespace Go.Proofs.YtggffkaadeagbaaGreat
open Go Go.Ev
theorem mem_mrg {α : Type} {lt : α → α → Bool} {f : α} : ∀ (A : List α) {o : List α}, f ∈ mrg lt o A → f ∈ o ∨ f ∈ A
  | [], _, h => .inl h
  | x :: A, o, h => by
    rcases mem_mrg A h with h | h
    · rcases mem_insL.1 h with rfl | h
      · exact .inr (by simp)
      · exact .inl h
    · exact .inr (by simp [h])
theorem wf_ret2 {m : Me} {n : Int} (hm : SmM2 m) : WfM (retP m n).1 := by
  unfold retP
  split
  · exact ⟨by simp, by simp, by simp, by simp, by simp, by simp⟩
  · have hf : ∀ f ∈ m.facts ++ m.past.filter (fun f => decide (f.id ∈ backM m n)), WfF f := fun f hf => by
      rcases List.mem_append.1 hf with hf | hf
      · exact hm.w.f f hf
      · exact hm.w.p f (List.mem_filter.1 hf).1
    have h1 := hm.fp
    have h3 := hm.l
    have hfl := List.length_filter_le (fun f : Fa => decide (f.id ∈ backM m n)) m.past
    have hpl := List.length_filter_le (fun f : Fa => !decide (f.id ∈ backM m n)) m.past
    refine ⟨?_, ?_, ?_, fun f hf' => ?_, fun f hf' => ?_, fun x hx => hm.w.l x (List.mem_filter.1 hx).1⟩
    · have := List.length_filter_le (fun f : Fa => !decide (n ∈ f.j)) (mrg ltF [] (m.facts ++ m.past.filter fun f => decide (f.id ∈ backM m n)))
      rw [mrg_len, List.length_append] at this
      show (freeF _ _).length ≤ _
      unfold freeF
      simp at this
      omega
    · have := List.length_filter_le (fun f : Fa => !decide (n ∈ f.j)) (m.past.filter fun f => !decide (f.id ∈ backM m n))
      show (freeF _ _).length ≤ _
      unfold freeF
      omega
    · have := List.length_filter_le (fun x : Ap => !decide (n ∈ x.just)) m.log
      show (List.filter _ _).length ≤ _
      omega
    · have := (List.mem_filter.1 hf').1
      rcases mem_mrg _ this with h | h
      · simp at h
      · exact hf f h
    · exact hm.w.p f (List.mem_filter.1 (List.mem_filter.1 hf').1).1
theorem wf_ret {m : Me} {n : Int} (hm : SmM m) : WfM (retP m n).1 := wf_ret2 hm.two
end Go.Proofs.YtggffkaadeagbaaGreat
