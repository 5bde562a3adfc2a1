/- The law: Retract, Facts, Failed and Same return the reference's results. -/
import Derived.Test.YtggffkaadeagbaaGreatRuR
import Derived.Test.YtggffkaadeagbaaGreatRuO
import Derived.Test.YtggffkaadeagbaaGreatRuQ
import Derived.Test.YtggffkaadeagbaaGreatRuJ
set_option linter.all false
namespace Go.Proofs.YtggffkaadeagbaaGreat
open Go Go.Ev
theorem n9 : (Tryz.prog.funcs[9]?).map (·.params.size) = some 2 := by kernel_rfl
theorem t9 (z : IV) : tupOk Tryz.prog 9 z = true := by kernel_rfl
theorem mem_mrg {α : Type} {lt : α → α → Bool} {f : α} : ∀ (A : List α) {o : List α}, f ∈ mrg lt o A → f ∈ o ∨ f ∈ A
  | [], _, h => .inl h
  | x :: A, o, h => by
    rcases mem_mrg A h with h | h
    · rcases mem_insL.1 h with rfl | h
      · exact .inr (by simp)
      · exact .inl h
    · exact .inr (by simp [h])
theorem wf_ret {m : Me} {n : Int} (hm : SmM m) : WfM (retP m n).1 := by
  unfold retP
  split
  · exact ⟨by simp, by simp, by simp, by simp, by simp, by simp⟩
  · have hf : ∀ f ∈ m.facts ++ m.past.filter (fun f => decide (f.id ∈ backM m n)), WfF f := fun f hf => by
      rcases List.mem_append.1 hf with hf | hf
      · exact hm.w.f f hf
      · exact hm.w.p f (List.mem_filter.1 hf).1
    have h1 := hm.f
    have h2 := hm.p
    have h3 := hm.l
    have hfl := List.length_filter_le (fun f : Fa => decide (f.id ∈ backM m n)) m.past
    have hpl := List.length_filter_le (fun f : Fa => !decide (f.id ∈ backM m n)) m.past
    refine ⟨?_, ?_, ?_, fun f hf' => ?_, fun f hf' => ?_, fun x hx => hm.w.l x (List.mem_filter.1 hx).1⟩
    · have := List.length_filter_le (fun f : Fa => !decide (n ∈ f.j)) (mrg ltF [] (m.facts ++ m.past.filter fun f => decide (f.id ∈ backM m n)))
      rw [mrg_len, List.length_append] at this
      show (freeF _ _).length ≤ _
      unfold freeF
      simp at this
      omega
    · have := List.length_filter_le (fun f : Fa => !decide (n ∈ f.j)) (m.past.filter fun f => !decide (f.id ∈ backM m n))
      show (freeF _ _).length ≤ _
      unfold freeF
      omega
    · have := List.length_filter_le (fun x : Ap => !decide (n ∈ x.just)) m.log
      show (List.filter _ _).length ≤ _
      omega
    · have := (List.mem_filter.1 hf').1
      rcases mem_mrg _ this with h | h
      · simp at h
      · exact hf f h
    · exact hm.w.p f (List.mem_filter.1 (List.mem_filter.1 hf').1).1
theorem wfA_facts {m : Me} (hm : SmM m) : Sm (factsR m) ∧ ∀ a ∈ factsR m, WfA a := by
  have h1 := hm.f
  rw [factsR, mergeA_eq]
  refine ⟨by show (mrg _ _ _).length ≤ _; rw [mrg_len]; simp; omega, fun a ha => ?_⟩
  rcases mem_mrg _ ha with h | h
  · simp at h
  · obtain ⟨f, hf, rfl⟩ := List.mem_map.1 h
    exact (hm.w.f f hf).1
theorem c9 (m : Me) (n : Int) (hw : WfM m) : CC 9 false [encM m, iI n] (iB true) := by
  refine CC.of ex9 n9 (t9 _) (by simp [pure_encM]) (by simp) ?_
  have p10 := c10 m hw
  simp only [encM] at p10
  simp [fir9, SE.den, encM, cellOk]
  refine ⟨_, p10, ?_⟩
  simp [SE.den]
  cases hs : smallB m
  · left; rfl
  right
  refine ⟨rfl, ?_⟩
  obtain ⟨b1, b2, b3, b4⟩ := small_bounds hw hs
  have hm : SmM m := ⟨hw, b1, b2, b3, b4⟩
  have p22 := c22 m n hm
  have p25 := c25 m n hm
  rw [← ret_eq] at p25
  have hwr := wf_ret (n := n) hm
  generalize retP m n = r at p22 p25 hwr
  obtain ⟨a, e⟩ := r
  simp only at p22 p25 hwr
  have p19 := c19 a a hwr
  have p24 := c24 m ordA b1 hw.f
  have p26 := c26 m b1 hw.f
  obtain ⟨hfs, hfw⟩ := wfA_facts hm
  have p23 := c23 (factsR m) (factsR m) hfs hfw
  have p27 := c27 m hw
  have p28 := c28 m hw
  have p29 := c29 m a hw
  have p19b := c19 m a hw
  have p29m := c29 m m hw
  rw [sameM_refl] at p19 p29m
  rw [sameAs_refl] at p23
  simp only [encM] at p22 p25 p19 p24 p26 p27 p28 p29 p19b p29m
  refine ⟨_, p22, ?_⟩
  simp [SE.den, cellOk]
  refine ⟨_, p25, ?_⟩
  simp [SE.den, cellOk]
  refine ⟨_, p19, ?_⟩
  simp [SE.den, cellOk]
  refine ⟨_, p24, ?_⟩
  simp [SE.den, cellOk]
  refine ⟨_, p26, ?_⟩
  simp [SE.den, cellOk]
  refine ⟨_, p23, ?_⟩
  simp [SE.den, cellOk]
  refine ⟨_, p27, ?_⟩
  simp [SE.den, cellOk]
  refine ⟨_, p28, ?_⟩
  simp [SE.den, cellOk]
  refine ⟨_, p29, ?_⟩
  simp [SE.den, cellOk]
  refine ⟨_, p19b, ?_⟩
  simp [SE.den, cellOk]
  refine ⟨_, p29m, ?_⟩
  simp [SE.den, cellOk]
  refine ⟨_, c15, ?_⟩
  simp [SE.den, cellOk]
end Go.Proofs.YtggffkaadeagbaaGreat
