/- Facts, logs and memories: Same and Failed of both sides. -/
import Derived.Test.YtggffkaadeagbaaGreatRuE
set_option linter.all false
namespace Go.Proofs.YtggffkaadeagbaaGreat
open Go Go.Ev
theorem n75 : (Tryz.prog.funcs[75]?).map (·.params.size) = some 2 := by kernel_rfl
theorem t75 (z : IV) : tupOk Tryz.prog 75 z = true := by kernel_rfl
theorem n109 : (Tryz.prog.funcs[109]?).map (·.params.size) = some 2 := by kernel_rfl
theorem t109 (z : IV) : tupOk Tryz.prog 109 z = true := by kernel_rfl
theorem n52 : (Tryz.prog.funcs[52]?).map (·.params.size) = some 2 := by kernel_rfl
theorem t52 (z : IV) : tupOk Tryz.prog 52 z = true := by kernel_rfl
theorem n19 : (Tryz.prog.funcs[19]?).map (·.params.size) = some 2 := by kernel_rfl
theorem t19 (z : IV) : tupOk Tryz.prog 19 z = true := by kernel_rfl
theorem n29 : (Tryz.prog.funcs[29]?).map (·.params.size) = some 2 := by kernel_rfl
theorem t29 (z : IV) : tupOk Tryz.prog 29 z = true := by kernel_rfl
theorem n28 : (Tryz.prog.funcs[28]?).map (·.params.size) = some 1 := by kernel_rfl
theorem t28 (z : IV) : tupOk Tryz.prog 28 z = true := by kernel_rfl
theorem n27 : (Tryz.prog.funcs[27]?).map (·.params.size) = some 1 := by kernel_rfl
theorem t27 (z : IV) : tupOk Tryz.prog 27 z = true := by kernel_rfl
def WfF (f : Fa) : Prop := WfA f.a ∧ Sm f.j
def WfP (x : Ap) : Prop := Sm x.heads ∧ Sm x.gone ∧ Sm x.made ∧ Sm x.just
structure WfM (m : Me) : Prop where
  sf : Sm m.facts
  sp : Sm m.past
  sl : Sm m.log
  f : ∀ x ∈ m.facts, WfF x
  p : ∀ x ∈ m.past, WfF x
  l : ∀ x ∈ m.log, WfP x
theorem ix_F {l : List Fa} {i : Nat} (h : i < l.length) : denIdx 4 (iFs l) (iI (i : Nat)) = some (encF l[i]) := denIdx_nat (by simp [h]) rfl
theorem ix_A {l : List At} {i : Nat} (h : i < l.length) : denIdx 2 (iAs l) (iI (i : Nat)) = some (encA l[i]) := denIdx_nat (by simp [h]) rfl
theorem ix_P {l : List Ap} {i : Nat} (h : i < l.length) : denIdx 6 (iPs l) (iI (i : Nat)) = some (encP l[i]) := denIdx_nat (by simp [h]) rfl
theorem ix_T {l : List Tm} {i : Nat} (h : i < l.length) : denIdx 4 (iT l) (iI (i : Nat)) = some (encT l[i]) := denIdx_nat (by simp [h]) (by rw [encT_eq]; rfl)
def sameF (a b : Fa) : Bool := a.id == b.id && cmpA a.a b.a == 0 && a.j == b.j
def sameFs : List Fa → List Fa → Bool
  | [], [] => true
  | a :: l, b :: m => sameF a b && sameFs l m
  | _, _ => false
theorem sameFs_len : ∀ {l m : List Fa}, sameFs l m = true → l.length = m.length
  | [], [], _ => rfl
  | _ :: _, _ :: _, h => by
    simp only [sameFs, Bool.and_eq_true] at h
    simp [sameFs_len h.2]
  | [], _ :: _, h => by simp [sameFs] at h
  | _ :: _, [], h => by simp [sameFs] at h
def sameP (x y : Ap) : Bool := x.rule == y.rule && x.failed == y.failed && x.heads == y.heads && x.gone == y.gone && x.made == y.made && x.just == y.just
def samePs : List Ap → List Ap → Bool
  | [], [] => true
  | a :: l, b :: m => sameP a b && samePs l m
  | _, _ => false
theorem samePs_len : ∀ {l m : List Ap}, samePs l m = true → l.length = m.length
  | [], [], _ => rfl
  | _ :: _, _ :: _, h => by
    simp only [samePs, Bool.and_eq_true] at h
    simp [samePs_len h.2]
  | [], _ :: _, h => by simp [samePs] at h
  | _ :: _, [], h => by simp [samePs] at h
def sameM (a b : Me) : Bool := a.next == b.next && a.given == b.given && sameFs a.facts b.facts && sameFs a.past b.past && samePs a.log b.log
theorem c75 (a b : Fa) (ha : WfF a) : CC 75 false [encF a, encF b] (iB (sameF a b)) := by
  refine CC.of ex75 n75 (t75 _) (by simp [pure_encF]) (by simp) ?_
  have h := c133 a.a b.a ha.1
  simp only [encA] at h
  simp [fir75, SE.den, encF, cellOk]
  by_cases h1 : a.id = b.id
  · left
    refine ⟨h1, _, h, ?_⟩
    simp [SE.den]
    by_cases h2 : cmpA a.a b.a = 0
    · left
      refine ⟨h2, _, c78 a.j b.j ha.2, ?_⟩
      simp [SE.den, sameF, h1, h2]
    · right; exact ⟨h2, by simp [sameF, h2]⟩
  · right; exact ⟨h1, by simp [sameF, h1]⟩
theorem c109 (a b : Fa) (ha : WfF a) : CC 109 false [encF a, encF b] (iB (sameF a b)) := by
  refine CC.of ex109 n109 (t109 _) (by simp [pure_encF]) (by simp) ?_
  have h := c64 a.a b.a ha.1
  simp only [encA] at h
  simp [fir109, SE.den, encF, cellOk]
  by_cases h1 : a.id = b.id
  · left
    refine ⟨h1, _, h, ?_⟩
    simp [SE.den]
    by_cases h2 : cmpA a.a b.a = 0
    · left
      refine ⟨h2, _, c164 a.j b.j ha.2, ?_⟩
      simp [SE.den, sameF, h1, h2]
    · right; exact ⟨h2, by simp [sameF, h2]⟩
  · right; exact ⟨h1, by simp [sameF, h1]⟩
theorem c52 (l m : List Fa) (hl : Sm l) (hw : ∀ x ∈ l, WfF x) : CC 52 false [iFs l, iFs m] (iB (sameFs l m)) := by
  refine CC.of ex52 n52 (t52 _) (by simp) (by simp) ?_
  simp [fir52, SE.den]
  by_cases hlm : l.length = m.length
  · right
    refine ⟨by omega, ?_⟩
    refine sat_loop l.length (fun i (_ : Unit) => [iI i]) (fun i _ => sameFs l m = sameFs (l.drop i) (m.drop i)) () ?_ ?_ fun i _ hi hI => ?_
    · simp [SE.den]
    · simp
    by_cases hlt : i < l.length
    · have hlm' : i < m.length := by omega
      rw [List.drop_eq_getElem_cons hlt, List.drop_eq_getElem_cons hlm', sameFs] at hI
      have hw' := wrapi hlt hl
      have h3 := c109 l[i] m[i] (hw _ (List.getElem_mem hlt))
      simp only [encF] at h3
      simp [SE.den, hlt, hw', ix_F hlt, ix_F hlm', encF, cellOk]
      refine ⟨_, h3, ?_⟩
      simp [SE.den]
      by_cases h : sameF l[i] m[i] = true
      · right; exact ⟨h, by omega, by rw [hI]; simp [h]⟩
      · left; simp at h; exact ⟨h, by rw [hI]; simp [h]⟩
    · simp [SE.den, hlt]
      rw [hI, List.drop_of_length_le (by omega), List.drop_of_length_le (by omega)]; rfl
  · left
    refine ⟨by omega, ?_⟩
    cases h : sameFs l m
    · rfl
    · exact absurd (sameFs_len h) hlm
theorem c19 (a b : Me) (ha : WfM a) : CC 19 false [encM a, encM b] (iB (sameM a b)) := by
  refine CC.of ex19 n19 (t19 _) (by simp [pure_encM]) (by simp) ?_
  simp [fir19, SE.den, encM, cellOk]
  refine ⟨_, c52 a.facts b.facts ha.sf ha.f, ?_⟩
  simp [SE.den]
  cases h1 : sameFs a.facts b.facts
  · left; simp [sameM, h1]
  right; simp
  refine ⟨_, c52 a.past b.past ha.sp ha.p, ?_⟩
  simp [SE.den]
  cases h2 : sameFs a.past b.past
  · left; simp [sameM, h2]
  right; simp
  by_cases h3 : a.next = b.next
  · right; refine ⟨h3, ?_⟩
    by_cases h4 : a.given = b.given
    · right; refine ⟨h4, ?_⟩
      by_cases h5 : a.log.length = b.log.length
      · right; refine ⟨by omega, ?_⟩
        refine sat_loop a.log.length (fun i (_ : Unit) => [iI i]) (fun i _ => sameM a b = samePs (a.log.drop i) (b.log.drop i)) () ?_ ?_ fun i _ hi hI => ?_
        · simp [SE.den]
        · simp [sameM, h1, h2, h3, h4]
        by_cases hlt : i < a.log.length
        · have hlm' : i < b.log.length := by omega
          rw [List.drop_eq_getElem_cons hlt, List.drop_eq_getElem_cons hlm', samePs] at hI
          have hw' := wrapi hlt ha.sl
          obtain ⟨w1, w2, w3, w4⟩ := ha.l _ (List.getElem_mem hlt)
          simp [SE.den, hlt, hw', ix_P hlt, ix_P hlm', encP, cellOk]
          by_cases g1 : a.log[i].rule = b.log[i].rule
          · right; refine ⟨g1, ?_⟩
            by_cases g2 : a.log[i].failed = b.log[i].failed
            · right; refine ⟨g2, _, c53 _ _ w1, ?_⟩
              simp [SE.den]
              by_cases g3 : a.log[i].heads = b.log[i].heads
              · right; refine ⟨g3, _, c53 _ _ w2, ?_⟩
                simp [SE.den]
                by_cases g4 : a.log[i].gone = b.log[i].gone
                · right; refine ⟨g4, _, c53 _ _ w3, ?_⟩
                  simp [SE.den]
                  by_cases g5 : a.log[i].made = b.log[i].made
                  · right; refine ⟨g5, _, c53 _ _ w4, ?_⟩
                    simp [SE.den]
                    by_cases g6 : a.log[i].just = b.log[i].just
                    · right; exact ⟨g6, by omega, by rw [hI]; simp [sameP, g1, g2, g3, g4, g5, g6]⟩
                    · left; exact ⟨g6, by rw [hI]; simp [sameP, g6]⟩
                  · left; exact ⟨g5, by rw [hI]; simp [sameP, g5]⟩
                · left; exact ⟨g4, by rw [hI]; simp [sameP, g4]⟩
              · left; exact ⟨g3, by rw [hI]; simp [sameP, g3]⟩
            · left; exact ⟨g2, by rw [hI]; simp [sameP, g2]⟩
          · left; exact ⟨g1, by rw [hI]; simp [sameP, g1]⟩
        · simp [SE.den, hlt]
          rw [hI, List.drop_of_length_le (by omega), List.drop_of_length_le (by omega)]; rfl
      · left; refine ⟨by omega, ?_⟩
        cases h : samePs a.log b.log
        · simp [sameM, h]
        · exact absurd (samePs_len h) h5
    · left; exact ⟨h4, by simp [sameM, h4]⟩
  · left; exact ⟨h3, by simp [sameM, h3]⟩
theorem c29 (a b : Me) (ha : WfM a) : CC 29 false [encM a, encM b] (iB (sameM a b)) := by
  refine CC.of ex29 n29 (t29 _) (by simp [pure_encM]) (by simp) ?_
  simp [fir29, SE.den, encM, cellOk]
  by_cases h3 : a.next = b.next
  · left; refine ⟨h3, ?_⟩
    by_cases h4 : a.given = b.given
    · left; refine ⟨h4, ?_⟩
      by_cases h1 : a.facts.length = b.facts.length
      · right; refine ⟨by omega, ?_⟩
        refine sat_loop a.facts.length (fun i (_ : Unit) => [iI i]) (fun i _ => sameM a b = (sameFs (a.facts.drop i) (b.facts.drop i) && (sameFs a.past b.past && samePs a.log b.log))) () ?_ ?_ fun i _ hi hI => ?_
        · simp [SE.den]
        · simp [sameM, h3, h4, Bool.and_assoc]
        by_cases hlt : i < a.facts.length
        · have hlm' : i < b.facts.length := by omega
          rw [List.drop_eq_getElem_cons hlt, List.drop_eq_getElem_cons hlm', sameFs] at hI
          have hw' := wrapi hlt ha.sf
          have h3' := c75 a.facts[i] b.facts[i] (ha.f _ (List.getElem_mem hlt))
          simp only [encF] at h3'
          simp [SE.den, hlt, hw', ix_F hlt, ix_F hlm', encF, cellOk]
          refine ⟨_, h3', ?_⟩
          simp [SE.den]
          by_cases h : sameF a.facts[i] b.facts[i] = true
          · right; exact ⟨h, by omega, by rw [hI]; simp [h]⟩
          · left; simp at h; exact ⟨h, by rw [hI]; simp [h]⟩
        simp [SE.den, hlt]
        rw [List.drop_of_length_le (by omega), List.drop_of_length_le (by omega)] at hI
        simp [sameFs] at hI
        by_cases h2 : a.past.length = b.past.length
        · right; refine ⟨by omega, ?_⟩
          refine sat_loop a.past.length (fun i (_ : Unit) => [iI i]) (fun i _ => sameM a b = (sameFs (a.past.drop i) (b.past.drop i) && samePs a.log b.log)) () ?_ ?_ fun i _ hi hI => ?_
          · simp [SE.den]
          · simp [hI]
          by_cases hlt : i < a.past.length
          · have hlm' : i < b.past.length := by omega
            rw [List.drop_eq_getElem_cons hlt, List.drop_eq_getElem_cons hlm', sameFs] at hI
            have hw' := wrapi hlt ha.sp
            have h3' := c75 a.past[i] b.past[i] (ha.p _ (List.getElem_mem hlt))
            simp only [encF] at h3'
            simp [SE.den, hlt, hw', ix_F hlt, ix_F hlm', encF, cellOk]
            refine ⟨_, h3', ?_⟩
            simp [SE.den]
            by_cases h : sameF a.past[i] b.past[i] = true
            · right; exact ⟨h, by omega, by rw [hI]; simp [h]⟩
            · left; simp at h; exact ⟨h, by rw [hI]; simp [h]⟩
          simp [SE.den, hlt]
          rw [List.drop_of_length_le (by omega), List.drop_of_length_le (by omega)] at hI
          simp [sameFs] at hI
          by_cases h5 : a.log.length = b.log.length
          · right; refine ⟨by omega, ?_⟩
            refine sat_loop a.log.length (fun i (_ : Unit) => [iI i]) (fun i _ => sameM a b = samePs (a.log.drop i) (b.log.drop i)) () ?_ ?_ fun i _ hi hI => ?_
            · simp [SE.den]
            · simp [hI]
            by_cases hlt : i < a.log.length
            · have hlm' : i < b.log.length := by omega
              rw [List.drop_eq_getElem_cons hlt, List.drop_eq_getElem_cons hlm', samePs] at hI
              have hw' := wrapi hlt ha.sl
              obtain ⟨w1, w2, w3, w4⟩ := ha.l _ (List.getElem_mem hlt)
              simp [SE.den, hlt, hw', ix_P hlt, ix_P hlm', encP, cellOk]
              by_cases g1 : a.log[i].rule = b.log[i].rule
              · left; refine ⟨g1, ?_⟩
                by_cases g2 : a.log[i].failed = b.log[i].failed
                · left; refine ⟨g2, _, c78 _ _ w1, ?_⟩
                  simp [SE.den]
                  by_cases g3 : a.log[i].heads = b.log[i].heads
                  · left; refine ⟨g3, _, c78 _ _ w2, ?_⟩
                    simp [SE.den]
                    by_cases g4 : a.log[i].gone = b.log[i].gone
                    · left; refine ⟨g4, _, c78 _ _ w3, ?_⟩
                      simp [SE.den]
                      by_cases g5 : a.log[i].made = b.log[i].made
                      · left; refine ⟨g5, _, c78 _ _ w4, ?_⟩
                        simp [SE.den]
                        by_cases g6 : a.log[i].just = b.log[i].just
                        · right; exact ⟨g6, by omega, by rw [hI]; simp [sameP, g1, g2, g3, g4, g5, g6]⟩
                        · left; exact ⟨g6, by rw [hI]; simp [sameP, g6]⟩
                      · right; exact ⟨g5, by rw [hI]; simp [sameP, g5]⟩
                    · right; exact ⟨g4, by rw [hI]; simp [sameP, g4]⟩
                  · right; exact ⟨g3, by rw [hI]; simp [sameP, g3]⟩
                · right; exact ⟨g2, by rw [hI]; simp [sameP, g2]⟩
              · right; exact ⟨g1, by rw [hI]; simp [sameP, g1]⟩
            · simp [SE.den, hlt]
              rw [hI, List.drop_of_length_le (by omega), List.drop_of_length_le (by omega)]; rfl
          · left; refine ⟨by omega, ?_⟩
            cases h : samePs a.log b.log
            · simp [sameM, h]
            · exact absurd (samePs_len h) h5
        · left; refine ⟨by omega, ?_⟩
          cases h : sameFs a.past b.past
          · simp [sameM, h]
          · exact absurd (sameFs_len h) h2
      · left; refine ⟨by omega, ?_⟩
        cases h : sameFs a.facts b.facts
        · simp [sameM, h]
        · exact absurd (sameFs_len h) h1
    · right; exact ⟨h4, by simp [sameM, h4]⟩
  · right; exact ⟨h3, by simp [sameM, h3]⟩
/-! ### Failed -/
def failM (m : Me) : Bool := m.log.any (·.failed)
theorem c28 (m : Me) (ha : WfM m) : CC 28 false [encM m] (iB (failM m)) := by
  refine CC.of ex28 n28 (t28 _) (by simp [pure_encM]) (by simp) ?_
  simp [fir28, SE.den, encM, cellOk]
  refine sat_loop m.log.length (fun i (_ : Unit) => [iI i]) (fun i _ => failM m = (m.log.drop i).any (·.failed)) () ?_ ?_ fun i _ hi hI => ?_
  · simp [SE.den]
  · simp [failM]
  by_cases hlt : i < m.log.length
  · rw [List.drop_eq_getElem_cons hlt, List.any_cons] at hI
    have hw' := wrapi hlt ha.sl
    simp [SE.den, hlt, hw', ix_P hlt, encP, cellOk]
    cases h : m.log[i].failed
    · right; refine ⟨rfl, by omega, ?_⟩
      rw [hI, h]; simp
    · left; refine ⟨rfl, ?_⟩
      rw [hI, h]; simp
  · simp [SE.den, hlt]
    rw [hI, List.drop_of_length_le (by omega)]; rfl
theorem c27 (m : Me) (ha : WfM m) : CC 27 false [encM m] (iB (failM m)) := by
  refine CC.of ex27 n27 (t27 _) (by simp [pure_encM]) (by simp) ?_
  simp [fir27, SE.den, encM, cellOk]
  refine sat_blk (fun vs => ∃ n : Int, vs = [iI n] ∧ failM m = decide (0 ≤ n)) ?_ ?_
  · simp [SE.den, encM, cellOk]
    refine sat_loop m.log.length (fun i (_ : Unit) => [iI i]) (fun i _ => failM m = (m.log.drop i).any (·.failed)) () ?_ ?_ fun i _ hi hI => ?_
    · simp [SE.den]
    · simp [failM]
    by_cases hlt : i < m.log.length
    · rw [List.drop_eq_getElem_cons hlt, List.any_cons] at hI
      have hw' := wrapi hlt ha.sl
      simp [SE.den, hlt, hw', ix_P hlt, encP, cellOk]
      cases h : m.log[i].failed
      · right; refine ⟨rfl, by omega, ?_⟩
        rw [hI, h]; simp
      · left; refine ⟨rfl, ?_⟩
        rw [hI, h]; simp
    · simp [SE.den, hlt]
      rw [hI, List.drop_of_length_le (by omega)]; rfl
  · rintro vs ⟨n, rfl, hn⟩
    simp [SE.den, hn]
end Go.Proofs.YtggffkaadeagbaaGreat
