/- The law's own bounds: Small and what it calls. -/
import Derived.Test.YtggffkaadeagbaaGreatRuG
set_option linter.all false
namespace Go.Proofs.YtggffkaadeagbaaGreat
open Go Go.Ev
theorem n206 : (Tryz.prog.funcs[206]?).map (·.params.size) = some 1 := by kernel_rfl
theorem t206 (z : IV) : tupOk Tryz.prog 206 z = true := by kernel_rfl
theorem n158 : (Tryz.prog.funcs[158]?).map (·.params.size) = some 1 := by kernel_rfl
theorem t158 (z : IV) : tupOk Tryz.prog 158 z = true := by kernel_rfl
theorem n102 : (Tryz.prog.funcs[102]?).map (·.params.size) = some 1 := by kernel_rfl
theorem t102 (z : IV) : tupOk Tryz.prog 102 z = true := by kernel_rfl
theorem n44 : (Tryz.prog.funcs[44]?).map (·.params.size) = some 1 := by kernel_rfl
theorem t44 (z : IV) : tupOk Tryz.prog 44 z = true := by kernel_rfl
theorem n31 : (Tryz.prog.funcs[31]?).map (·.params.size) = some 1 := by kernel_rfl
theorem t31 (z : IV) : tupOk Tryz.prog 31 z = true := by kernel_rfl
theorem n30 : (Tryz.prog.funcs[30]?).map (·.params.size) = some 1 := by kernel_rfl
theorem t30 (z : IV) : tupOk Tryz.prog 30 z = true := by kernel_rfl
theorem n10 : (Tryz.prog.funcs[10]?).map (·.params.size) = some 2 := by kernel_rfl
theorem t10 (z : IV) : tupOk Tryz.prog 10 z = true := by kernel_rfl
/-- constraintlaw23.Programs -/
def fir30 : FIR :=
 (.need (.agn 2 (.var 0))
 (.need (.len (.fld (.var 0) 0))
 (.need (.ok (.bin .gtr 3 (.len (.fld (.var 0) 0)) (.i 12)))
 (.test (.ok (.bin .gtr 3 (.len (.fld (.var 0) 0)) (.i 12)))
 (.ret (.b false))
 (.need (.len (.fld (.var 0) 1))
 (.need (.ok (.bin .gtr 3 (.len (.fld (.var 0) 1)) (.i 8)))
 (.test (.ok (.bin .gtr 3 (.len (.fld (.var 0) 1)) (.i 8)))
 (.ret (.b false))
 (.loop (.ac (.i 0) .an)
 (.need (.len (.fld (.var 0) 1))
 (.need (.ok (.bin .lss 3 (.var 1) (.len (.fld (.var 0) 1))))
 (.test (.ok (.bin .lss 3 (.var 1) (.len (.fld (.var 0) 1))))
 (.bind (.idx 6 (.fld (.var 0) 1) (.var 1))
 (.need (.agn 6 (.var 2))
 (.need (.len (.fld (.var 2) 1))
 (.need (.ok (.bin .gtr 3 (.len (.fld (.var 2) 1)) (.i 3)))
 (.test (.ok (.bin .gtr 3 (.len (.fld (.var 2) 1)) (.i 3)))
 (.ret (.b false))
 (.need (.len (.fld (.var 2) 2))
 (.need (.ok (.bin .gtr 3 (.len (.fld (.var 2) 2)) (.i 3)))
 (.test (.ok (.bin .gtr 3 (.len (.fld (.var 2) 2)) (.i 3)))
 (.ret (.b false))
 (.need (.len (.fld (.var 2) 1))
 (.need (.len (.fld (.var 2) 2))
 (.need (.ok (.bin .add 3 (.len (.fld (.var 2) 1)) (.len (.fld (.var 2) 2))))
 (.need (.ok (.bin .gtr 3 (.ok (.bin .add 3 (.len (.fld (.var 2) 1)) (.len (.fld (.var 2) 2)))) (.i 3)))
 (.test (.ok (.bin .gtr 3 (.ok (.bin .add 3 (.len (.fld (.var 2) 1)) (.len (.fld (.var 2) 2)))) (.i 3)))
 (.ret (.b false))
 (.need (.len (.fld (.var 2) 3))
 (.need (.ok (.bin .gtr 3 (.len (.fld (.var 2) 3)) (.i 6)))
 (.test (.ok (.bin .gtr 3 (.len (.fld (.var 2) 3)) (.i 6)))
 (.ret (.b false))
 (.need (.len (.fld (.var 2) 4))
 (.need (.ok (.bin .gtr 3 (.len (.fld (.var 2) 4)) (.i 6)))
 (.test (.ok (.bin .gtr 3 (.len (.fld (.var 2) 4)) (.i 6)))
 (.ret (.b false))
 (.call 44 false (.ac (.fld (.var 2) 1) .an)
 (.need (.ok (.var 3))
 (.need (.ok (.un .not (.ok (.var 3))))
 (.test (.ok (.un .not (.ok (.var 3))))
 (.ret (.b false))
 (.call 44 false (.ac (.fld (.var 2) 2) .an)
 (.need (.ok (.var 4))
 (.need (.ok (.un .not (.ok (.var 4))))
 (.test (.ok (.un .not (.ok (.var 4))))
 (.ret (.b false))
 (.call 79 false (.ac (.fld (.var 2) 3) (.ac (.i 6) .an))
 (.need (.ok (.var 5))
 (.need (.ok (.un .not (.ok (.var 5))))
 (.test (.ok (.un .not (.ok (.var 5))))
 (.ret (.b false))
 (.call 79 false (.ac (.fld (.var 2) 4) (.ac (.i 6) .an))
 (.need (.ok (.var 6))
 (.need (.ok (.un .not (.ok (.var 6))))
 (.test (.ok (.un .not (.ok (.var 6))))
 (.ret (.b false))
 (.need (.ok (.bin .add 3 (.var 1) (.i 1)))
 (.next 0 (.ac (.ok (.bin .add 3 (.var 1) (.i 1))) .an))))))))))))))))))))))))))))))))))))))
 (.ret (.b true)))))))))))))
def cfg30 : Cfg := ⟨pures, joins, stops, [⟨0, 30, 4, [(0, (3, 0))], [], [], []⟩]⟩
theorem ex30 : execFn Tryz.prog cfg30 400 false 30 = fir30 := by kernel_rfl
def argsT (t : Tm) : List Tm := if t.k = 2 then t.ts else []
theorem c206 (t : Tm) : CC 206 false [encT t] (iT (argsT t)) := by
  refine CC.of ex206 n206 (t206 _) (by simp [pure_encT]) (by simp) ?_
  simp [fir206, SE.den, encT_eq, cellOk, argsT]
  by_cases h : t.k = 2
  · left; simp [h]
  · right; simp [h]
mutual
def sizeT : Tm → Int
  | .mk k _ _ ts => if k = 2 then sizeL 1 ts else 1
def sizeL : Int → List Tm → Int
  | acc, [] => acc
  | acc, t :: l => sizeL (IntKind.i64.wrap (acc + sizeT t)) l
end
theorem sizeT_eq (t : Tm) : sizeT t = sizeL 1 (argsT t) := by
  obtain ⟨k, n, s, ts⟩ := t
  show sizeT (.mk k n s ts) = sizeL 1 (if k = 2 then ts else [])
  by_cases hk : k = 2 <;> simp [sizeT, hk, sizeL]
theorem argsT_mem {t u : Tm} (h : u ∈ argsT t) : u ∈ t.ts := by
  unfold argsT at h
  split at h
  · exact h
  · simp at h
theorem f158 (t : Tm) (hl : Sm t.ts) (hc : ∀ u ∈ t.ts, CC 158 false [encT u] (iI (sizeT u))) : CC 158 false [encT t] (iI (sizeT t)) := by
  refine CC.of ex158 n158 (t158 _) (by simp [pure_encT]) (by simp) ?_
  have h := c206 t
  rw [encT_eq] at h
  simp [fir158, SE.den, encT_eq, cellOk]
  refine ⟨_, h, ?_⟩
  simp [SE.den]
  have hal : (argsT t).length ≤ 9223372036854775807 := by unfold argsT; split <;> simp_all
  refine sat_loop (argsT t).length (fun i (a : Int) => [iI i, iI a]) (fun i a => sizeT t = sizeL a ((argsT t).drop i)) 1 ?_ ?_ fun i a hi hI => ?_
  · simp [SE.den]
  · simp [sizeT_eq]
  by_cases hlt : i < (argsT t).length
  · rw [List.drop_eq_getElem_cons hlt, sizeL] at hI
    have hw := wrapi hlt hal
    have hm : (argsT t)[i] ∈ t.ts := argsT_mem (List.getElem_mem hlt)
    have h3 := hc _ hm
    rw [encT_eq] at h3
    simp [SE.den, hlt, hw, ix_T hlt, encT_eq, cellOk]
    refine ⟨_, h3, ?_⟩
    simp [SE.den, hw]
    exact ⟨by omega, hI⟩
  · simp [SE.den, hlt]
    rw [hI, List.drop_of_length_le (by omega), sizeL]
theorem c158 : ∀ t : Tm, WfT t → CC 158 false [encT t] (iI (sizeT t))
  | .mk k n s ts, hw => f158 _ ((wfT_iff _).1 hw).1 fun u hu => c158 u (((wfT_iff _).1 hw).2 u hu)
  decreasing_by simp [Tm.ts] at hu; have := List.sizeOf_lt_of_mem hu; simp; omega
def tinyL : Int → List Tm → Bool
  | _, [] => true
  | acc, t :: l => if 60 < IntKind.i64.wrap (acc + sizeT t) then false else tinyL (IntKind.i64.wrap (acc + sizeT t)) l
def tinyB (l : List Tm) : Bool := if 8 < l.length then false else tinyL 0 l
theorem c102 (l : List Tm) (hw : ∀ t ∈ l, WfT t) : CC 102 false [iT l] (iB (tinyB l)) := by
  refine CC.of ex102 n102 (t102 _) (by simp) (by simp) ?_
  simp [fir102, SE.den]
  by_cases h8 : 8 < l.length
  · left; exact ⟨by omega, by simp [tinyB, h8]⟩
  right; refine ⟨by omega, ?_⟩
  refine sat_loop l.length (fun i (a : Int) => [iI i, iI a]) (fun i a => tinyB l = tinyL a (l.drop i)) 0 ?_ ?_ fun i a hi hI => ?_
  · simp [SE.den]
  · simp [tinyB, h8]
  by_cases hlt : i < l.length
  · rw [List.drop_eq_getElem_cons hlt, tinyL] at hI
    have hwr := wrapi hlt (by omega)
    have h3 := c158 l[i] (hw _ (List.getElem_mem hlt))
    rw [encT_eq] at h3
    simp [SE.den, hlt, hwr, ix_T hlt, encT_eq, cellOk]
    refine ⟨_, h3, ?_⟩
    simp [SE.den, hwr]
    by_cases hs : 60 < IntKind.i64.wrap (a + sizeT l[i])
    · left; exact ⟨hs, by rw [hI, if_pos hs]⟩
    · right; exact ⟨by omega, by omega, by rw [hI, if_neg hs]⟩
  · simp [SE.den, hlt]
    rw [hI, List.drop_of_length_le (by omega), tinyL]
def atomsB (l : List At) : Bool := l.all fun a => tinyB a.ts
theorem c44n (l : List At) (hl : Sm l) (hw : ∀ a ∈ l, WfA a) : CC 44 true [iAs l] (iB (atomsB l)) := by
  refine CC.of exn44 n44 (t44 _) (by simp) (by simp) ?_
  simp [firn44, SE.den]
  refine sat_loop l.length (fun i (_ : Unit) => [iI i]) (fun i _ => atomsB l = atomsB (l.drop i)) () ?_ ?_ fun i _ hi hI => ?_
  · simp [SE.den]
  · simp
  by_cases hlt : i < l.length
  · rw [List.drop_eq_getElem_cons hlt, atomsB, atomsB, List.all_cons] at hI
    have hwr := wrapi hlt hl
    simp [SE.den, hlt, hwr, ix_A hlt, encA, cellOk, isRaw1]
    refine ⟨_, c102 l[i].ts (hw _ (List.getElem_mem hlt)).2, ?_⟩
    simp [SE.den, hwr, isRaw1]
    cases ht : tinyB l[i].ts
    · left; refine ⟨rfl, ?_⟩; rw [atomsB, hI, ht]; simp
    · right; refine ⟨rfl, by omega, ?_⟩; rw [atomsB, hI, ht]; simp [atomsB]
  · simp [SE.den, hlt, isRaw1]
    rw [hI, List.drop_of_length_le (by omega)]; simp [atomsB]
def factB (f : Fa) : Bool := decide (f.j.length ≤ 20) && atomsB [f.a]
def factsB (l : List Fa) : Bool := decide (l.length ≤ 9) && l.all factB
theorem c31 (l : List Fa) (hw : ∀ f ∈ l, WfF f) : CC 31 false [iFs l] (iB (factsB l)) := by
  refine CC.of ex31 n31 (t31 _) (by simp) (by simp) ?_
  simp [fir31, SE.den]
  by_cases h9 : 9 < l.length
  · left; exact ⟨by omega, by simp [factsB]; omega⟩
  right; refine ⟨by omega, ?_⟩
  refine sat_loop l.length (fun i (_ : Unit) => [iI i]) (fun i _ => factsB l = (l.drop i).all factB) () ?_ ?_ fun i _ hi hI => ?_
  · simp [SE.den]
  · simp [factsB]; omega
  by_cases hlt : i < l.length
  · rw [List.drop_eq_getElem_cons hlt, List.all_cons] at hI
    have hwr := wrapi hlt (by omega)
    have hwf := hw _ (List.getElem_mem hlt)
    simp [SE.den, hlt, hwr, ix_F hlt, encF, cellOk, cellsOf]
    by_cases h20 : 20 < l[i].j.length
    · left; refine ⟨by omega, ?_⟩
      rw [hI, factB]; simp; intro h; omega
    right; refine ⟨by omega, ?_⟩
    have h3 := c44n [l[i].a] (by simp) (by simpa using hwf.1)
    simp only [iAs, List.map_cons, List.map_nil, encA] at h3
    refine ⟨_, h3, ?_⟩
    simp [SE.den, hwr]
    cases ht : atomsB [l[i].a]
    · left; refine ⟨rfl, ?_⟩; rw [hI, factB, ht]; simp
    · right; refine ⟨rfl, by omega, ?_⟩; rw [hI, factB, ht]; simp; omega
  · simp [SE.den, hlt]
    rw [hI, List.drop_of_length_le (by omega)]; simp
theorem c30 : CC 30 false [.agg [.tree 2 [], .tree 6 []]] (iB true) := by
  have p1 : Pure (.agg [.tree 2 [], .tree 6 []]) := .agg _ (by simp; exact ⟨.tree _ _ (by simp), .tree _ _ (by simp)⟩)
  refine CC.of ex30 n30 (t30 _) (by simpa using p1) (by simp) ?_
  simp [fir30, SE.den, cellOk]
  refine sat_loop 0 (fun i (_ : Unit) => [iI i]) (fun i _ => True) () ?_ ?_ fun i _ hi hI => ?_
  · simp [SE.den]
  · trivial
  have : i = 0 := by omega
  subst this
  simp [SE.den]
def logB (x : Ap) : Bool := decide (x.heads.length ≤ 8) && (decide (x.gone.length ≤ 8) && (decide (x.made.length ≤ 20) && decide (x.just.length ≤ 20)))
def smallB (m : Me) : Bool := factsB m.facts && (factsB m.past && (decide (m.log.length ≤ 12) && m.log.all logB))
theorem c10 (m : Me) (hm : WfM m) : CC 10 false [.agg [.tree 2 [], .tree 6 []], encM m] (iB (smallB m)) := by
  have p1 : Pure (.agg [.tree 2 [], .tree 6 []]) := .agg _ (by simp; exact ⟨.tree _ _ (by simp), .tree _ _ (by simp)⟩)
  refine CC.of ex10 n10 (t10 _) (by simpa [pure_encM] using p1) (by simp) ?_
  simp [fir10, SE.den, encM, cellOk]
  refine ⟨_, c30, ?_⟩
  simp [SE.den]
  refine ⟨_, c31 m.facts hm.f, ?_⟩
  simp [SE.den]
  cases h1 : factsB m.facts
  · left; simp [smallB, h1]
  right; simp
  refine ⟨_, c31 m.past hm.p, ?_⟩
  simp [SE.den]
  cases h2 : factsB m.past
  · left; simp [smallB, h2]
  right; simp
  by_cases h12 : 12 < m.log.length
  · left; refine ⟨by omega, ?_⟩
    simp [smallB]; intro _ _ h; omega
  right; refine ⟨by omega, ?_⟩
  refine sat_loop m.log.length (fun i (_ : Unit) => [iI i]) (fun i _ => smallB m = (m.log.drop i).all logB) () ?_ ?_ fun i _ hi hI => ?_
  · simp [SE.den]
  · simp [smallB, h1, h2]; omega
  by_cases hlt : i < m.log.length
  · rw [List.drop_eq_getElem_cons hlt, List.all_cons] at hI
    have hwr := wrapi hlt (by omega)
    simp [SE.den, hlt, hwr, ix_P hlt, encP, cellOk]
    rw [hI, logB]
    by_cases a1 : 8 < m.log[i].heads.length
    · left; exact ⟨by omega, by simp; intro h; omega⟩
    right; refine ⟨by omega, ?_⟩
    by_cases a2 : 8 < m.log[i].gone.length
    · left; exact ⟨by omega, by simp; intro _ h; omega⟩
    right; refine ⟨by omega, ?_⟩
    by_cases a3 : 20 < m.log[i].made.length
    · left; exact ⟨by omega, by simp; intro _ _ h; omega⟩
    right; refine ⟨by omega, ?_⟩
    by_cases a4 : 20 < m.log[i].just.length
    · left; exact ⟨by omega, by simp; intro _ _ _ h; omega⟩
    right; exact ⟨by omega, by omega, by rw [decide_eq_true (by omega), decide_eq_true (by omega), decide_eq_true (by omega), decide_eq_true (by omega)]; simp⟩
  · simp [SE.den, hlt]
    rw [hI, List.drop_of_length_le (by omega)]; simp
theorem small_bounds {m : Me} (hm : WfM m) (h : smallB m = true) : m.facts.length ≤ 9 ∧ m.past.length ≤ 9 ∧ m.log.length ≤ 12 ∧ ∀ x ∈ m.log, x.gone.length ≤ 8 := by
  simp only [smallB, factsB, Bool.and_eq_true, decide_eq_true_eq, List.all_eq_true, logB] at h
  exact ⟨h.1.1, h.2.1.1, h.2.2.1, fun x hx => (h.2.2.2 x hx).2.1⟩
end Go.Proofs.YtggffkaadeagbaaGreat
