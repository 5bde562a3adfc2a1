/- The program's Facts. -/
import Derived.Test.YtggffkaadeagbaaGreatRuL
set_option linter.all false
namespace Go.Proofs.YtggffkaadeagbaaGreat
open Go Go.Ev
theorem n24 : (Tryz.prog.funcs[24]?).map (·.params.size) = some 1 := by kernel_rfl
theorem t24 (z : IV) : tupOk Tryz.prog 24 z = true := by kernel_rfl
def fir24v0 : FIR :=
 (.loop (.ac (.var 6) (.ac (.var 7) .an))
 (.need (.ok (.bin .gtr 3 (.var 8) (.var 4)))
 (.test (.ok (.bin .gtr 3 (.var 8) (.var 4)))
 (.need (.idx 2 (.var 9) (.var 8))
 (.need (.ok (.bin .sub 3 (.var 8) (.i 1)))
 (.need (.idx 2 (.var 9) (.ok (.bin .sub 3 (.var 8) (.i 1))))
 (.call 66 true (.ac (.ac (.ecl 2 (.var 9) (.var 8) 0) (.ac (.ecl 2 (.var 9) (.var 8) 1) .an)) (.ac (.ac (.ecl 2 (.var 9) (.ok (.bin .sub 3 (.var 8) (.i 1))) 0) (.ac (.ecl 2 (.var 9) (.ok (.bin .sub 3 (.var 8) (.i 1))) 1) .an)) .an))
 (.need (.ok (.var 10))
 (.need (.ok (.bin .lss 3 (.ok (.var 10)) (.i 0)))
 (.test (.ok (.bin .lss 3 (.ok (.var 10)) (.i 0)))
 (.need (.ok (.bin .sub 3 (.var 8) (.i 1)))
 (.need (.ok (.bin .sub 3 (.var 8) (.i 1)))
 (.need (.idx 2 (.var 9) (.ok (.bin .sub 3 (.var 8) (.i 1))))
 (.need (.idx 2 (.var 9) (.var 8))
 (.need (.idx 2 (.var 9) (.var 8))
 (.bind (.sets 2 (.var 9) (.var 8) (.ac (.ecl 2 (.var 9) (.ok (.bin .sub 3 (.var 8) (.i 1))) 0) (.ac (.ecl 2 (.var 9) (.ok (.bin .sub 3 (.var 8) (.i 1))) 1) .an)))
 (.need (.idx 2 (.var 11) (.ok (.bin .sub 3 (.var 8) (.i 1))))
 (.bind (.sets 2 (.var 11) (.ok (.bin .sub 3 (.var 8) (.i 1))) (.ac (.ecl 2 (.var 9) (.var 8) 0) (.ac (.ecl 2 (.var 9) (.var 8) 1) .an)))
 (.need (.ok (.bin .sub 3 (.var 8) (.i 1)))
 (.next 4 (.ac (.ok (.bin .sub 3 (.var 8) (.i 1))) (.ac (.var 12) .an))))))))))))
 (.need (.ok (.bin .add 3 (.var 6) (.i 1)))
 (.next 3 (.ac (.ok (.bin .add 3 (.var 6) (.i 1))) (.ac (.var 9) .an)))))))))))
 (.need (.ok (.bin .add 3 (.var 6) (.i 1)))
 (.next 3 (.ac (.ok (.bin .add 3 (.var 6) (.i 1))) (.ac (.var 9) .an)))))))
def fir24v1 : FIR :=
 (.loop (.ac (.ok (.bin .add 3 (.var 4) (.i 1))) (.ac (.var 5) .an))
 (.need (.ok (.bin .lss 3 (.var 6) (.var 3)))
 (.test (.ok (.bin .lss 3 (.var 6) (.var 3)))
 fir24v0
 (.need (.ok (.bin .add 3 (.var 3) (.i 20)))
 (.next 2 (.ac (.ok (.bin .add 3 (.var 3) (.i 20))) (.ac (.var 3) (.ac (.var 7) .an))))))))
def fir24v2 : FIR :=
 (.loop (.ac (.var 6) (.ac (.var 7) .an))
 (.need (.ok (.bin .gtr 3 (.var 8) (.var 4)))
 (.test (.ok (.bin .gtr 3 (.var 8) (.var 4)))
 (.need (.idx 2 (.var 9) (.var 8))
 (.need (.ok (.bin .sub 3 (.var 8) (.i 1)))
 (.need (.idx 2 (.var 9) (.ok (.bin .sub 3 (.var 8) (.i 1))))
 (.call 66 true (.ac (.ac (.ecl 2 (.var 9) (.var 8) 0) (.ac (.ecl 2 (.var 9) (.var 8) 1) .an)) (.ac (.ac (.ecl 2 (.var 9) (.ok (.bin .sub 3 (.var 8) (.i 1))) 0) (.ac (.ecl 2 (.var 9) (.ok (.bin .sub 3 (.var 8) (.i 1))) 1) .an)) .an))
 (.need (.ok (.var 10))
 (.need (.ok (.bin .lss 3 (.ok (.var 10)) (.i 0)))
 (.test (.ok (.bin .lss 3 (.ok (.var 10)) (.i 0)))
 (.need (.ok (.bin .sub 3 (.var 8) (.i 1)))
 (.need (.ok (.bin .sub 3 (.var 8) (.i 1)))
 (.need (.idx 2 (.var 9) (.ok (.bin .sub 3 (.var 8) (.i 1))))
 (.need (.idx 2 (.var 9) (.var 8))
 (.need (.idx 2 (.var 9) (.var 8))
 (.bind (.sets 2 (.var 9) (.var 8) (.ac (.ecl 2 (.var 9) (.ok (.bin .sub 3 (.var 8) (.i 1))) 0) (.ac (.ecl 2 (.var 9) (.ok (.bin .sub 3 (.var 8) (.i 1))) 1) .an)))
 (.need (.idx 2 (.var 11) (.ok (.bin .sub 3 (.var 8) (.i 1))))
 (.bind (.sets 2 (.var 11) (.ok (.bin .sub 3 (.var 8) (.i 1))) (.ac (.ecl 2 (.var 9) (.var 8) 0) (.ac (.ecl 2 (.var 9) (.var 8) 1) .an)))
 (.need (.ok (.bin .sub 3 (.var 8) (.i 1)))
 (.next 4 (.ac (.ok (.bin .sub 3 (.var 8) (.i 1))) (.ac (.var 12) .an))))))))))))
 (.need (.ok (.bin .add 3 (.var 6) (.i 1)))
 (.next 3 (.ac (.ok (.bin .add 3 (.var 6) (.i 1))) (.ac (.var 9) .an)))))))))))
 (.need (.ok (.bin .add 3 (.var 6) (.i 1)))
 (.next 3 (.ac (.ok (.bin .add 3 (.var 6) (.i 1))) (.ac (.var 9) .an)))))))
def fir24v3 : FIR :=
 (.loop .an
 (.need (.ok (.bin .leq 3 (.ok (.bin .mul 3 (.i 2) (.var 10))) (.len (.var 2))))
 (.test (.ok (.bin .leq 3 (.ok (.bin .mul 3 (.i 2) (.var 10))) (.len (.var 2))))
 (.need (.ok (.bin .add 3 (.i 0) (.var 10)))
 (.fail 119))
 (.need (.ok (.bin .add 3 (.i 0) (.var 10)))
 (.need (.ok (.bin .lss 3 (.ok (.bin .add 3 (.i 0) (.var 10))) (.len (.var 2))))
 (.test (.ok (.bin .lss 3 (.ok (.bin .add 3 (.i 0) (.var 10))) (.len (.var 2))))
 (.fail 119)
 (.need (.ok (.bin .mul 3 (.var 10) (.i 2)))
 (.next 4 (.ac (.ok (.bin .mul 3 (.i 2) (.var 10))) (.ac (.i 0) (.ac (.ok (.bin .mul 3 (.var 10) (.i 2))) .an)))))))))))
def fir24v4 : FIR :=
 (.loop (.ac (.var 3) (.ac (.var 4) (.ac (.i 20) .an)))
 (.need (.ok (.bin .lss 3 (.var 10) (.len (.var 2))))
 (.test (.ok (.bin .lss 3 (.var 10) (.len (.var 2))))
 (.need (.ok (.bin .mul 3 (.i 2) (.var 10)))
 fir24v3)
 (.next 1 (.ac (.var 7) .an)))))
def fir24v5 : FIR :=
 (.loop (.ac (.ok (.bin .add 3 (.var 4) (.i 1))) (.ac (.var 5) .an))
 (.need (.ok (.bin .lss 3 (.var 6) (.len (.var 2))))
 (.test (.ok (.bin .lss 3 (.var 6) (.len (.var 2))))
 fir24v2
 fir24v4)))
def fir24v6 : FIR :=
 (.loop (.ac (.i 20) (.ac (.i 0) (.ac (.var 2) .an)))
 (.need (.ok (.bin .leq 3 (.var 3) (.len (.var 2))))
 (.test (.ok (.bin .leq 3 (.var 3) (.len (.var 2))))
 (.need (.ok (.bin .add 3 (.var 4) (.i 1)))
 fir24v1)
 (.need (.ok (.bin .add 3 (.var 4) (.i 1)))
 fir24v5))))
def fir24v7 : FIR :=
 (.blk
 (.need (.len (.var 2))
 fir24v6) 1
 (.ret (.var 3)))
def fir24v8 : FIR :=
 (.loop (.ac (.i 0) (.ac (.tr 2 .an) .an))
 (.need (.ok (.bin .lss 3 (.var 1) (.len (.fld (.var 0) 0))))
 (.test (.ok (.bin .lss 3 (.var 1) (.len (.fld (.var 0) 0))))
 (.bind (.idx 4 (.fld (.var 0) 0) (.var 1))
 (.need (.agn 4 (.var 3))
 (.bind (.cat 2 40 (.var 2) (.tr 2 (.ac (.ac (.fld (.var 3) 1) (.ac (.fld (.var 3) 2) .an)) .an)))
 (.need (.ok (.bin .add 3 (.var 1) (.i 1)))
 (.next 0 (.ac (.ok (.bin .add 3 (.var 1) (.i 1))) (.ac (.var 4) .an)))))))
 fir24v7)))
/-- retract.Facts -/
def fir24x : FIR :=
 (.need (.agn 5 (.var 0))
 (.need (.len (.fld (.var 0) 0))
 fir24v8))
def cfg24x : Cfg := ⟨pures, joins, stops, [⟨0, 24, 1000020, [], [(1, 0)], [], []⟩, ⟨2, 24021009, 2, [(2, (7, 0)), (2, (8, 0))], [(1, 0)], [], []⟩, ⟨3, 24021009028, 1, [(3, (8, 0))], [(1, 0)], [], []⟩, ⟨3, 24021009019, 1, [(3, (8, 0))], [(1, 0)], [], []⟩, ⟨2, 24021009, 7, [(2, (7, 0)), (2, (6, 0)), (2, (8, 0))], [], [], []⟩, ⟨3, 24021009028, 4, [(3, (9, 0))], [(1, 0)], [], []⟩, ⟨3, 24021009019, 4, [(3, (9, 0))], [(1, 0)], [], []⟩, ⟨0, 24, 3, [(0, (3, 0)), (0, (9, 0))], [(1, 3), (1, 0)], [], []⟩]⟩
theorem ex24x : execFn Tryz.prog cfg24x 400 false 24 = fir24x := by kernel_rfl

variable {Q : IV → Prop} {k0 k1 k2 k3 k4 k5 : List IV → Prop}
theorem ig_A {l : List At} {i : Nat} {f : At} (h : l[i]? = some f) : denIdx 2 (iAs l) (iI (i : Nat)) = some (.agg [iS f.s, iT f.ts]) := denIdx_nat (by simp [h, encA]) rfl
theorem set_A {l : List At} {i : Nat} (f : At) (h : i < l.length) : denSet 2 (iAs l) (iI (i : Nat)) (.agg [iS f.s, iT f.ts]) = some (iAs (l.set i f)) := by
  simp [denSet, intI?, h, cellsOf, List.map_set, encA]
theorem swap_setA {α : Type} {A B : List α} {x y : α} {j : Nat} (h : A.length = j) : ((A ++ y :: x :: B).set (j + 1) y).set j x = A ++ x :: y :: B := by
  subst h
  simp [List.set_append]
/-- One fact goes down to its place. -/
theorem s24v2 {v0 v1 v2 v3 v5 : IV} {p rest : List At} {x : At} (hO : Ord ltA) (hs : Srt ltA p) (hlen : p.length + rest.length ≤ 100) (hxw : WfA x) (hk : k3 [iI (p.length + 1 : Nat), iAs (insL ltA x p ++ rest)]) :
    fir24v2.sat Tryz.prog CC Q [k0, k1, k2, k3] [v0, v1, v2, v3, iI 0, v5, iI p.length, iAs (p ++ x :: rest)] := by
  have hwp : IntKind.i64.wrap ((p.length : Int) + 1) = ((p.length + 1 : Nat) : Int) := wrapi (n := p.length + 1) (by omega) (by omega)
  refine sat_loopM2 (fun j : Nat => [iI j, iAs (p.take j ++ x :: (p.drop j ++ rest))]) (fun j => j ≤ p.length ∧ ∀ b ∈ p.drop j, ltA x b = true) (fun j => j) p.length ?_ ?_ fun j ⟨hj, hB⟩ => ?_
  · simp [SE.den]
  · simp
  have hexit : (∀ i, j = i + 1 → ∀ a, p[i]? = some a → ltA x a = false) → k3 [iI (p.length + 1 : Nat), iAs (p.take j ++ x :: (p.drop j ++ rest))] := fun hA => by
    have := ins_exit hO hs hj hB hA
    rw [show p.take j ++ x :: (p.drop j ++ rest) = (p.take j ++ x :: p.drop j) ++ rest by simp, this]
    exact hk
  cases j with
  | zero =>
    have h0 := hexit (fun i hi => by omega)
    simp only [List.take_zero, List.drop_zero, List.nil_append] at h0
    simp [SE.den, hwp]
    first | exact h0 | simpa using h0
  | succ j =>
    have hjl : j < p.length := by omega
    have hrow : p.take (j + 1) ++ x :: (p.drop (j + 1) ++ rest) = p.take j ++ p[j] :: x :: (p.drop (j + 1) ++ rest) := by
      rw [List.take_succ_eq_append_getElem hjl, List.append_assoc]; rfl
    have hAl : (p.take j).length = j := by simp; omega
    have hswap := swap_setA (A := p.take j) (B := p.drop (j + 1) ++ rest) (x := x) (y := p[j]) hAl
    have hg1 : (p.take j ++ p[j] :: x :: (p.drop (j + 1) ++ rest))[j + 1]? = some x := by
      rw [List.getElem?_append_right (by omega), hAl]; simp
    have hg2 : (p.take j ++ p[j] :: x :: (p.drop (j + 1) ++ rest))[j]? = some p[j] := by
      rw [List.getElem?_append_right (by omega), hAl]; simp
    have hnew : p.take j ++ x :: p[j] :: (p.drop (j + 1) ++ rest) = p.take j ++ x :: (p.drop j ++ rest) := by
      rw [List.drop_eq_getElem_cons hjl]; rfl
    rw [hrow] at hexit ⊢
    generalize p.take j ++ p[j] :: x :: (p.drop (j + 1) ++ rest) = R at hexit hg1 hg2 hswap ⊢
    have hRl : j + 1 < R.length := (List.getElem?_eq_some_iff.1 hg1).1
    have hw1 : IntKind.i64.wrap (j : Int) = j := wrap_in (by omega) (by omega)
    have hset1 : denSet 2 (iAs R) (iI ((j : Int) + 1)) (.agg [iS p[j].s, iT p[j].ts]) = some (iAs (R.set (j + 1) p[j])) := set_A (l := R) (i := j + 1) p[j] hRl
    have hg3 : (R.set (j + 1) p[j])[j]? = some p[j] := by rw [List.getElem?_set_ne (by omega)]; exact hg2
    have hset2 := set_A (l := R.set (j + 1) p[j]) (i := j) x (by simp; omega)
    rw [hswap, hnew] at hset2
    generalize R.set (j + 1) p[j] = R1 at hset1 hg3 hset2
    generalize hR2 : p.take j ++ x :: (p.drop j ++ rest) = R2 at hset2
    have hc66 := c66n x p[j] hxw
    simp only [encA] at hc66
    have hc1 : denIdx 2 (iAs R) (iI ((j : Int) + 1)) = _ := ig_A hg1
    have hc2 := ig_A hg2
    have hc3 := ig_A hg3
    have hpos : (0 : Int) < (j : Int) + 1 := by omega
    simp [SE.den, hw1, hc1, hc2, cellOk, cellsOf, hpos]
    refine ⟨_, hc66, ?_⟩
    simp [SE.den, hw1, hc1, hc2, hc3, cellOk, cellsOf, hset1, hset2, hwp]
    by_cases hlt : cmpA x p[j] < 0
    · left
      refine ⟨hlt, .mk j ?_ ⟨by omega, fun b hb => ?_⟩ (Nat.lt_succ_self _)⟩
      · rw [hR2]
      · rw [List.drop_eq_getElem_cons hjl] at hb
        rcases List.mem_cons.1 hb with rfl | hb
        · simpa [ltA] using hlt
        · exact hB b hb
    · right
      refine ⟨by omega, ?_⟩
      have h0 := hexit (fun i hi a ha => by
        have : i = j := by omega
        subst this
        rw [List.getElem?_eq_getElem hjl] at ha
        cases ha
        simpa [ltA] using hlt)
      first | exact h0 | simpa using h0
/-- The sort: the loop over the facts. -/
theorem s24v4 {v0 v1 v5 v6 : IV} {l cur : List At} (hl : l.length ≤ 18) (hk : k1 [iAs cur]) :
    fir24v4.sat Tryz.prog CC Q [k0, k1, k2, k3] [v0, v1, iAs l, iI 20, iI 0, v5, v6, iAs cur] := by
  refine sat_loopM2 (fun _ : Unit => [iI 20, iI 0, iI 20]) (fun _ => True) (fun _ => 0) () ?_ trivial fun _ _ => ?_
  · simp [SE.den]
  have : ¬ ((20 : Int) < l.length) := by omega
  simp [SE.den, this]
  exact hk
theorem s24v5 {v0 v1 : IV} {l : List At} (hO : Ord ltA) (hl : l.length ≤ 18) (hlw : ∀ a ∈ l, WfA a) (hk : k1 [iAs (mrg ltA [] l)]) :
    fir24v5.sat Tryz.prog CC Q [k0, k1, k2] [v0, v1, iAs l, iI 20, iI 0, iAs l] := by
  have hw0 : IntKind.i64.wrap 1 = 1 := rfl
  refine sat_loopM2 (fun p : Nat × List At => [iI p.1, iAs p.2]) (fun p => 1 ≤ p.1 ∧ p.2 = mrg ltA [] (l.take p.1) ++ l.drop p.1) (fun p => l.length + 1 - p.1) (1, l) ?_ ?_ fun ⟨i, cur⟩ ⟨hi, hc⟩ => ?_
  · simp [SE.den, hw0]
  · refine ⟨Nat.le_refl _, ?_⟩
    cases l with
    | nil => rfl
    | cons a l => simp [mrg, insL]
  simp only at hi hc
  by_cases hlt : i < l.length
  · rw [List.drop_eq_getElem_cons hlt] at hc
    simp [SE.den, hlt]
    subst hc
    have hpl : (mrg ltA [] (l.take i)).length = i := by rw [mrg_len]; simp; omega
    have h := s24v2 (Q := Q) (k0 := k0) (k1 := k1) (k2 := k2) (k3 := NxtM (fun p : Nat × List At => [iI p.1, iAs p.2]) (fun p => 1 ≤ p.1 ∧ p.2 = mrg ltA [] (l.take p.1) ++ l.drop p.1) (fun p => l.length + 1 - p.1) (i, mrg ltA [] (l.take i) ++ l[i] :: l.drop (i + 1)))
      (v0 := v0) (v1 := v1) (v2 := iAs l) (v3 := iI 20) (v5 := iAs l) (p := mrg ltA [] (l.take i)) (rest := l.drop (i + 1)) (x := l[i]) hO (srt_mrg hO _ List.Pairwise.nil) (by simp; omega) (hlw _ (List.getElem_mem hlt)) ?_
    · rw [hpl] at h
      simpa using h
    · rw [hpl]
      refine .mk (i + 1, insL ltA l[i] (mrg ltA [] (l.take i)) ++ l.drop (i + 1)) rfl ⟨by omega, ?_⟩ (by simp; omega)
      rw [List.take_succ_eq_append_getElem hlt, mrg_snoc]
  · simp [SE.den, hlt]
    rw [List.take_of_length_le (by omega), List.drop_of_length_le (by omega), List.append_nil] at hc
    rw [hc]
    exact s24v4 hl hk
theorem s24v6 {v0 v1 : IV} {l : List At} (hO : Ord ltA) (hl : l.length ≤ 18) (hlw : ∀ a ∈ l, WfA a) (hk : k1 [iAs (mrg ltA [] l)]) :
    fir24v6.sat Tryz.prog CC Q [k0, k1] [v0, v1, iAs l] := by
  refine sat_loopM2 (fun _ : Unit => [iI 20, iI 0, iAs l]) (fun _ => True) (fun _ => 0) () ?_ trivial fun _ _ => ?_
  · simp [SE.den]
  have : ¬ ((20 : Int) ≤ l.length) := by omega
  simp [SE.den, this]
  exact s24v5 hO hl hlw hk

theorem s24v7 {v0 v1 : IV} {l : List At} (hO : Ord ltA) (hl : l.length ≤ 18) (hlw : ∀ a ∈ l, WfA a) (hQ : Q (iAs (mrg ltA [] l))) :
    fir24v7.sat Tryz.prog CC Q [k0] [v0, v1, iAs l] := by
  refine sat_blk2 (fun vs => vs = [iAs (mrg ltA [] l)]) ?_ ?_
  · simp [SE.den]
    exact s24v6 hO hl hlw rfl
  · rintro vs rfl
    refine ⟨rfl, ?_⟩
    simp [SE.den]
    first | exact hQ | simpa using hQ
theorem c24 (m : Me) (hO : Ord ltA) (hl : m.facts.length ≤ 9) (hw : ∀ f ∈ m.facts, WfF f) : CC 24 false [encM m] (iAs (factsR m)) := by
  refine CC.of ex24x n24 (t24 _) (by simp [pure_encM]) (by simp) ?_
  simp [fir24x, SE.den, encM, cellOk]
  refine sat_loop2 m.facts.length (fun i (o : List At) => [iI i, iAs o]) (fun i o => o = (m.facts.take i).map (·.a)) [] ?_ ?_ fun j o hj ho => ?_
  · simp [SE.den]
  · simp
  by_cases hlt : j < m.facts.length
  · have hwr := wrapi hlt (by omega)
    have hcat := cat_A1 (a := o) m.facts[j].a (by rw [ho]; simp; omega)
    simp [SE.den, hlt, iz_F hlt, cellOk, cellsOf, hcat, hwr]
    refine .mk (o ++ [m.facts[j].a]) (by simp) (by omega) ?_
    have hjm : j < (m.facts.map (·.a)).length := by simpa using hlt
    have h2 := List.take_succ_eq_append_getElem hjm
    rw [List.getElem_map] at h2
    rw [ho]
    simp only [List.map_take]
    exact h2.symm
  · rw [List.take_of_length_le (by omega)] at ho
    simp [SE.den, hlt]
    refine s24v7 hO (by rw [ho]; simp; omega) (fun a ha => ?_) ?_
    · rw [ho] at ha
      obtain ⟨f, hf, rfl⟩ := List.mem_map.1 ha
      exact (hw f hf).1
    · rw [ho, factsR, mergeA_eq]
end Go.Proofs.YtggffkaadeagbaaGreat
