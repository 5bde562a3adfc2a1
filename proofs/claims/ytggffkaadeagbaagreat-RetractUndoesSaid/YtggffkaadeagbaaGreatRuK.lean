/- The reference's Facts; equal lists of constraints. -/
import Derived.Test.YtggffkaadeagbaaGreatRuG
import Derived.Test.YtggffkaadeagbaaGreatEvP
set_option linter.all false
namespace Go.Proofs.YtggffkaadeagbaaGreat
open Go Go.Ev
theorem n26 : (Tryz.prog.funcs[26]?).map (·.params.size) = some 1 := by kernel_rfl
theorem t26 (z : IV) : tupOk Tryz.prog 26 z = true := by kernel_rfl
theorem n23 : (Tryz.prog.funcs[23]?).map (·.params.size) = some 2 := by kernel_rfl
theorem t23 (z : IV) : tupOk Tryz.prog 23 z = true := by kernel_rfl
def fir26v0 : FIR :=
 (.loop (.ac (.i 0) (.ac (.b false) (.ac (.tr 2 .an) .an)))
 (.need (.len (.var 2))
 (.need (.ok (.bin .lss 3 (.var 4) (.len (.var 2))))
 (.test (.ok (.bin .lss 3 (.var 4) (.len (.var 2))))
 (.need (.ok (.un .not (.var 5)))
 (.test (.ok (.un .not (.var 5)))
 (.need (.idx 2 (.var 2) (.var 4))
 (.call 71 true (.ac (.ac (.fld (.var 3) 1) (.ac (.fld (.var 3) 2) .an)) (.ac (.ac (.ecl 2 (.var 2) (.var 4) 0) (.ac (.ecl 2 (.var 2) (.var 4) 1) .an)) .an))
 (.need (.ok (.var 7))
 (.need (.ok (.bin .lss 3 (.ok (.var 7)) (.i 0)))
 (.test (.ok (.bin .lss 3 (.ok (.var 7)) (.i 0)))
 (.bind (.cat 2 40 (.var 6) (.tr 2 (.ac (.ac (.fld (.var 3) 1) (.ac (.fld (.var 3) 2) .an)) .an)))
 (.need (.idx 2 (.var 2) (.var 4))
 (.bind (.cat 2 40 (.var 8) (.tr 2 (.ac (.ac (.ecl 2 (.var 2) (.var 4) 0) (.ac (.ecl 2 (.var 2) (.var 4) 1) .an)) .an)))
 (.need (.ok (.bin .add 3 (.var 4) (.i 1)))
 (.next 1 (.ac (.ok (.bin .add 3 (.var 4) (.i 1))) (.ac (.b true) (.ac (.var 9) .an))))))))
 (.need (.idx 2 (.var 2) (.var 4))
 (.bind (.cat 2 40 (.var 6) (.tr 2 (.ac (.ac (.ecl 2 (.var 2) (.var 4) 0) (.ac (.ecl 2 (.var 2) (.var 4) 1) .an)) .an)))
 (.need (.ok (.bin .add 3 (.var 4) (.i 1)))
 (.next 1 (.ac (.ok (.bin .add 3 (.var 4) (.i 1))) (.ac (.var 5) (.ac (.var 8) .an))))))))))))
 (.need (.idx 2 (.var 2) (.var 4))
 (.bind (.cat 2 40 (.var 6) (.tr 2 (.ac (.ac (.ecl 2 (.var 2) (.var 4) 0) (.ac (.ecl 2 (.var 2) (.var 4) 1) .an)) .an)))
 (.need (.ok (.bin .add 3 (.var 4) (.i 1)))
 (.next 1 (.ac (.ok (.bin .add 3 (.var 4) (.i 1))) (.ac (.var 5) (.ac (.var 7) .an)))))))))
 (.need (.ok (.un .not (.var 5)))
 (.test (.ok (.un .not (.var 5)))
 (.bind (.cat 2 40 (.var 6) (.tr 2 (.ac (.ac (.fld (.var 3) 1) (.ac (.fld (.var 3) 2) .an)) .an)))
 (.need (.ok (.bin .add 3 (.var 1) (.i 1)))
 (.next 0 (.ac (.ok (.bin .add 3 (.var 1) (.i 1))) (.ac (.var 7) .an)))))
 (.need (.ok (.bin .add 3 (.var 1) (.i 1)))
 (.next 0 (.ac (.ok (.bin .add 3 (.var 1) (.i 1))) (.ac (.var 6) .an))))))))))
def fir26v1 : FIR :=
 (.loop (.ac (.i 0) (.ac (.tr 2 .an) .an))
 (.need (.len (.fld (.var 0) 0))
 (.need (.ok (.bin .lss 3 (.var 1) (.len (.fld (.var 0) 0))))
 (.test (.ok (.bin .lss 3 (.var 1) (.len (.fld (.var 0) 0))))
 (.bind (.idx 4 (.fld (.var 0) 0) (.var 1))
 (.need (.agn 4 (.var 3))
 fir26v0))
 (.ret (.var 2))))))
/-- constraintref50.Facts -/
def fir26x : FIR :=
 (.need (.agn 5 (.var 0))
 fir26v1)
def cfg26x : Cfg := ⟨pures, joins, stops, [⟨0, 26, 9, [(0, (6, 0)), (0, (7, 0)), (0, (8, 0))], [(3, 3), (3, 0)], [], []⟩, ⟨0, 26, 3, [(0, (3, 0)), (0, (4, 0))], [(1, 3), (1, 0)], [], []⟩]⟩
theorem ex26x : execFn Tryz.prog cfg26x 400 false 26 = fir26x := by kernel_rfl
variable {Q : IV → Prop} {k0 k1 k2 k3 k4 k5 : List IV → Prop}
/-- An element is put before the first one that is greater. -/
def insL {α : Type} (lt : α → α → Bool) (b : α) : List α → List α
  | [] => [b]
  | x :: l => if lt b x then b :: x :: l else x :: insL lt b l
def ltA (a b : At) : Bool := decide (cmpA a b < 0)
def mergeA : List At → List At → List At
  | out, [] => out
  | out, b :: l => mergeA (insL ltA b out) l
theorem insL_len {α : Type} (lt : α → α → Bool) (b : α) : ∀ l : List α, (insL lt b l).length = l.length + 1
  | [] => rfl
  | x :: l => by
    unfold insL
    split
    · simp
    · simp [insL_len lt b l]
theorem iy_A {l : List At} {i : Nat} (h : i < l.length) : denIdx 2 (iAs l) (iI (i : Nat)) = some (.agg [iS l[i].s, iT l[i].ts]) := ix_A h
theorem iz_F {l : List Fa} {i : Nat} (h : i < l.length) : denIdx 4 (iFs l) (iI (i : Nat)) = some (.agg [iI l[i].id, iS l[i].a.s, iT l[i].a.ts, iL l[i].j]) := ix_F h
theorem cat_A {a b : List At} (h : a.length + b.length ≤ 1000) : denCat 2 40 (iAs a) (iAs b) = some (iAs (a ++ b)) := by
  have h2 : elemsOk 2 (b.map encA) = true := by
    unfold elemsOk
    rw [List.all_eq_true]
    intro e he
    obtain ⟨x, _, rfl⟩ := List.mem_map.1 he
    rfl
  simp [denCat, h2]
  omega
theorem cat_A1 {a : List At} (x : At) (h : a.length ≤ 900) : denCat 2 40 (iAs a) (.tree 2 [.agg [iS x.s, iT x.ts]]) = some (iAs (a ++ [x])) := cat_A (b := [x]) (by simp; omega)
theorem s26v0 {v0 : IV} {i : Nat} {x : Fa} {o : List At} (hi : i < 9) (ho : o.length ≤ 20) (hx : WfA x.a) (hk : k0 [iI (i + 1 : Nat), iAs (insL ltA x.a o)]) :
    fir26v0.sat Tryz.prog CC Q [k0] [v0, iI i, iAs o, .agg [iI x.id, iS x.a.s, iT x.a.ts, iL x.j]] := by
  have hw := wrapi hi (by omega)
  refine sat_loop2 o.length (fun k (p : Bool × List At) => [iI k, iB p.1, iAs p.2]) (fun k p => p.2.length ≤ k + 1 ∧ (p.1 = false → p.2.length ≤ k) ∧ insL ltA x.a o = p.2 ++ (if p.1 then o.drop k else insL ltA x.a (o.drop k))) (false, []) ?_ ?_ fun k ⟨dn, nx⟩ hk' ⟨hn1, hn2, hN⟩ => ?_
  · simp [SE.den]
  · simp
  simp only at hn1 hn2 hN
  by_cases hlt5 : k < o.length
  · rw [List.drop_eq_getElem_cons hlt5] at hN
    have hw2 := wrapi hlt5 (by omega)
    have hcat := cat_A1 (a := nx) o[k] (by omega)
    have hcat2 := cat_A1 (a := nx) x.a (by omega)
    have hcat3 := cat_A1 (a := nx ++ [x.a]) o[k] (by simp; omega)
    have hcat3o := hcat3
    simp only [iAs, List.map_append, List.map_cons, List.map_nil] at hcat3
    have hc71 := c71n x.a o[k] hx
    simp only [encA] at hc71
    cases dn with
    | true =>
      simp [SE.den, hlt5, hw2, iy_A hlt5, cellOk, cellsOf, hcat]
      refine .mk (true, nx ++ [o[k]]) (by simp) (by omega) ⟨by simp; omega, by simp, ?_⟩
      simp at hN; simp [hN]
    | false =>
      simp only [Bool.false_eq_true, if_false, insL] at hN
      have hn2' := hn2 rfl
      simp [SE.den, hlt5, iy_A hlt5, cellOk, cellsOf]
      refine ⟨_, hc71, ?_⟩
      simp [SE.den, iy_A hlt5, cellOk, cellsOf, hcat, hcat2, hcat3, hcat3o, hw2]
      by_cases hc : cmpA x.a o[k] < 0
      · rw [if_pos (by simpa [ltA] using hc)] at hN
        left
        refine ⟨hc, .mk (true, nx ++ [x.a] ++ [o[k]]) (by simp) (by omega) ⟨by simp; omega, by simp, ?_⟩⟩
        rw [hN]; simp
      · rw [if_neg (by simpa [ltA] using hc)] at hN
        right
        refine ⟨by omega, .mk (false, nx ++ [o[k]]) (by simp) (by omega) ⟨by simp; omega, by simp; omega, ?_⟩⟩
        rw [hN]; simp
  rw [List.drop_of_length_le (by omega)] at hN
  have hcat2 := cat_A1 (a := nx) x.a (by omega)
  cases dn with
  | true =>
    simp at hN
    rw [hN] at hk
    simp [SE.den, hw, hlt5, cellOk, cellsOf]
    first | exact hk | simpa using hk
  | false =>
    simp [insL] at hN
    rw [hN] at hk
    simp [SE.den, hw, hlt5, cellOk, cellsOf, hcat2]
    first | exact hk | simpa using hk
def factsR (m : Me) : List At := mergeA [] (m.facts.map (·.a))
theorem c26 (m : Me) (hl : m.facts.length ≤ 9) (hw : ∀ f ∈ m.facts, WfF f) : CC 26 false [encM m] (iAs (factsR m)) := by
  refine CC.of ex26x n26 (t26 _) (by simp [pure_encM]) (by simp) ?_
  simp [fir26x, SE.den, encM, cellOk]
  refine sat_loop m.facts.length (fun i (o : List At) => [iI i, iAs o]) (fun i o => o.length ≤ i ∧ factsR m = mergeA o ((m.facts.drop i).map (·.a))) [] ?_ ?_ fun j o hj ⟨ho, hG⟩ => ?_
  · simp [SE.den]
  · simp [factsR]
  by_cases hlt : j < m.facts.length
  · rw [List.drop_eq_getElem_cons hlt, List.map_cons, mergeA] at hG
    simp [SE.den, hlt, iz_F hlt, cellOk]
    exact s26v0 (by omega) (by omega) (hw _ (List.getElem_mem hlt)).1 ⟨insL ltA m.facts[j].a o, by simp, by omega, by rw [insL_len]; omega, by simpa using hG⟩
  · rw [List.drop_of_length_le (by omega), List.map_nil, mergeA] at hG
    simp [SE.den, hlt]
    rw [hG]
def sameAs : List At → List At → Bool
  | [], [] => true
  | a :: l, b :: m => (cmpA a b == 0) && sameAs l m
  | _, _ => false
theorem sameAs_len : ∀ {l m : List At}, sameAs l m = true → l.length = m.length
  | [], [], _ => rfl
  | _ :: _, _ :: _, h => by
    simp only [sameAs, Bool.and_eq_true] at h
    simp [sameAs_len h.2]
  | [], _ :: _, h => by simp [sameAs] at h
  | _ :: _, [], h => by simp [sameAs] at h
theorem c23 (l m : List At) (hl : Sm l) (hw : ∀ x ∈ l, WfA x) : CC 23 false [iAs l, iAs m] (iB (sameAs l m)) := by
  refine CC.of ex23 n23 (t23 _) (by simp) (by simp) ?_
  simp [fir23, SE.den]
  by_cases hlm : l.length = m.length
  · right
    refine ⟨by omega, ?_⟩
    refine sat_loop l.length (fun i (_ : Unit) => [iI i]) (fun i _ => sameAs l m = sameAs (l.drop i) (m.drop i)) () ?_ ?_ fun i _ hi hI => ?_
    · simp [SE.den]
    · simp
    by_cases hlt : i < l.length
    · have hlm' : i < m.length := by omega
      rw [List.drop_eq_getElem_cons hlt, List.drop_eq_getElem_cons hlm', sameAs] at hI
      have hw' := wrapi hlt hl
      have h3 := c64 l[i] m[i] (hw _ (List.getElem_mem hlt))
      simp only [encA] at h3
      simp [SE.den, hlt, hw', iy_A hlt, iy_A hlm', cellOk]
      refine ⟨_, h3, ?_⟩
      simp [SE.den]
      by_cases h : cmpA l[i] m[i] = 0
      · right; exact ⟨h, by omega, by rw [hI]; simp [h]⟩
      · left; exact ⟨h, by rw [hI]; simp [h]⟩
    · simp [SE.den, hlt]
      rw [hI, List.drop_of_length_le (by omega), List.drop_of_length_le (by omega)]; rfl
  · left
    refine ⟨by omega, ?_⟩
    cases h : sameAs l m
    · rfl
    · exact absurd (sameAs_len h) hlm
end Go.Proofs.YtggffkaadeagbaaGreat
