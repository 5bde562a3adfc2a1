/- The reference's Retract. -/
import Derived.Test.YtggffkaadeagbaaGreatRuH
import Derived.Test.YtggffkaadeagbaaGreatEvP
set_option linter.all false
namespace Go.Proofs.YtggffkaadeagbaaGreat
open Go Go.Ev
theorem n25 : (Tryz.prog.funcs[25]?).map (·.params.size) = some 2 := by kernel_rfl
theorem t25 (a b : IV) : tupOk Tryz.prog 25 (.tup [a, b]) = true := by kernel_rfl
variable {Q : IV → Prop} {k0 k1 k2 k3 k4 k5 : List IV → Prop}
/-- The rest of the past without the justification; the result. -/
theorem s25v2 {v2 v3 v5 v6 v7 v8 v10 v11 v12 v13 v14 v15 v17 a b c : IV} {n nx gv : Int} {lg : List Ap} {wo o : List Fa} (hl : wo.length ≤ 9) (hw : ∀ f ∈ wo, WfF f)
    (hQ : Q (.tup [.agg [iFs o, iFs (freeF wo n), iPs lg, iI nx, iI gv], iI 0])) :
    fir25v2.sat Tryz.prog CC Q [k0, k1, k2, k3, k4, k5] [.agg [a, b, c, iI nx, iI gv], iI n, v2, v3, iPs lg, v5, v6, v7, v8, iFs wo, v10, v11, v12, v13, v14, v15, iFs o, v17] := by
  refine sat_loop wo.length (fun i (a : List Fa) => [iI i, iFs a]) (fun i a => a.length ≤ i ∧ freeF wo n = a ++ freeF (wo.drop i) n) [] ?_ ?_ fun j fr hj ⟨hfr, hF⟩ => ?_
  · simp [SE.den]
  · simp
  by_cases hlt : j < wo.length
  · rw [List.drop_eq_getElem_cons hlt] at hF
    have hwr := wrapi hlt (by omega)
    have hcat := cat_F1 (a := fr) wo[j] (by omega)
    simp [SE.den, hlt, hwr, iy_F hlt, cellOk, cellsOf]
    refine ⟨_, c67n _ _ (hw _ (List.getElem_mem hlt)).2, ?_⟩
    simp [SE.den, hlt, hwr, iy_F hlt, cellOk, hcat, cellsOf]
    by_cases hc : n ∈ wo[j].j
    · right
      refine ⟨hc, fr, rfl, by omega, by omega, ?_⟩
      rw [hF, freeF, List.filter_cons_of_neg (by simpa using hc), freeF]
    · left
      refine ⟨hc, fr ++ [wo[j]], by simp, by omega, by simp; omega, ?_⟩
      rw [hF, freeF, List.filter_cons_of_pos (by simpa using hc), freeF]; simp
  rw [List.drop_of_length_le (by omega)] at hF
  simp only [freeF, List.filter_nil, List.append_nil] at hF
  have hF' : freeF wo n = fr := hF
  rw [hF'] at hQ
  simp [SE.den, hlt, cellOk]
  first | exact hQ | simpa using hQ
/-- One fact is put in its place, in the first merge. -/
theorem s25v0 {v0 v1 v2 v3 v4 v5 v6 v7 v8 v9 v10 : IV} {i : Nat} {l o : List Fa} (hi : i < l.length) (hl : l.length ≤ 9) (ho : o.length ≤ 20) (hk : k5 [iI (i + 1 : Nat), iFs (insF l[i] o)]) :
    fir25v0.sat Tryz.prog CC Q [k0, k1, k2, k5] [v0, v1, v2, v3, v4, v5, v6, v7, v8, v9, v10, iFs l, iI i, iFs o] := by
  have hw := wrapi hi (by omega)
  refine sat_loop2 o.length (fun k (p : Bool × List Fa) => [iI k, iB p.1, iFs p.2]) (fun k p => p.2.length ≤ k + 1 ∧ (p.1 = false → p.2.length ≤ k) ∧ insF l[i] o = p.2 ++ (if p.1 then o.drop k else insF l[i] (o.drop k))) (false, []) ?_ ?_ fun k ⟨dn, nx⟩ hk' ⟨hn1, hn2, hN⟩ => ?_
  · simp [SE.den]
  · simp
  simp only at hn1 hn2 hN
  by_cases hlt5 : k < o.length
  · rw [List.drop_eq_getElem_cons hlt5] at hN
    have hw2 := wrapi hlt5 (by omega)
    have hcat := cat_F1 (a := nx) o[k] (by omega)
    have hcat2 := cat_F1 (a := nx) l[i] (by omega)
    have hcat3 := cat_F1 (a := nx ++ [l[i]]) o[k] (by simp; omega)
    have hcat3o := hcat3
    simp only [iFs, List.map_append, List.map_cons, List.map_nil] at hcat3
    cases dn with
    | true =>
      simp [SE.den, hi, hw, iy_F hi, hlt5, hw2, iy_F hlt5, cellOk, cellsOf, hcat]
      refine .mk (true, nx ++ [o[k]]) (by simp) (by omega) ⟨by simp; omega, by simp, ?_⟩
      simp at hN; simp [hN]
    | false =>
      simp only [Bool.false_eq_true, if_false, insF] at hN
      have hn2' := hn2 rfl
      by_cases hc : l[i].id < o[k].id
      · rw [if_pos hc] at hN
        simp [SE.den, hi, hw, iy_F hi, hlt5, hw2, iy_F hlt5, cellOk, cellsOf, hcat2, hcat3, hcat3o, hc]
        refine .mk (true, nx ++ [l[i]] ++ [o[k]]) (by simp) (by omega) ⟨by simp; omega, by simp, ?_⟩
        rw [hN]; simp
      · rw [if_neg hc] at hN
        simp [SE.den, hi, hw, iy_F hi, hlt5, hw2, iy_F hlt5, cellOk, cellsOf, hcat, hc]
        refine .mk (false, nx ++ [o[k]]) (by simp) (by omega) ⟨by simp; omega, by simp; omega, ?_⟩
        rw [hN]; simp
  rw [List.drop_of_length_le (by omega)] at hN
  have hcat2 := cat_F1 (a := nx) l[i] (by omega)
  cases dn with
  | true =>
    simp at hN
    rw [hN] at hk
    simp [SE.den, hi, hw, iy_F hi, hlt5, cellOk, cellsOf]
    first | exact hk | simpa using hk
  | false =>
    simp [insF] at hN
    rw [hN] at hk
    simp [SE.den, hi, hw, iy_F hi, hlt5, cellOk, cellsOf, hcat2]
    first | exact hk | simpa using hk
/-- One fact is put in its place, in the second merge. -/
theorem s25v1 {v0 v1 v2 v3 v4 v5 v6 v7 v8 v9 v10 v11 v12 v13 v14 : IV} {i : Nat} {l o : List Fa} (hi : i < l.length) (hl : l.length ≤ 9) (ho : o.length ≤ 20) (hk : k5 [iFs (insF l[i] o), iI (i + 1 : Nat)]) :
    fir25v1.sat Tryz.prog CC Q [k0, k1, k2, k3, k4, k5] [v0, v1, v2, v3, v4, v5, v6, v7, v8, v9, v10, v11, v12, v13, v14, iFs l, iFs o, iI i] := by
  have hw := wrapi hi (by omega)
  refine sat_loop2 o.length (fun k (p : Bool × List Fa) => [iI k, iB p.1, iFs p.2]) (fun k p => p.2.length ≤ k + 1 ∧ (p.1 = false → p.2.length ≤ k) ∧ insF l[i] o = p.2 ++ (if p.1 then o.drop k else insF l[i] (o.drop k))) (false, []) ?_ ?_ fun k ⟨dn, nx⟩ hk' ⟨hn1, hn2, hN⟩ => ?_
  · simp [SE.den]
  · simp
  simp only at hn1 hn2 hN
  by_cases hlt5 : k < o.length
  · rw [List.drop_eq_getElem_cons hlt5] at hN
    have hw2 := wrapi hlt5 (by omega)
    have hcat := cat_F1 (a := nx) o[k] (by omega)
    have hcat2 := cat_F1 (a := nx) l[i] (by omega)
    have hcat3 := cat_F1 (a := nx ++ [l[i]]) o[k] (by simp; omega)
    have hcat3o := hcat3
    simp only [iFs, List.map_append, List.map_cons, List.map_nil] at hcat3
    cases dn with
    | true =>
      simp [SE.den, hi, hw, iy_F hi, hlt5, hw2, iy_F hlt5, cellOk, cellsOf, hcat]
      refine .mk (true, nx ++ [o[k]]) (by simp) (by omega) ⟨by simp; omega, by simp, ?_⟩
      simp at hN; simp [hN]
    | false =>
      simp only [Bool.false_eq_true, if_false, insF] at hN
      have hn2' := hn2 rfl
      by_cases hc : l[i].id < o[k].id
      · rw [if_pos hc] at hN
        simp [SE.den, hi, hw, iy_F hi, hlt5, hw2, iy_F hlt5, cellOk, cellsOf, hcat2, hcat3, hcat3o, hc]
        refine .mk (true, nx ++ [l[i]] ++ [o[k]]) (by simp) (by omega) ⟨by simp; omega, by simp, ?_⟩
        rw [hN]; simp
      · rw [if_neg hc] at hN
        simp [SE.den, hi, hw, iy_F hi, hlt5, hw2, iy_F hlt5, cellOk, cellsOf, hcat, hc]
        refine .mk (false, nx ++ [o[k]]) (by simp) (by omega) ⟨by simp; omega, by simp; omega, ?_⟩
        rw [hN]; simp
  rw [List.drop_of_length_le (by omega)] at hN
  have hcat2 := cat_F1 (a := nx) l[i] (by omega)
  cases dn with
  | true =>
    simp at hN
    rw [hN] at hk
    simp [SE.den, hi, hw, iy_F hi, hlt5, cellOk, cellsOf]
    first | exact hk | simpa using hk
  | false =>
    simp [insF] at hN
    rw [hN] at hk
    simp [SE.den, hi, hw, iy_F hi, hlt5, cellOk, cellsOf, hcat2]
    first | exact hk | simpa using hk
theorem insF_len (b : Fa) : ∀ l : List Fa, (insF b l).length = l.length + 1
  | [] => rfl
  | x :: l => by
    unfold insF
    split
    · simp
    · simp [insF_len b l]
/-- The second merge. -/
theorem s25v3 {v2 v3 v5 v6 v7 v8 v10 v11 v12 v14 a b c : IV} {n nx gv : Int} {lg : List Ap} {wo l o0 : List Fa} (hwl : wo.length ≤ 9) (hww : ∀ f ∈ wo, WfF f) (hl : l.length ≤ 9) (ho0 : o0.length ≤ 9)
    (hQ : Q (.tup [.agg [iFs (mergeF o0 l), iFs (freeF wo n), iPs lg, iI nx, iI gv], iI 0])) :
    fir25v3.sat Tryz.prog CC Q [k0, k1, k2, k3, k4] [.agg [a, b, c, iI nx, iI gv], iI n, v2, v3, iPs lg, v5, v6, v7, v8, iFs wo, v10, v11, v12, iFs o0, v14, iFs l] := by
  refine sat_loop l.length (fun i (o : List Fa) => [iFs o, iI i]) (fun i o => o.length ≤ 9 + i ∧ mergeF o0 l = mergeF o (l.drop i)) o0 ?_ ?_ fun j o hj ⟨ho, hG⟩ => ?_
  · simp [SE.den]
  · simpa using ho0
  by_cases hlt : j < l.length
  · rw [List.drop_eq_getElem_cons hlt, mergeF] at hG
    simp [SE.den, hlt]
    exact s25v1 hlt hl (by omega) ⟨insF l[j] o, by simp, by omega, by rw [insF_len]; omega, hG⟩
  · rw [List.drop_of_length_le (by omega), mergeF] at hG
    rw [hG] at hQ
    simp [SE.den, hlt]
    exact s25v2 hwl hww hQ
/-- The facts that come back, without the justification. -/
theorem s25v4 {v2 v3 v5 v6 v7 v10 v11 v12 a b c : IV} {n nx gv : Int} {lg : List Ap} {wi wo o0 : List Fa} (hwl : wo.length ≤ 9) (hww : ∀ f ∈ wo, WfF f) (hl : wi.length ≤ 9) (hwi : ∀ f ∈ wi, WfF f) (ho0 : o0.length ≤ 9)
    (hQ : Q (.tup [.agg [iFs (mergeF o0 (freeF wi n)), iFs (freeF wo n), iPs lg, iI nx, iI gv], iI 0])) :
    fir25v4.sat Tryz.prog CC Q [k0, k1, k2, k3] [.agg [a, b, c, iI nx, iI gv], iI n, v2, v3, iPs lg, v5, v6, v7, iFs wi, iFs wo, v10, v11, v12, iFs o0] := by
  refine sat_loop wi.length (fun i (a : List Fa) => [iI i, iFs a]) (fun i a => a.length ≤ i ∧ freeF wi n = a ++ freeF (wi.drop i) n) [] ?_ ?_ fun j fr hj ⟨hfr, hF⟩ => ?_
  · simp [SE.den]
  · simp
  by_cases hlt : j < wi.length
  · rw [List.drop_eq_getElem_cons hlt] at hF
    have hwr := wrapi hlt (by omega)
    have hcat := cat_F1 (a := fr) wi[j] (by omega)
    simp [SE.den, hlt, hwr, iy_F hlt, cellOk, cellsOf]
    refine ⟨_, c67n _ _ (hwi _ (List.getElem_mem hlt)).2, ?_⟩
    simp [SE.den, hlt, hwr, iy_F hlt, cellOk, hcat, cellsOf]
    by_cases hc : n ∈ wi[j].j
    · right
      refine ⟨hc, fr, rfl, by omega, by omega, ?_⟩
      rw [hF, freeF, List.filter_cons_of_neg (by simpa using hc), freeF]
    · left
      refine ⟨hc, fr ++ [wi[j]], by simp, by omega, by simp; omega, ?_⟩
      rw [hF, freeF, List.filter_cons_of_pos (by simpa using hc), freeF]; simp
  rw [List.drop_of_length_le (by omega)] at hF
  simp only [freeF, List.filter_nil, List.append_nil] at hF
  have hF' : freeF wi n = fr := hF
  rw [hF'] at hQ
  simp [SE.den, hlt, cellOk]
  exact s25v3 hwl hww (by omega) ho0 hQ
/-- The first merge. -/
theorem s25v5 {v2 v3 v5 v6 v7 v10 a b c : IV} {n nx gv : Int} {lg : List Ap} {wi wo l : List Fa} (hwl : wo.length ≤ 9) (hww : ∀ f ∈ wo, WfF f) (hwil : wi.length ≤ 9) (hwi : ∀ f ∈ wi, WfF f) (hl : l.length ≤ 9)
    (hQ : Q (.tup [.agg [iFs (mergeF (mergeF [] l) (freeF wi n)), iFs (freeF wo n), iPs lg, iI nx, iI gv], iI 0])) :
    fir25v5.sat Tryz.prog CC Q [k0, k1, k2] [.agg [a, b, c, iI nx, iI gv], iI n, v2, v3, iPs lg, v5, v6, v7, iFs wi, iFs wo, v10, iFs l] := by
  refine sat_loop l.length (fun i (o : List Fa) => [iI i, iFs o]) (fun i o => o.length ≤ i ∧ mergeF [] l = mergeF o (l.drop i)) [] ?_ ?_ fun j o hj ⟨ho, hG⟩ => ?_
  · simp [SE.den]
  · simp
  by_cases hlt : j < l.length
  · rw [List.drop_eq_getElem_cons hlt, mergeF] at hG
    simp [SE.den, hlt]
    exact s25v0 hlt hl (by omega) ⟨insF l[j] o, by simp, by omega, by rw [insF_len]; omega, hG⟩
  · rw [List.drop_of_length_le (by omega), mergeF] at hG
    rw [hG] at hQ
    simp [SE.den, hlt]
    exact s25v4 hwl hww hwil hwi (by omega) hQ
/-- The facts without the justification. -/
theorem s25v6 {v2 v3 v5 v6 v7 b c : IV} {n nx gv : Int} {lg : List Ap} {wi wo l : List Fa} (hwl : wo.length ≤ 9) (hww : ∀ f ∈ wo, WfF f) (hwil : wi.length ≤ 9) (hwi : ∀ f ∈ wi, WfF f) (hl : l.length ≤ 9) (hlw : ∀ f ∈ l, WfF f)
    (hQ : Q (.tup [.agg [iFs (mergeF (mergeF [] (freeF l n)) (freeF wi n)), iFs (freeF wo n), iPs lg, iI nx, iI gv], iI 0])) :
    fir25v6.sat Tryz.prog CC Q [k0, k1] [.agg [iFs l, b, c, iI nx, iI gv], iI n, v2, v3, iPs lg, v5, v6, v7, iFs wi, iFs wo] := by
  refine sat_loop l.length (fun i (a : List Fa) => [iI i, iFs a]) (fun i a => a.length ≤ i ∧ freeF l n = a ++ freeF (l.drop i) n) [] ?_ ?_ fun j fr hj ⟨hfr, hF⟩ => ?_
  · simp [SE.den]
  · simp
  by_cases hlt : j < l.length
  · rw [List.drop_eq_getElem_cons hlt] at hF
    have hwr := wrapi hlt (by omega)
    have hcat := cat_F1 (a := fr) l[j] (by omega)
    simp [SE.den, hlt, hwr, iy_F hlt, cellOk, cellsOf]
    refine ⟨_, c67 _ _ (hlw _ (List.getElem_mem hlt)).2, ?_⟩
    simp [SE.den, hlt, hwr, iy_F hlt, cellOk, hcat, cellsOf]
    by_cases hc : n ∈ l[j].j
    · right
      refine ⟨hc, fr, rfl, by omega, by omega, ?_⟩
      rw [hF, freeF, List.filter_cons_of_neg (by simpa using hc), freeF]
    · left
      refine ⟨hc, fr ++ [l[j]], by simp, by omega, by simp; omega, ?_⟩
      rw [hF, freeF, List.filter_cons_of_pos (by simpa using hc), freeF]; simp
  rw [List.drop_of_length_le (by omega)] at hF
  simp only [freeF, List.filter_nil, List.append_nil] at hF
  have hF' : freeF l n = fr := hF
  rw [hF'] at hQ
  simp [SE.den, hlt, cellOk]
  exact s25v5 hwl hww hwil hwi (by omega) hQ
/-- The past is split. -/
theorem s25v7 {v2 c : IV} {n nx gv : Int} {bk : List Int} {lg : List Ap} {past l : List Fa} (hp : past.length ≤ 9) (hpw : ∀ f ∈ past, WfF f) (hl : l.length ≤ 9) (hlw : ∀ f ∈ l, WfF f) (hbk : Sm bk)
    (hQ : Q (.tup [.agg [iFs (mergeF (mergeF [] (freeF l n)) (freeF (past.filter fun f => decide (f.id ∈ bk)) n)), iFs (freeF (past.filter fun f => !decide (f.id ∈ bk)) n), iPs lg, iI nx, iI gv], iI 0])) :
    fir25v7.sat Tryz.prog CC Q [k0] [.agg [iFs l, iFs past, c, iI nx, iI gv], iI n, v2, iL bk, iPs lg] := by
  refine sat_loop past.length (fun i (a : List Fa × List Fa) => [iL bk, iL bk, iI i, iFs a.1, iFs a.2])
    (fun i a => a.1.length ≤ i ∧ a.2.length ≤ i ∧ past.filter (fun f => decide (f.id ∈ bk)) = a.1 ++ (past.drop i).filter (fun f => decide (f.id ∈ bk)) ∧ past.filter (fun f => !decide (f.id ∈ bk)) = a.2 ++ (past.drop i).filter (fun f => !decide (f.id ∈ bk))) ([], []) ?_ ?_ fun j ⟨wi, wo⟩ hj ⟨hwi, hwo, hJ1, hJ2⟩ => ?_
  · simp [SE.den]
  · simp
  simp only at hwi hwo hJ1 hJ2
  by_cases hlt2 : j < past.length
  · rw [List.drop_eq_getElem_cons hlt2] at hJ1 hJ2
    have hw := wrapi hlt2 (by omega)
    have hcat := cat_F1 (a := wi) past[j] (by omega)
    have hcat2 := cat_F1 (a := wo) past[j] (by omega)
    simp [SE.den, hlt2, hw, iy_F hlt2, cellOk]
    refine ⟨_, c94n _ _ hbk, ?_⟩
    simp [SE.den, hlt2, hw, iy_F hlt2, cellOk, hcat, hcat2, cellsOf]
    by_cases hc : past[j].id ∈ bk
    · left
      refine ⟨hc, wi ++ [past[j]], wo, ⟨by simp, rfl⟩, by omega, by simp; omega, by omega, ?_, ?_⟩
      · rw [hJ1, List.filter_cons_of_pos (by simpa using hc)]; simp
      · rw [hJ2, List.filter_cons_of_neg (by simpa using hc)]
    · right
      refine ⟨hc, wi, wo ++ [past[j]], ⟨rfl, by simp⟩, by omega, by omega, by simp; omega, ?_, ?_⟩
      · rw [hJ1, List.filter_cons_of_neg (by simpa using hc)]
      · rw [hJ2, List.filter_cons_of_pos (by simpa using hc)]; simp
  simp [SE.den, hlt2]
  rw [List.drop_of_length_le (by omega)] at hJ1 hJ2
  simp only [List.filter_nil, List.append_nil] at hJ1 hJ2
  rw [hJ1, hJ2] at hQ
  have hwiW : ∀ f ∈ wi, WfF f := fun f hf => hpw f (List.mem_filter.1 (by rw [hJ1]; exact hf)).1
  have hwoW : ∀ f ∈ wo, WfF f := fun f hf => hpw f (List.mem_filter.1 (by rw [hJ2]; exact hf)).1
  exact s25v6 (by omega) hwoW (by omega) hwiW hl hlw hQ
theorem c25 (m : Me) (n : Int) (hm : SmM m) : CC 25 false [encM m, iI n] (.tup [encM (retM m n).1, iI (retM m n).2]) := by
  have pt : Pure (.tup [encM (retM m n).1, iI (retM m n).2]) := .tup _ (by simp [pure_encM])
  refine CC.of ex25i n25 (t25 _ _) (by simp [pure_encM]) pt ?_
  simp [fir25i, SE.den, encM, cellOk]
  by_cases h1 : n < 1
  · left; exact ⟨h1, by simp [retM, h1]⟩
  right; refine ⟨by omega, ?_⟩
  by_cases h2 : m.given < n
  · left; exact ⟨h2, by simp [retM, h2]⟩
  right; refine ⟨by omega, ?_⟩
  have hret : retM m n = (⟨mergeF (mergeF [] (freeF m.facts n)) (freeF (m.past.filter fun f => decide (f.id ∈ backM m n)) n), freeF (m.past.filter fun f => !decide (f.id ∈ backM m n)) n, m.log.filter (fun x => !decide (n ∈ x.just)), m.next, m.given⟩, 0) := by
    rw [retM, if_neg (by omega)]
  rw [hret]
  have hll := hm.l
  refine sat_loop m.log.length (fun i (a : List Int × List Ap) => [iI i, iL a.1, iPs a.2])
    (fun i a => a.1.length ≤ 8 * i ∧ a.2.length ≤ i ∧ backM m n = a.1 ++ ((m.log.drop i).filter fun x => decide (n ∈ x.just)).flatMap (·.gone) ∧ m.log.filter (fun x => !decide (n ∈ x.just)) = a.2 ++ (m.log.drop i).filter fun x => !decide (n ∈ x.just)) ([], []) ?_ ?_ fun i ⟨bk, lg⟩ hi ⟨hb, hg, hI1, hI2⟩ => ?_
  · simp [SE.den]
  · simp [backM]
  simp only at hb hg hI1 hI2
  by_cases hlt : i < m.log.length
  · rw [List.drop_eq_getElem_cons hlt] at hI1 hI2
    have hw := wrapi hlt hm.w.sl
    obtain ⟨w1, w2, w3, w4⟩ := hm.w.l _ (List.getElem_mem hlt)
    have hgl := hm.g _ (List.getElem_mem hlt)
    have hcat := cat_L (a := bk) (b := m.log[i].gone) (by omega)
    have hcat2 := cat_P1 (a := lg) m.log[i] (by omega)
    simp [SE.den, hlt, hw, iy_P hlt, cellOk]
    refine ⟨_, c67 _ _ w4, ?_⟩
    simp [SE.den, hlt, hw, iy_P hlt, cellOk, hcat, hcat2, cellsOf, isRaw1]
    by_cases hc : n ∈ m.log[i].just
    · left
      refine ⟨hc, bk ++ m.log[i].gone, lg, ⟨by simp, rfl⟩, by omega, by simp; omega, by omega, ?_, ?_⟩
      · rw [hI1, List.filter_cons_of_pos (by simpa using hc), List.flatMap_cons, List.append_assoc]
      · rw [hI2, List.filter_cons_of_neg (by simpa using hc)]
    · right
      refine ⟨hc, bk, lg ++ [m.log[i]], ⟨rfl, by simp⟩, by omega, by omega, by simp; omega, ?_, ?_⟩
      · rw [hI1, List.filter_cons_of_neg (by simpa using hc)]
      · rw [hI2, List.filter_cons_of_pos (by simpa using hc)]; simp
  simp [SE.den, hlt]
  rw [List.drop_of_length_le (by omega)] at hI1 hI2
  simp at hI1 hI2
  rw [hI1, hI2]
  exact s25v7 hm.p hm.w.p hm.f hm.w.f (by unfold Sm; omega) rfl
end Go.Proofs.YtggffkaadeagbaaGreat
