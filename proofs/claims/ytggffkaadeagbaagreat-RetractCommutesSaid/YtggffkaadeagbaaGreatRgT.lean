/- RetractCommutes in the words of its row: whatever the input, true, and the arguments read as they did. The conditions of the row alone. -/
import Derived.Test.YtggffkaadeagbaaGreatRgR
import Derived.Test.YtggffkaadeagbaaGreatRuV
set_option linter.all false
namespace Go.Proofs.YtggffkaadeagbaaGreat
open Go Go.ChangeShapes Go.WideShapes Go.ChangeAt Go.RowKit
theorem readable25 : Tryz.prog.readableRec 25 = true := by as_aux_lemma => kernel_rfl
theorem sized25 : 25 < Tryz.prog.types.size := of_decide_eq_true (by as_aux_lemma => kernel_rfl)
theorem readable54 : Tryz.prog.readableRec 54 = true := by as_aux_lemma => kernel_rfl
theorem sized54 : 54 < Tryz.prog.types.size := of_decide_eq_true (by as_aux_lemma => kernel_rfl)
theorem small7 : 7 < Tryz.prog.funcs.size := of_decide_eq_true (by as_aux_lemma => kernel_rfl)
theorem okWide_array {P : Program} {w : World} {r : Reach} {base : Nat} {t n e : Nat} {v : Value} (ht : P.underlying t = some (.array n e)) (h : Value.okWide P w r base t v) : ∃ cs, v = .agg cs ∧ cs.size = P.cellsOf t := by
  unfold Value.okWide at h
  rw [ht] at h
  obtain ⟨cs, h1, h2, _⟩ := h
  exact ⟨cs, h1, h2⟩
set_option maxHeartbeats 8000000 in
set_option maxRecDepth 100000 in
theorem lifted7 (os : Os) (started : os.Started) (H : Type) (enc : TypeId × Value → H) :
    ReturnsInHanded {} Tryz.checked os 7 .any (Rows.retractCommutesSpec.pre6 enc Tryz.prog Tryz.f7 [] false) (Rows.retractCommutesSpec.post enc Tryz.prog Tryz.f7 false true false false) := by
  refine returnsInHanded_of_change (C := Tryz.checked) own started (by as_aux_lemma => kernel_rfl) Tryz.func7
    (ChangeSpec.witness6 (enc := enc) (C := Tryz.checked) false ⟨#[], #[.agg #[.slice none 0 0, .slice none 0 0], .agg #[.slice none 0 0, .slice none 0 0, .slice none 0 0, .int .i64 0, .int .i64 0], .agg #[.int .u64 0, .int .u64 0]], []⟩ 8 (by as_aux_lemma => kernel_rfl) (by as_aux_lemma => kernel_rfl) (by as_aux_lemma => kernel_rfl) (by as_aux_lemma => kernel_rfl)) ?_
  intro W base args ds gs before hval0 hW _ _
  have hval : ∀ (j : Nat) t v, Tryz.f7.params[j]? = some t → args[j]? = some v → Value.okWide Tryz.prog W .any base t v := hval0
  have hW' := hW
  obtain ⟨p, q, hA0, hV, rfl, hfz, hnd⟩ := hW
  have hA : DataW.TrodAll enc Tryz.prog W 0 (fun _ => true) true Tryz.f7.params.toList args.toList ds p := hA0
  rw [Tryz.params7] at hA hval
  obtain ⟨v0, v1, v2, d0, d1, d2, p0, p1, p2, rfl, rfl, rfl, h0, h1, h2⟩ := trodAll_three hA
  obtain ⟨rfl, rfl⟩ := trodVars_none hV
  obtain ⟨cs, rfl, hsz⟩ := okWide_struct und25 (hval 0 25 v0 rfl rfl)
  obtain ⟨cs1, rfl, hsz1⟩ := okWide_struct und29 (hval 1 29 v1 rfl rfl)
  have h0k := h0
  have h1k := h1
  have h2k := h2
  obtain ⟨fu, h0⟩ := h0
  obtain ⟨fu1, h1⟩ := h1
  obtain ⟨fu2, h2⟩ := h2
  have hcl : cs.toList.length = 2 := by rw [Array.length_toList, hsz, cl25]
  have hcl1 : cs1.toList.length = 5 := by rw [Array.length_toList, hsz1, cl29]
  obtain ⟨cs2, rfl, hsz2⟩ := okWide_array und54 (hval 2 54 v2 rfl rfl)
  have hcl2 : cs2.toList.length = 2 := by rw [Array.length_toList, hsz2, cl54]
  obtain ⟨pg, hpg, r0⟩ := rq_Pg h0 hcl
  obtain ⟨m, hm, hn, r1⟩ := rq_M h1 hcl1
  obtain ⟨x, y, hx, hy, r2⟩ := rq_two h2 hcl2
  have rr : Ev.RvL (Ev.frz (Ev.allM W)) [encPg pg, encM m, .agg [iW x, iW y]] [.agg cs, .agg cs1, .agg cs2] := by
    have e0 : (Value.agg cs.toList.toArray) = .agg cs := by simp
    have e1 : (Value.agg cs1.toList.toArray) = .agg cs1 := by simp
    have e2 : (Value.agg cs2.toList.toArray) = .agg cs2 := by simp
    rw [← e0, ← e1, ← e2]
    exact Ev.RvL.cons r0 (Ev.RvL.cons r1 (Ev.RvL.cons r2 Ev.RvL.nil))
  clear hA0 hval0 hval hA
  simp only [List.append_nil] at hW'
  refine (walk_of small7 (c7 pg m x y hpg hm hn hx hy) rr).mono fun e W' ⟨he, hb⟩ => ?_
  subst he
  have hlt : ∀ x ∈ p0 ++ p1 ++ p2, x.block < W.heap.size := fun x hx => hW'.lt x (by simpa using hx)
  have hlt0 : ∀ x ∈ p0, x.block < W.heap.size := fun x hx => hlt x (by simp [hx])
  have hlt1 : ∀ x ∈ p1, x.block < W.heap.size := fun x hx => hlt x (by simp [hx])
  have hlt2 : ∀ x ∈ p2, x.block < W.heap.size := fun x hx => hlt x (by simp [hx])
  exact ⟨_, rfl, post_below (pa := p0 ++ (p1 ++ p2)) (pv := []) hW' (fun _ _ _ => trodAll_mk1 (shut_bool und4 _))
    (fun sp hsp => trodAll_mk3 (WideElems.Trod_stays laidOut readable25 sized25 h0k (fun x hx => hb.same (hlt0 x hx)) (fun x hx => hsp x (by simp [hx]))) (WideElems.Trod_stays laidOut readable29 sized29 h1k (fun x hx => hb.same (hlt1 x hx)) (fun x hx => hsp x (by simp [hx]))) (WideElems.Trod_stays laidOut readable54 sized54 h2k (fun x hx => hb.same (hlt2 x hx)) (fun x hx => hsp x (by simp [hx]))))
    (fun _ _ => rfl) (by simp) (hb.frame _)⟩
end Go.Proofs.YtggffkaadeagbaaGreat
