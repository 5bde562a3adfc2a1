/- RetractUndoes in the row's words: whatever the input, true, and the arguments read as they did. The row's own conditions alone. -/
import Derived.Test.YtggffkaadeagbaaGreatRuU
import Derived.Test.YtggffkaadeagbaaGreatRows
import Derived.LaidMore
import Derived.Stop.Joined
import Derived.SevenTiedAt
import Derived.Lib.SmallJoins
import Derived.WideKeyArgs
import Derived.Below
set_option linter.all false
namespace Go.Proofs.YtggffkaadeagbaaGreat
open Go Go.ChangeShapes Go.WideShapes Go.ChangeAt Go.RowKit

theorem own : ownKnob Tryz.prog.godebug = none := by as_aux_lemma => kernel_rfl
theorem laidOut : laidOutB Tryz.prog = true := by as_aux_lemma => kernel_rfl
theorem readable29 : Tryz.prog.readableRec 29 = true := by as_aux_lemma => kernel_rfl
theorem sized29 : 29 < Tryz.prog.types.size := of_decide_eq_true (by as_aux_lemma => kernel_rfl)
theorem readable3 : Tryz.prog.readableRec 3 = true := by as_aux_lemma => kernel_rfl
theorem sized3 : 3 < Tryz.prog.types.size := of_decide_eq_true (by as_aux_lemma => kernel_rfl)
/-- A call of plain values that comes to true: what it leaves. -/
theorem walk_of {f : FuncId} {xs : List Ev.IV} {us : List Value} {W : World} (h : CC f false xs (Ev.iB true)) (hr : Ev.RvL (Ev.frz (Ev.allM W)) xs us) :
    Calls Tryz.prog f us.toArray W fun e W' => e = .returned (.bool true) ∧ Below W.heap.size W W' := by
  refine callsIn_wide.1 ((h.1 (Ev.allM W) W us Ev.fzm_all hr).mono fun e W' hR => ?_)
  cases e with
  | returned u =>
    obtain ⟨_, M', _, _, _, h4, h5, h6, h7, h8, h9⟩ := hR
    have hu : u = .bool true := by
      generalize hx : Ev.IV.raw (.bool true) = x at h4
      cases h4 <;> first | (cases hx; rfl) | cases hx
    rw [hu]
    exact ⟨rfl, h5, h6, h7, h8, h9⟩
  | panicked ch => exact absurd hR.1 (by simp)
  | outgrown => exact hR.elim
/-- The post of a row that says not 'again': nothing is asked of what is new. -/
theorem post_below {H : Type} {enc : TypeId × Value → H} {P : Program} {f : Func} {s : ChangeSpec} {apart fresh handsOn : Bool} {W W' : World} {args : Array Value} {v : Value} {ds gs : List (DataW H)} {before pa pv : List MemPlace}
    (hW : DataW.Whole enc P f.params.toList s.vars apart W args.toList ds gs before)
    (hres : ∀ (b : Nat) (sp : Nat → Bool) (hd : Bool), DataW.TrodAll enc P W' b sp hd f.resultTypes.toList (v.resultList f.resultTypes.size) (s.fn H (ds ++ gs)).results [])
    (hargs : ∀ sp : Nat → Bool, (∀ p ∈ before, sp p.block = true) → DataW.TrodAll enc P W' 0 sp true f.params.toList args.toList (s.fn H (ds ++ gs)).args pa)
    (hvars : ∀ sp : Nat → Bool, (∀ p ∈ before, sp p.block = true) → DataW.TrodVars enc P W' sp s.vars (s.fn H (ds ++ gs)).vars pv)
    (hps : before = pa ++ pv) (hk : W.keptBut W' (· ∈ before)) : s.post enc P f apart fresh handsOn false W args v W' := by
  have hold : ∀ p ∈ before, (fun b => decide (b < W.heap.size)) p.block = true := fun p hp => by simpa using hW.lt p hp
  refine ⟨ds, gs, before, [], pa, pv, hW, hres _ _ _, hargs _ hold, hvars _ hold, World.keptBut_mono (fun p hp => ⟨hp, ?_⟩) hk, fun h => by cases h⟩
  rw [hps, List.mem_append] at hp
  exact Or.inr hp

set_option maxHeartbeats 8000000 in
set_option maxRecDepth 100000 in
theorem lifted (os : Os) (started : os.Started) (H : Type) (enc : TypeId × Value → H) :
    ReturnsInHanded {} Tryz.checked os 9 .any (Rows.retractUndoesSpec.pre6 enc Tryz.prog Tryz.f9 [] false) (Rows.retractUndoesSpec.post enc Tryz.prog Tryz.f9 false true false false) := by
  refine returnsInHanded_of_change (C := Tryz.checked) own started (by as_aux_lemma => kernel_rfl) Tryz.func9
    (ChangeSpec.witness6 (enc := enc) (C := Tryz.checked) false ⟨#[], #[.agg #[.slice none 0 0, .slice none 0 0, .slice none 0 0, .int .i64 0, .int .i64 0], .int .i64 0], []⟩ 8 (by as_aux_lemma => kernel_rfl) (by as_aux_lemma => kernel_rfl) (by as_aux_lemma => kernel_rfl) (by as_aux_lemma => kernel_rfl)) ?_
  intro W base args ds gs before hval0 hW _ _
  have hval : ∀ (j : Nat) t v, Tryz.f9.params[j]? = some t → args[j]? = some v → Value.okWide Tryz.prog W .any base t v := hval0
  have hW' := hW
  obtain ⟨p, q, hA0, hV, rfl, hfz, hnd⟩ := hW
  have hA : DataW.TrodAll enc Tryz.prog W 0 (fun _ => true) true Tryz.f9.params.toList args.toList ds p := hA0
  rw [Tryz.params9] at hA hval
  obtain ⟨v0, v1, d0, d1, p0, p1, rfl, rfl, rfl, h0, h1⟩ := trodAll_two hA
  obtain ⟨rfl, rfl⟩ := trodVars_none hV
  obtain ⟨cs, rfl, hsz⟩ := okWide_struct und29 (hval 0 29 v0 rfl rfl)
  have h0k := h0
  have h1k := h1
  obtain ⟨fu, h0⟩ := h0
  have hcl : cs.toList.length = 5 := by rw [Array.length_toList, hsz, cl29]
  obtain ⟨m, hm, r0⟩ := rd_M h0 hcl
  obtain ⟨n, rfl, _⟩ := open_int und3 (hval 1 3 v1 rfl rfl) h1
  have r1 : Ev.RvL (Ev.frz (Ev.allM W)) [encM m, Ev.iI n] [.agg cs, .int .i64 n] := by
    refine Ev.RvL.cons ?_ (Ev.RvL.cons (.raw _) Ev.RvL.nil)
    have : (Value.agg cs.toList.toArray) = .agg cs := by simp
    rw [← this]; exact r0
  clear hA0 hval0 hval hA
  simp only [List.append_nil] at hW'
  refine (walk_of (c9 m n hm) r1).mono fun e W' ⟨he, hb⟩ => ?_
  subst he
  have hlt : ∀ x ∈ p0 ++ p1, x.block < W.heap.size := fun x hx => hW'.lt x hx
  have hlt0 : ∀ x ∈ p0, x.block < W.heap.size := fun x hx => hlt x (List.mem_append_left _ hx)
  have hlt1 : ∀ x ∈ p1, x.block < W.heap.size := fun x hx => hlt x (List.mem_append_right _ hx)
  exact ⟨_, rfl, post_below (pa := p0 ++ p1) (pv := []) hW' (fun _ _ _ => trodAll_mk1 (shut_bool und4 _))
    (fun sp hsp => trodAll_mk2 (WideElems.Trod_stays laidOut readable29 sized29 h0k (fun x hx => hb.same (hlt0 x hx)) (fun x hx => hsp x (List.mem_append_left _ hx))) (WideElems.Trod_stays laidOut readable3 sized3 h1k (fun x hx => hb.same (hlt1 x hx)) (fun x hx => hsp x (List.mem_append_right _ hx))))
    (fun _ _ => rfl) (by simp) (hb.frame _)⟩
end Go.Proofs.YtggffkaadeagbaaGreat
