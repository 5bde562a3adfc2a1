/- A part of the proof, no condition: the law at plain values; what lies in memory, read as programs. -/
import Derived.Test.YtggffkaadeagbaaGreatRgP
import Derived.Test.YtggffkaadeagbaaGreatRuU
set_option linter.all false
namespace Go.Proofs.YtggffkaadeagbaaGreat
open Go Go.Ev
theorem und42 : Tryz.prog.underlying 42 = some (.int .u64) := by kernel_rfl
abbrev iW (n : Int) : IV := .raw (.int .u64 n)
theorem cv_u (g : Int) : denCv Tryz.prog 3 42 (iI g) = some (iW (IntKind.u64.wrap g)) := by kernel_rfl
theorem cv_i (g : Int) : denCv Tryz.prog 42 3 (iW g) = some (iI (IntKind.i64.wrap g)) := by kernel_rfl
theorem rem_u (a b : Int) (hb : b ≠ 0) : denBin Tryz.prog .rem 42 (iW a) (iW b) = some (iW (a.tmod b)) := by
  show (pureRun Tryz.prog (do eqGuard .rem 42 _ _ _ _; Go.binOp .rem 42 (.int .u64 a) (.int .u64 b))).map lift = _
  rw [pureRun_bind]
  show (pureRun Tryz.prog (Op.intDiv .rem .u64 a b)).map lift = _
  unfold Op.intDiv
  rw [if_neg hb]
  rfl
theorem wrap_u {g : Int} (h1 : 0 ≤ g) (h2 : g ≤ 64) : IntKind.u64.wrap g = g := by
  simp only [IntKind.wrap, IntKind.bits, IntKind.signed]
  simp
  omega
theorem filter_split {α : Type} (p : α → Bool) : ∀ l : List α, (l.filter p).length + (l.filter fun x => !p x).length = l.length
  | [] => rfl
  | a :: l => by
    have ih := filter_split p l
    by_cases h : p a = true
    · rw [List.filter_cons_of_pos h, List.filter_cons_of_neg (by simp [h])]; simp; omega
    · rw [List.filter_cons_of_neg h, List.filter_cons_of_pos (by simpa using h)]; simp; omega
theorem SmM2.ret {m : Me} (h : SmM2 m) (n : Int) : SmM2 (retP m n).1 := by
  refine ⟨wf_ret2 h, ?_, ?_, fun x hx => ?_⟩
  · unfold retP
    split
    · simp
    · have h1 := h.fp
      have h2 := List.length_filter_le (fun f : Fa => !decide (n ∈ f.j)) (mrg ltF [] (m.facts ++ m.past.filter fun f => decide (f.id ∈ backM m n)))
      have h3 := List.length_filter_le (fun f : Fa => !decide (n ∈ f.j)) (m.past.filter fun f => !decide (f.id ∈ backM m n))
      have h4 : (m.past.filter fun f => decide (f.id ∈ backM m n)).length + (m.past.filter fun f => !decide (f.id ∈ backM m n)).length = m.past.length := filter_split _ _
      rw [mrg_len, List.length_append] at h2
      show (freeF _ _).length + (freeF _ _).length ≤ _
      unfold freeF
      simp only [List.length_nil] at h2
      omega
  · unfold retP
    split
    · simp
    · have := List.length_filter_le (fun x : Ap => !decide (n ∈ x.just)) m.log
      have := h.l
      show (List.filter _ _).length ≤ _
      omega
  · unfold retP at hx
    split at hx
    · simp at hx
    · exact h.g x (List.mem_filter.1 hx).1
theorem n7 : (Tryz.prog.funcs[7]?).map (·.params.size) = some 3 := by kernel_rfl
theorem t7 (z : IV) : tupOk Tryz.prog 7 z = true := by kernel_rfl
theorem c7 (p : Pg) (m : Me) (x y : Int) (hp : NmP p) (hm : WfM m) (hn : ∀ f ∈ m.facts ++ m.past, NmF f) (hx : 0 ≤ x) (hy : 0 ≤ y) : CC 7 false [encPg p, encM m, .agg [iW x, iW y]] (iB true) := by
  refine CC.of ex7 n7 (t7 _) (by intro z hz; simp at hz; rcases hz with rfl | rfl | rfl; exact pure_encPg p; exact pure_encM m; exact .agg _ (by simp)) (by simp) ?_
  obtain ⟨b10, f10, h10⟩ := e10 p hp m hm
  cases b10 with
  | false =>
    simp only [encPg, encM] at *
    simp [fir7, SE.den, cellOk]
    refine ⟨_, h10, ?_⟩
    simp
  | true =>
  obtain ⟨hP, hL⟩ := f10 rfl
  obtain ⟨b14, f14, h14⟩ := e14 p hP m hL hn
  cases b14 with
  | false =>
    simp only [encPg, encM] at *
    simp [fir7, SE.den, cellOk]
    refine ⟨_, h10, ?_⟩
    simp
    refine ⟨_, h14, ?_⟩
    simp
  | true =>
  obtain ⟨hO, hg⟩ := f14 rfl
  by_cases hg1 : m.given < 1
  · simp only [encPg, encM] at *
    simp [fir7, SE.den, cellOk]
    refine ⟨_, h10, ?_⟩
    simp
    refine ⟨_, h14, ?_⟩
    simp
    left; exact hg1
  have hA := cv_u m.given
  rw [wrap_u (by omega) hg] at hA
  have hB0 := rem_u x m.given (by omega)
  have hB1 := rem_u y m.given (by omega)
  have r0 := Int.tmod_nonneg m.given hx
  have r1 := Int.tmod_nonneg m.given hy
  have s0 := Int.tmod_lt_of_pos x (show 0 < m.given by omega)
  have s1 := Int.tmod_lt_of_pos y (show 0 < m.given by omega)
  generalize x.tmod m.given = u at hB0 r0 s0
  generalize y.tmod m.given = v at hB1 r1 s1
  have hC0 := cv_i u
  have hC1 := cv_i v
  rw [wrap_in (by omega) (by omega)] at hC0 hC1
  have hD0 : IntKind.i64.wrap (1 + u) = 1 + u := wrap_in (by omega) (by omega)
  have hD1 : IntKind.i64.wrap (1 + v) = 1 + v := wrap_in (by omega) (by omega)
  have hi : ¬ (1 + u < 1 ∨ m.given < 1 + u) := by omega
  have hk : ¬ (1 + v < 1 ∨ m.given < 1 + v) := by omega
  have h2 : SmM2 m := ⟨hL.w, by have := hL.f; have := hL.p; omega, hL.l, fun x hx => (hL.x x hx).g⟩
  have heq := ret_two m hO _ _ hi hk
  obtain ⟨oa, ga, ea⟩ := hO.ret _ hi
  obtain ⟨oc, gc, ec⟩ := hO.ret _ hk
  obtain ⟨ob, gb, eb⟩ := oa.ret (1 + v) (by rw [ga]; exact hk)
  obtain ⟨od, gd, ed⟩ := oc.ret (1 + u) (by rw [gc]; exact hi)
  have sa := h2.ret (1 + u)
  have sc := h2.ret (1 + v)
  have pa := c22w m (1 + u) h2
  have pc := c22w m (1 + v) h2
  have pb := c22w _ (1 + v) sa
  have pd := c22w _ (1 + u) sc
  rw [ea] at pa; rw [ec] at pc; rw [eb] at pb; rw [ed] at pd
  have sb := sa.ret (1 + v)
  rw [← heq] at pd
  have p19 := c19 (retP (retP m (1 + u)).1 (1 + v)).1 (retP (retP m (1 + u)).1 (1 + v)).1 sb.w
  rw [sameM_refl] at p19
  generalize (retP (retP m (1 + u)).1 (1 + v)).1 = b at pb pd p19
  generalize (retP m (1 + u)).1 = a at pa pb
  generalize (retP m (1 + v)).1 = c at pc pd
  simp only [encPg, encM] at *
  simp [fir7, SE.den, cellOk]
  refine ⟨_, h10, ?_⟩
  simp
  refine ⟨_, h14, ?_⟩
  simp
  right
  refine ⟨by omega, ?_⟩
  simp [hA, hB0, hB1, hC0, hC1, hD0, hD1]
  refine ⟨_, pa, ?_⟩
  simp [cellOk]
  refine ⟨_, pb, ?_⟩
  simp [cellOk]
  refine ⟨_, pc, ?_⟩
  simp [cellOk]
  refine ⟨_, pd, ?_⟩
  simp [cellOk]
  refine ⟨by decide, _, p19, ⟨_, rfl⟩, rfl, _, c15, ⟨_, rfl⟩, rfl⟩
end Go.Proofs.YtggffkaadeagbaaGreat
namespace Go.Proofs.YtggffkaadeagbaaGreat
open Go Go.Ev
variable {H : Type} {enc : TypeId × Value → H} {w : World} {sp : Nat → Bool} {held : Bool}
theorem und25 : Tryz.prog.underlying 25 = some (.struct (fieldsOf 25)) := by kernel_rfl
theorem und86 : Tryz.prog.underlying 86 = some (.struct (fieldsOf 86)) := by kernel_rfl
theorem und68 : Tryz.prog.underlying 68 = some (.struct (fieldsOf 68)) := by kernel_rfl
theorem und88 : Tryz.prog.underlying 88 = some (.struct (fieldsOf 88)) := by kernel_rfl
theorem und22 : Tryz.prog.underlying 22 = some (.slice 86) := by kernel_rfl
theorem und23 : Tryz.prog.underlying 23 = some (.slice 68) := by kernel_rfl
theorem und34 : Tryz.prog.underlying 34 = some (.slice 50) := by kernel_rfl
theorem und66 : Tryz.prog.underlying 66 = some (.slice 88) := by kernel_rfl
theorem und54 : Tryz.prog.underlying 54 = some (.array 2 42) := by kernel_rfl
theorem cl22 : Tryz.prog.cellsOf 22 = 1 := by kernel_rfl
theorem cl23 : Tryz.prog.cellsOf 23 = 1 := by kernel_rfl
theorem cl34 : Tryz.prog.cellsOf 34 = 1 := by kernel_rfl
theorem cl66 : Tryz.prog.cellsOf 66 = 1 := by kernel_rfl
theorem cl86 : Tryz.prog.cellsOf 86 = 2 := by kernel_rfl
theorem cl68 : Tryz.prog.cellsOf 68 = 6 := by kernel_rfl
theorem cl88 : Tryz.prog.cellsOf 88 = 3 := by kernel_rfl
theorem cl25 : Tryz.prog.cellsOf 25 = 2 := by kernel_rfl
theorem cl42 : Tryz.prog.cellsOf 42 = 1 := by kernel_rfl
theorem cl54 : Tryz.prog.cellsOf 54 = 2 := by kernel_rfl
theorem f25v0 : fld 25 0 22 0 := by unfold fld; kernel_rfl
theorem f25v1 : fld 25 1 23 1 := by unfold fld; kernel_rfl
theorem f86v0 : fld 86 0 9 0 := by unfold fld; kernel_rfl
theorem f86v1 : fld 86 1 3 1 := by unfold fld; kernel_rfl
theorem f68v0 : fld 68 0 9 0 := by unfold fld; kernel_rfl
theorem f68v1 : fld 68 1 34 1 := by unfold fld; kernel_rfl
theorem f68v2 : fld 68 2 34 2 := by unfold fld; kernel_rfl
theorem f68v3 : fld 68 3 66 3 := by unfold fld; kernel_rfl
theorem f68v4 : fld 68 4 66 4 := by unfold fld; kernel_rfl
theorem f68v5 : fld 68 5 3 5 := by unfold fld; kernel_rfl
theorem f88v0 : fld 88 0 3 0 := by unfold fld; kernel_rfl
theorem f88v1 : fld 88 1 9 1 := by unfold fld; kernel_rfl
theorem f88v2 : fld 88 2 48 2 := by unfold fld; kernel_rfl
theorem list2 {α : Type} {l : List α} (h : l.length = 2) : ∃ a b, l = [a, b] := by
  match l, h with
  | [a, b], _ => exact ⟨a, b, rfl⟩
theorem list3 {α : Type} {l : List α} (h : l.length = 3) : ∃ a b c, l = [a, b, c] := by
  match l, h with
  | [a, b, c], _ => exact ⟨a, b, c, rfl⟩
theorem rq_str {n : Nat} {u : Value} {x : DataW H × List MemPlace} (h : DataW.trod enc Tryz.prog w 0 sp held n 9 [u] = some x) : ∃ a : List UInt8, Sm a ∧ Rd w (iS a) u := by
  obtain ⟨a, h1, h2⟩ := DataW.trod_string und9 h
  obtain rfl := (List.cons.inj h1).1
  refine ⟨a.data.toList, ?_, ?_⟩
  · have := h2.2
    simp only [maxLen] at this
    show a.data.toList.length ≤ _
    rw [Array.length_toList]
    have he : a.size = a.data.size := rfl
    omega
  · unfold iS
    rw [bytes_eta]
    exact .raw _
theorem rq_T : ∀ (fuel : Nat) (us : List Value) (x : DataW H × List MemPlace), DataW.trod enc Tryz.prog w 0 sp held fuel 84 us = some x → us.length = 4 → ∃ t : Tm, NmT t ∧ RvL (frz (allM w)) (cellsOf (encT t)) us := by
  intro fuel
  induction fuel using Nat.strongRecOn with
  | ind fuel ih =>
    intro us x h hl
    obtain ⟨a, b, c, d, rfl⟩ := list4 hl
    obtain ⟨n, hn, hf⟩ := struct_fld und84 h
    obtain ⟨_, h0⟩ := hf 0 3 0 1 f84v0 cl3
    obtain ⟨_, h1⟩ := hf 1 3 1 1 f84v1 cl3
    obtain ⟨_, h2⟩ := hf 2 9 2 1 f84v2 cl9
    obtain ⟨_, h3⟩ := hf 3 48 3 1 f84v3 cl48
    obtain ⟨k, r0⟩ := rd_int h0
    obtain ⟨m, r1⟩ := rd_int h1
    obtain ⟨s, w2, r2⟩ := rq_str h2
    obtain ⟨ts, hs, hw, r3⟩ := read_slice (w := w) encT (s := 4) (by omega) cellsT NmT und48 cl84 (fun n' us' x' hn' hx' hl' => ih n' (by omega) us' x' hx' hl') h3
    refine ⟨.mk k m s ts, ?_, ?_⟩
    · rw [nmT_iff]; exact ⟨w2, hs, hw⟩
    · rw [encT_mk]
      exact RvL.cons r0 (RvL.cons r1 (RvL.cons r2 (RvL.cons r3 RvL.nil)))
theorem rq_Ts {n : Nat} {u : Value} {x : DataW H × List MemPlace} (h : DataW.trod enc Tryz.prog w 0 sp held n 48 [u] = some x) : ∃ l : List Tm, Sm l ∧ (∀ f ∈ l, NmT f) ∧ Rd w (iT l) u :=
  read_slice (w := w) encT (s := 4) (by omega) cellsT NmT und48 cl84 (fun n' us' x' _ hx' hl' => rq_T n' us' x' hx' hl') h
theorem rq_A (fuel : Nat) (us : List Value) (x : DataW H × List MemPlace) (h : DataW.trod enc Tryz.prog w 0 sp held fuel 50 us = some x) (hl : us.length = 2) : ∃ f : At, NmA f ∧ RvL (frz (allM w)) (cellsOf (encA f)) us := by
  obtain ⟨a, b, rfl⟩ := list2 hl
  obtain ⟨n, hn, hf⟩ := struct_fld und50 h
  obtain ⟨_, h0⟩ := hf 0 9 0 1 f50v0 cl9
  obtain ⟨_, h1⟩ := hf 1 48 1 1 f50v1 cl48
  obtain ⟨s, w0, r0⟩ := rq_str h0
  obtain ⟨ts, w1, v1, r1⟩ := rq_Ts h1
  exact ⟨⟨s, ts⟩, ⟨w0, w1, v1⟩, RvL.cons r0 (RvL.cons r1 RvL.nil)⟩
theorem rq_As {n : Nat} {u : Value} {x : DataW H × List MemPlace} (h : DataW.trod enc Tryz.prog w 0 sp held n 34 [u] = some x) : ∃ l : List At, Sm l ∧ (∀ f ∈ l, NmA f) ∧ Rd w (iAs l) u :=
  read_slice (w := w) encA (s := 2) (by omega) (fun _ => rfl) NmA und34 cl50 (fun n' us' x' _ hx' hl' => rq_A n' us' x' hx' hl') h
theorem rq_G (fuel : Nat) (us : List Value) (x : DataW H × List MemPlace) (h : DataW.trod enc Tryz.prog w 0 sp held fuel 88 us = some x) (hl : us.length = 3) : ∃ f : Gl, NmG f ∧ RvL (frz (allM w)) (cellsOf (encG f)) us := by
  obtain ⟨a, b, c, rfl⟩ := list3 hl
  obtain ⟨n, hn, hf⟩ := struct_fld und88 h
  obtain ⟨_, h0⟩ := hf 0 3 0 1 f88v0 cl3
  obtain ⟨_, h1⟩ := hf 1 9 1 1 f88v1 cl9
  obtain ⟨_, h2⟩ := hf 2 48 2 1 f88v2 cl48
  obtain ⟨op, r0⟩ := rd_int h0
  obtain ⟨s, w1, r1⟩ := rq_str h1
  obtain ⟨ts, w2, v2, r2⟩ := rq_Ts h2
  exact ⟨⟨op, s, ts⟩, ⟨w1, w2, v2⟩, RvL.cons r0 (RvL.cons r1 (RvL.cons r2 RvL.nil))⟩
theorem rq_Gs {n : Nat} {u : Value} {x : DataW H × List MemPlace} (h : DataW.trod enc Tryz.prog w 0 sp held n 66 [u] = some x) : ∃ l : List Gl, Sm l ∧ (∀ f ∈ l, NmG f) ∧ Rd w (iGs l) u :=
  read_slice (w := w) encG (s := 3) (by omega) (fun _ => rfl) NmG und66 cl88 (fun n' us' x' _ hx' hl' => rq_G n' us' x' hx' hl') h
def RdR (r : Rl) : Prop := NmR r ∧ Sm r.keep ∧ Sm r.remove ∧ Sm r.guard ∧ Sm r.body
theorem rq_R (fuel : Nat) (us : List Value) (x : DataW H × List MemPlace) (h : DataW.trod enc Tryz.prog w 0 sp held fuel 68 us = some x) (hl : us.length = 6) : ∃ f : Rl, RdR f ∧ RvL (frz (allM w)) (cellsOf (encR f)) us := by
  obtain ⟨a, b, c, d, e, f, rfl⟩ := list6 hl
  obtain ⟨n, hn, hf⟩ := struct_fld und68 h
  obtain ⟨_, h0⟩ := hf 0 9 0 1 f68v0 cl9
  obtain ⟨_, h1⟩ := hf 1 34 1 1 f68v1 cl34
  obtain ⟨_, h2⟩ := hf 2 34 2 1 f68v2 cl34
  obtain ⟨_, h3⟩ := hf 3 66 3 1 f68v3 cl66
  obtain ⟨_, h4⟩ := hf 4 66 4 1 f68v4 cl66
  obtain ⟨_, h5⟩ := hf 5 3 5 1 f68v5 cl3
  obtain ⟨s, w0, r0⟩ := rq_str h0
  obtain ⟨keep, w1, v1, r1⟩ := rq_As h1
  obtain ⟨rem, w2, v2, r2⟩ := rq_As h2
  obtain ⟨guard, w3, v3, r3⟩ := rq_Gs h3
  obtain ⟨body, w4, v4, r4⟩ := rq_Gs h4
  obtain ⟨vars, r5⟩ := rd_int h5
  refine ⟨⟨s, keep, rem, guard, body, vars⟩, ⟨⟨w0, fun a ha => ?_, fun a ha => ?_⟩, w1, w2, w3, w4⟩, RvL.cons r0 (RvL.cons r1 (RvL.cons r2 (RvL.cons r3 (RvL.cons r4 (RvL.cons r5 RvL.nil)))))⟩
  · rcases List.mem_append.1 ha with ha | ha
    · exact v1 a ha
    · exact v2 a ha
  · rcases List.mem_append.1 ha with ha | ha
    · exact v3 a ha
    · exact v4 a ha
theorem rq_D (fuel : Nat) (us : List Value) (x : DataW H × List MemPlace) (h : DataW.trod enc Tryz.prog w 0 sp held fuel 86 us = some x) (hl : us.length = 2) : ∃ f : De, Sm f.s ∧ RvL (frz (allM w)) (cellsOf (encD f)) us := by
  obtain ⟨a, b, rfl⟩ := list2 hl
  obtain ⟨n, hn, hf⟩ := struct_fld und86 h
  obtain ⟨_, h0⟩ := hf 0 9 0 1 f86v0 cl9
  obtain ⟨_, h1⟩ := hf 1 3 1 1 f86v1 cl3
  obtain ⟨s, w0, r0⟩ := rq_str h0
  obtain ⟨k, r1⟩ := rd_int h1
  exact ⟨⟨s, k⟩, w0, RvL.cons r0 (RvL.cons r1 RvL.nil)⟩
theorem rq_Pg {fuel : Nat} {us : List Value} {x : DataW H × List MemPlace} (h : DataW.trod enc Tryz.prog w 0 sp held fuel 25 us = some x) (hl : us.length = 2) : ∃ p : Pg, NmP p ∧ Rd w (encPg p) (.agg us.toArray) := by
  obtain ⟨a, b, rfl⟩ := list2 hl
  obtain ⟨n, hn, hf⟩ := struct_fld und25 h
  obtain ⟨_, h0⟩ := hf 0 22 0 1 f25v0 cl22
  obtain ⟨_, h1⟩ := hf 1 23 1 1 f25v1 cl23
  obtain ⟨ds, w0, v0, r0⟩ := read_slice (w := w) encD (s := 2) (by omega) (fun _ => rfl) (fun d => Sm d.s) und22 cl86 (fun n' us' x' _ hx' hl' => rq_D n' us' x' hx' hl') h0
  obtain ⟨rs, w1, v1, r1⟩ := read_slice (w := w) encR (s := 6) (by omega) (fun _ => rfl) RdR und23 cl68 (fun n' us' x' _ hx' hl' => rq_R n' us' x' hx' hl') h1
  refine ⟨⟨ds, rs⟩, ⟨w0, w1, v0, v1⟩, ?_⟩
  have hR : RvL (frz (allM w)) [iDs ds, iRs rs] [a, b] := RvL.cons r0 (RvL.cons r1 RvL.nil)
  exact Rv.agg _ _ hR.1 hR.2
theorem rq_F (fuel : Nat) (us : List Value) (x : DataW H × List MemPlace) (h : DataW.trod enc Tryz.prog w 0 sp held fuel 52 us = some x) (hl : us.length = 4) : ∃ f : Fa, NmF f ∧ RvL (frz (allM w)) (cellsOf (encF f)) us := by
  obtain ⟨a, b, c, d, rfl⟩ := list4 hl
  obtain ⟨n, hn, hf⟩ := struct_fld und52 h
  obtain ⟨_, h0⟩ := hf 0 3 0 1 f52v0 cl3
  obtain ⟨_, h1⟩ := hf 1 50 1 2 f52v1 cl50
  obtain ⟨_, h2⟩ := hf 2 47 3 1 f52v2 cl47
  obtain ⟨id, r0⟩ := rd_int h0
  obtain ⟨j, hj, r3⟩ := rd_ints h2
  obtain ⟨n', hn', hg⟩ := struct_fld und50 h1
  obtain ⟨_, g0⟩ := hg 0 9 0 1 f50v0 cl9
  obtain ⟨_, g1⟩ := hg 1 48 1 1 f50v1 cl48
  obtain ⟨s, w1, r1⟩ := rq_str g0
  obtain ⟨ts, w2, v2, r2⟩ := rq_Ts g1
  exact ⟨⟨id, ⟨s, ts⟩, j⟩, ⟨⟨w1, w2, v2⟩, hj⟩, RvL.cons r0 (RvL.cons r1 (RvL.cons r2 (RvL.cons r3 RvL.nil)))⟩
theorem rq_Fs {n : Nat} {u : Value} {x : DataW H × List MemPlace} (h : DataW.trod enc Tryz.prog w 0 sp held n 26 [u] = some x) : ∃ l : List Fa, Sm l ∧ (∀ f ∈ l, NmF f) ∧ Rd w (iFs l) u :=
  read_slice (w := w) encF (s := 4) (by omega) (fun _ => rfl) NmF und26 cl52 (fun n' us' x' _ hx' hl' => rq_F n' us' x' hx' hl') h
theorem NmF.wf {f : Fa} (h : NmF f) : WfF f := ⟨⟨h.1.2.1, fun t ht => (h.1.2.2 t ht).wf⟩, h.2⟩
theorem rq_M {fuel : Nat} {us : List Value} {x : DataW H × List MemPlace} (h : DataW.trod enc Tryz.prog w 0 sp held fuel 29 us = some x) (hl : us.length = 5) : ∃ m : Me, WfM m ∧ (∀ f ∈ m.facts ++ m.past, NmF f) ∧ Rd w (encM m) (.agg us.toArray) := by
  obtain ⟨a, b, c, d, e, rfl⟩ := list5 hl
  obtain ⟨n, hn, hf⟩ := struct_fld und29 h
  obtain ⟨_, h0⟩ := hf 0 26 0 1 f29v0 cl26
  obtain ⟨_, h1⟩ := hf 1 26 1 1 f29v1 cl26
  obtain ⟨_, h2⟩ := hf 2 27 2 1 f29v2 cl27
  obtain ⟨_, h3⟩ := hf 3 3 3 1 f29v3 cl3
  obtain ⟨_, h4⟩ := hf 4 3 4 1 f29v4 cl3
  obtain ⟨facts, w0, v0, r0⟩ := rq_Fs h0
  obtain ⟨past, w1, v1, r1⟩ := rq_Fs h1
  obtain ⟨log, w2, v2, r2⟩ := rd_Ps h2
  obtain ⟨nx, r3⟩ := rd_int h3
  obtain ⟨gv, r4⟩ := rd_int h4
  refine ⟨⟨facts, past, log, nx, gv⟩, ⟨w0, w1, w2, fun f hf => (v0 f hf).wf, fun f hf => (v1 f hf).wf, v2⟩, fun f hf => ?_, ?_⟩
  · rcases List.mem_append.1 hf with hf | hf
    · exact v0 f hf
    · exact v1 f hf
  have hR : RvL (frz (allM w)) [iFs facts, iFs past, iPs log, iI nx, iI gv] [a, b, c, d, e] := RvL.cons r0 (RvL.cons r1 (RvL.cons r2 (RvL.cons r3 (RvL.cons r4 RvL.nil))))
  exact Rv.agg _ _ hR.1 hR.2
theorem rq_uint {n : Nat} {u : Value} {x : DataW H × List MemPlace} (h : DataW.trod enc Tryz.prog w 0 sp held n 42 [u] = some x) : ∃ a : Int, 0 ≤ a ∧ Rd w (iW a) u := by
  obtain ⟨a, h1, h2⟩ := DataW.trod_int und42 h
  obtain rfl := (List.cons.inj h1).1
  exact ⟨a, (bounds_u64 h2.2).1, .raw _⟩
theorem rq_two {fuel : Nat} {us : List Value} {x : DataW H × List MemPlace} (h : DataW.trod enc Tryz.prog w 0 sp held fuel 54 us = some x) (hl : us.length = 2) : ∃ a b : Int, 0 ≤ a ∧ 0 ≤ b ∧ Rd w (.agg [iW a, iW b]) (.agg us.toArray) := by
  obtain ⟨a, b, rfl⟩ := list2 hl
  obtain ⟨xs, m, rfl, rfl, _, hx, hi⟩ := DataW.trod_array und54 h
  rw [cl42] at hi
  have h0 := hi 0 (by omega)
  have h1 := hi 1 (by omega)
  simp only [List.drop_succ_cons, List.drop_zero, Nat.zero_mul, Nat.one_mul, List.take_succ_cons, List.take_zero] at h0 h1
  rw [List.getElem?_eq_getElem (by omega)] at h0 h1
  obtain ⟨p, hp, r0⟩ := rq_uint h0
  obtain ⟨q, hq, r1⟩ := rq_uint h1
  refine ⟨p, q, hp, hq, ?_⟩
  have hR : RvL (frz (allM w)) [iW p, iW q] [a, b] := RvL.cons r0 (RvL.cons r1 RvL.nil)
  exact Rv.agg _ _ hR.1 hR.2
end Go.Proofs.YtggffkaadeagbaaGreat
