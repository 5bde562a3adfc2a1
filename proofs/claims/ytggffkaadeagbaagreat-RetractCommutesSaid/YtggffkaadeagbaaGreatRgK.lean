/- A part of the proof, no condition: two retractions in one or the other order; facts. -/
import Derived.Test.YtggffkaadeagbaaGreatRuR
import Derived.Test.YtggffkaadeagbaaGreatRgL
set_option linter.all false
namespace Go.Proofs.YtggffkaadeagbaaGreat
open Go Go.Ev
def SrtF (l : List Fa) : Prop := l.Pairwise fun a b => a.id < b.id
theorem srt_ext {l m : List Fa} (hl : SrtF l) (hm : SrtF m) (h : ∀ f, f ∈ l ↔ f ∈ m) : l = m := by
  induction l generalizing m with
  | nil =>
    cases m with
    | nil => rfl
    | cons a m => exact absurd ((h a).2 (by simp)) (by simp)
  | cons a l ih =>
    cases m with
    | nil => exact absurd ((h a).1 (by simp)) (by simp)
    | cons b m =>
      rw [SrtF, List.pairwise_cons] at hl hm
      have hab : a = b := by
        rcases List.mem_cons.1 ((h a).1 (by simp)) with h1 | h1
        · exact h1
        · rcases List.mem_cons.1 ((h b).2 (by simp)) with h2 | h2
          · exact h2.symm
          · have := hl.1 b h2; have := hm.1 a h1; omega
      subst hab
      congr 1
      refine ih hl.2 hm.2 fun f => ?_
      constructor
      · intro hf
        rcases List.mem_cons.1 ((h f).1 (by simp [hf])) with h1 | h1
        · subst h1; have := hl.1 f hf; omega
        · exact h1
      · intro hf
        rcases List.mem_cons.1 ((h f).2 (by simp [hf])) with h1 | h1
        · subst h1; have := hm.1 f hf; omega
        · exact h1
structure OkM (m : Me) : Prop where
  f : SrtF m.facts
  p : SrtF m.past
  d : ∀ a ∈ m.facts, ∀ b ∈ m.past, a.id ≠ b.id
theorem mem_mrg2 {l o : List Fa} {f : Fa} : f ∈ mrg ltF o l ↔ f ∈ o ∨ f ∈ l := by
  induction l generalizing o with
  | nil => simp [mrg]
  | cons x l ih => rw [mrg, ih, mem_insL]; simp; grind
theorem insL_srt {l : List Fa} {x : Fa} (h : SrtF l) (hx : ∀ a ∈ l, a.id ≠ x.id) : SrtF (insL ltF x l) := by
  induction l with
  | nil => simp [insL, SrtF]
  | cons a l ih =>
    rw [SrtF, List.pairwise_cons] at h
    unfold insL
    split
    · rename_i hlt
      have h1 : x.id < a.id := by simpa [ltF] using hlt
      rw [SrtF, List.pairwise_cons, List.pairwise_cons]
      refine ⟨fun b hb => ?_, h.1, h.2⟩
      rcases List.mem_cons.1 hb with rfl | hb
      · exact h1
      · have := h.1 b hb; omega
    · rename_i hlt
      have h1 : ¬ x.id < a.id := by simpa [ltF] using hlt
      have h2 := hx a (by simp)
      rw [SrtF, List.pairwise_cons]
      refine ⟨fun b hb => ?_, ih h.2 fun b hb => hx b (by simp [hb])⟩
      rcases mem_insL.1 hb with rfl | hb
      · omega
      · exact h.1 b hb
theorem mrg_srt {l o : List Fa} (ho : SrtF o) (hl : SrtF l ∨ l.Pairwise fun a b => a.id ≠ b.id) (hd : ∀ a ∈ o, ∀ b ∈ l, a.id ≠ b.id) : SrtF (mrg ltF o l) := by
  have hl : l.Pairwise fun a b => a.id ≠ b.id := by
    rcases hl with hl | hl
    · exact hl.imp fun h => by omega
    · exact hl
  induction l generalizing o with
  | nil => simpa [mrg] using ho
  | cons x l ih =>
    rw [List.pairwise_cons] at hl
    rw [mrg]
    refine ih (insL_srt ho fun a ha => hd a ha x (by simp)) (.inr hl.2) (fun a ha b hb => ?_) hl.2
    rcases mem_insL.1 ha with rfl | ha
    · exact hl.1 b hb
    · exact hd a ha b (by simp [hb])
theorem OkM.ret {m : Me} (h : OkM m) (n : Int) (hn : ¬ (n < 1 ∨ m.given < n)) : OkM (retP m n).1 ∧ (retP m n).1.given = m.given ∧ (retP m n).2 = 0 := by
  rw [retP, if_neg hn]
  have hs : SrtF (mrg ltF [] (m.facts ++ m.past.filter fun f => decide (f.id ∈ backM m n))) := by
    refine mrg_srt (by simp [SrtF]) (.inr ?_) (by simp)
    rw [List.pairwise_append]
    refine ⟨h.f.imp fun h => by omega, (h.p.filter _).imp fun h => by omega, fun a ha b hb => h.d a ha b (List.mem_filter.1 hb).1⟩
  refine ⟨⟨hs.filter _, (h.p.filter _).filter _, fun a ha b hb => ?_⟩, rfl, rfl⟩
  have h1 := (List.mem_filter.1 ha).1
  have h2 := (List.mem_filter.1 hb).1
  rw [List.mem_filter] at h2
  rcases mem_mrg2.1 h1 with h1 | h1
  · simp at h1
  · rcases List.mem_append.1 h1 with h1 | h1
    · exact h.d a h1 b h2.1
    · rw [List.mem_filter] at h1
      intro he
      rw [he] at h1
      have h3 := h1.2; have h4 := h2.2
      simp at h3 h4
      exact h4 h3
theorem ret_two (m : Me) (h : OkM m) (i k : Int) (hi : ¬ (i < 1 ∨ m.given < i)) (hk : ¬ (k < 1 ∨ m.given < k)) : (retP (retP m i).1 k).1 = (retP (retP m k).1 i).1 := by
  have key : ∀ i k : Int, ¬ (i < 1 ∨ m.given < i) → ¬ (k < 1 ∨ m.given < k) → 
      (∀ f, f ∈ (retP (retP m i).1 k).1.facts ↔ i ∉ f.j ∧ k ∉ f.j ∧ (f ∈ m.facts ∨ f ∈ m.past ∧ (f.id ∈ backM m i ∨ f.id ∈ backM m k))) ∧
      (∀ f, f ∈ (retP (retP m i).1 k).1.past ↔ i ∉ f.j ∧ k ∉ f.j ∧ f ∈ m.past ∧ ¬ (f.id ∈ backM m i ∨ f.id ∈ backM m k)) ∧
      (retP (retP m i).1 k).1.log = m.log.filter (fun x => !decide (i ∈ x.just) && !decide (k ∈ x.just)) ∧ (retP (retP m i).1 k).1.next = m.next ∧ (retP (retP m i).1 k).1.given = m.given := by
    intro i k hi hk
    have hb : ∀ a : Int, a ∈ backM m i ∨ a ∈ backM (retP m i).1 k ↔ a ∈ backM m i ∨ a ∈ backM m k := by
      intro a
      rw [retP, if_neg hi]
      simp only [backM, List.mem_flatMap, List.mem_filter]
      constructor
      · rintro (h | ⟨x, ⟨⟨h1, h2⟩, h3⟩, h4⟩)
        · exact .inl h
        · exact .inr ⟨x, ⟨h1, h3⟩, h4⟩
      · rintro (h | ⟨x, ⟨h1, h3⟩, h4⟩)
        · exact .inl h
        · by_cases hx : i ∈ x.just
          · exact .inl ⟨x, ⟨h1, by simpa using hx⟩, h4⟩
          · exact .inr ⟨x, ⟨⟨h1, by simpa using hx⟩, h3⟩, h4⟩
    have hg : (retP m i).1.given = m.given := (h.ret i hi).2.1
    have hf : ∀ f, f ∈ (retP m i).1.facts ↔ i ∉ f.j ∧ (f ∈ m.facts ∨ f ∈ m.past ∧ f.id ∈ backM m i) := by
      intro f
      rw [retP, if_neg hi]
      simp only [freeF, List.mem_filter, mem_mrg2, List.mem_append]
      simp
      grind
    have hp : ∀ f, f ∈ (retP m i).1.past ↔ i ∉ f.j ∧ f ∈ m.past ∧ f.id ∉ backM m i := by
      intro f
      rw [retP, if_neg hi]
      simp only [freeF, List.mem_filter]
      simp
      grind
    have hl : (retP m i).1.log = m.log.filter (fun x => !decide (i ∈ x.just)) := by rw [retP, if_neg hi]
    have hnx : (retP m i).1.next = m.next := by rw [retP, if_neg hi]
    generalize (retP m i).1 = m' at hb hg hf hp hl hnx
    have hk' : ¬ (k < 1 ∨ m'.given < k) := by rw [hg]; exact hk
    rw [retP, if_neg hk']
    refine ⟨fun f => ?_, fun f => ?_, ?_, hnx, hg⟩
    · simp only [freeF, List.mem_filter, mem_mrg2, List.mem_append, hf, hp]
      have := hb f.id
      simp
      grind
    · simp only [freeF, List.mem_filter, hp]
      have := hb f.id
      simp
      grind
    · simp only [hl, List.filter_filter]
      congr 1
      funext x
      exact Bool.and_comm _ _
  obtain ⟨a1, a2, a3, a4, a5⟩ := key i k hi hk
  obtain ⟨b1, b2, b3, b4, b5⟩ := key k i hk hi
  obtain ⟨o1, g1, _⟩ := h.ret i hi
  obtain ⟨o2, g2, _⟩ := h.ret k hk
  obtain ⟨p1, _, _⟩ := o1.ret k (by rw [g1]; exact hk)
  obtain ⟨p2, _, _⟩ := o2.ret i (by rw [g2]; exact hi)
  generalize (retP (retP m i).1 k).1 = x at a1 a2 a3 a4 a5 p1
  generalize (retP (retP m k).1 i).1 = y at b1 b2 b3 b4 b5 p2
  have e1 : x.facts = y.facts := srt_ext p1.f p2.f fun f => by rw [a1, b1]; grind
  have e2 : x.past = y.past := srt_ext p1.p p2.p fun f => by rw [a2, b2]; grind
  have e3 : x.log = y.log := by
    rw [a3, b3]
    congr 1
    funext x
    exact Bool.and_comm _ _
  obtain ⟨x1, x2, x3, x4, x5⟩ := x
  obtain ⟨y1, y2, y3, y4, y5⟩ := y
  simp only at e1 e2 e3 a4 a5 b4 b5
  subst e1 e2 e3
  rw [a4, a5, b4, b5]
end Go.Proofs.YtggffkaadeagbaaGreat
namespace Go.Proofs.YtggffkaadeagbaaGreat
open Go Go.Ev
theorem wrapm {i n : Nat} (h0 : 0 < i) (h : i ≤ n) (hn : n ≤ 9223372036854775807) : IntKind.i64.wrap ((i : Int) - 1) = ((i - 1 : Nat) : Int) := by
  rw [wrap_in (by omega) (by omega)]; omega
theorem n99 : (Tryz.prog.funcs[99]?).map (·.params.size) = some 1 := by kernel_rfl
theorem t99 (z : IV) : tupOk Tryz.prog 99 z = true := by kernel_rfl
theorem e99 (l : List Int) (hl : Sm l) : ∃ b, CC 99 false [iL l] (iB b) := by
  refine CC.bool ex99 n99 t99 (by simp) (by rfl) ?_
  simp [fir99, fir99v0, SE.den, cellOk]
  refine sat_loop2 l.length (fun i (_ : Unit) => [iI i]) (fun _ _ => True) () ?_ trivial fun i _ hi _ => ?_
  · simp [SE.den]
  by_cases hlt : i < l.length
  · have hw := wrapi hlt hl
    simp [SE.den, hlt, hw, ix_L hlt, cellOk]
    by_cases z1 : l[i] < 1
    · left; exact z1
    right; refine ⟨by omega, ?_⟩
    by_cases z2 : 64 < l[i]
    · left; exact z2
    right; refine ⟨by omega, ?_⟩
    by_cases z3 : 0 < i
    · left; refine ⟨z3, ?_⟩
      have hm := wrapm z3 (Nat.le_of_lt hlt) hl
      have hlt' : i - 1 < l.length := by omega
      have hx := ix_L hlt'
      simp only [iL] at hx
      simp [hm, hx]
      by_cases z4 : l[i] ≤ l[i - 1]
      · left; exact z4
      · right; exact ⟨by omega, .mk () rfl (by omega) trivial⟩
    · right; exact ⟨by omega, .mk () rfl (by omega) trivial⟩
  · simp [SE.den, hlt]
def zeroF : Fa := ⟨0, ⟨[], []⟩, []⟩
def findF (l : List Fa) (id : Int) : Option Fa := l.find? fun f => f.id == id
def encO : Option Fa → IV
  | some f => .tup [encF f, iB true]
  | none => .tup [encF zeroF, iB false]
theorem n41 : (Tryz.prog.funcs[41]?).map (·.params.size) = some 2 := by kernel_rfl
theorem t41 (a b : IV) : tupOk Tryz.prog 41 (.tup [a, b]) = true := by kernel_rfl
theorem pure_encO (o : Option Fa) : Pure (encO o) := by
  cases o <;> exact .tup _ (by simp [pure_encF])
theorem c41 (l : List Fa) (id : Int) (hl : Sm l) : CC 41 false [iFs l, iI id] (encO (findF l id)) := by
  refine CC.of ex41 n41 (by cases findF l id <;> exact t41 _ _) (by simp) (pure_encO _) ?_
  simp [fir41, fir41v0, SE.den, cellOk]
  refine sat_loop2 l.length (fun i (_ : Unit) => [iI i]) (fun i _ => findF l id = findF (l.drop i) id) () ?_ (by simp) fun i _ hi hI => ?_
  · simp [SE.den]
  by_cases hlt : i < l.length
  · have hw := wrapi hlt hl
    have hI2 : findF l id = if l[i].id = id then some l[i] else findF (l.drop (i + 1)) id := by
      rw [hI, List.drop_eq_getElem_cons hlt]
      unfold findF
      rw [List.find?_cons]
      by_cases z : l[i].id = id
      · simp [z]
      · have : (l[i].id == id) = false := by simpa using z
        rw [this, if_neg z]
    simp [SE.den, hlt, hw, iz_F hlt, cellOk]
    by_cases z : l[i].id = id
    · left
      refine ⟨z, ?_⟩
      rw [hI2, if_pos z]
      simp [encO, encF, z]
    · right
      refine ⟨z, .mk () rfl (by omega) ?_⟩
      rw [hI2, if_neg z]
  · rw [List.drop_of_length_le (by omega)] at hI
    simp [SE.den, hlt]
    rw [hI]
    rfl
theorem n100 : (Tryz.prog.funcs[100]?).map (·.params.size) = some 2 := by kernel_rfl
theorem t100 (a b : IV) : tupOk Tryz.prog 100 (.tup [a, b]) = true := by kernel_rfl
def eitherF (m : Me) (id : Int) : Option Fa := match findF m.facts id with
  | some f => some f
  | none => findF m.past id
theorem c100 (m : Me) (id : Int) (h : WfM m) : CC 100 false [encM m, iI id] (encO (eitherF m id)) := by
  refine CC.of ex100 n100 (by cases eitherF m id <;> exact t100 _ _) (by simp [pure_encM]) (pure_encO _) ?_
  have h1 := c41 m.facts id h.sf
  have h2 := c41 m.past id h.sp
  simp [fir100, SE.den, encM, cellOk]
  refine ⟨_, h1, ?_⟩
  unfold eitherF
  cases findF m.facts id with
  | some f => simp [encO, SE.den, encF, cellOk]
  | none =>
    simp [encO, SE.den, encF, cellOk]
    refine ⟨_, h2, ?_⟩
    cases findF m.past id with
    | some f => simp [encO, SE.den, encF, cellOk]
    | none => simp [encO, SE.den, encF, cellOk, zeroF]
theorem findF_mem {l : List Fa} {id : Int} {f : Fa} (h : findF l id = some f) : f ∈ l := List.mem_of_find?_eq_some h
theorem eitherF_mem {m : Me} {id : Int} {f : Fa} (h : eitherF m id = some f) : f ∈ m.facts ++ m.past := by
  unfold eitherF at h
  split at h
  · cases h; rename_i g; exact List.mem_append_left _ (findF_mem g)
  · exact List.mem_append_right _ (findF_mem h)
theorem srt_step {l : List Fa} {i : Nat} (h : i < l.length) (hs : SrtF (l.take i)) (hk : 0 < i → ∀ h' : i - 1 < l.length, l[i - 1].id < l[i].id) : SrtF (l.take (i + 1)) := by
  rw [List.take_succ_eq_append_getElem h, SrtF, List.pairwise_append]
  refine ⟨hs, by simp, fun a ha b hb => ?_⟩
  simp at hb; subst hb
  by_cases h0 : 0 < i
  · have hi : i - 1 < l.length := by omega
    have hk' := hk h0 hi
    have e : l.take i = l.take (i - 1) ++ [l[i - 1]] := by
      rw [← List.take_succ_eq_append_getElem hi]; congr 1; omega
    rw [e, SrtF, List.pairwise_append] at hs
    rw [e] at ha
    rcases List.mem_append.1 ha with ha | ha
    · have := hs.2.2 a ha l[i - 1] (by simp); omega
    · simp at ha; subst ha; exact hk'
  · have : i = 0 := by omega
    subst this; simp at ha
def NmF (f : Fa) : Prop := NmA f.a ∧ Sm f.j
theorem n39 : (Tryz.prog.funcs[39]?).map (·.params.size) = some 3 := by kernel_rfl
theorem t39 (z : IV) : tupOk Tryz.prog 39 z = true := by kernel_rfl
theorem e39 (p : Pg) (hd : Sm p.decls) (m : Me) (l : List Fa) (hl : Sm l) (hn : ∀ f ∈ l, NmF f) : ∃ b, (b = true → SrtF l) ∧ CC 39 false [encPg p, encM m, iFs l] (iB b) := by
  refine CC.boolP _ ex39 n39 t39 (by intro x hx; simp at hx; rcases hx with rfl | rfl | rfl; exact pure_encPg p; exact pure_encM m; exact pure_iFs l) (by rfl) ?_
  obtain ⟨ds, rs⟩ := p
  simp only at *
  show fir39.sat _ _ _ _ [.agg [iDs ds, iRs rs], .agg [iFs m.facts, iFs m.past, iPs m.log, iI m.next, iI m.given], iFs l]
  simp [fir39, SE.den, cellOk]
  unfold fir39v0
  refine sat_loop2 l.length (fun i (_ : Unit) => [iI i]) (fun i _ => SrtF (l.take i)) () ?_ (by simp [SrtF]) fun i _ hi hI => ?_
  · simp [SE.den]
  by_cases hlt : i < l.length
  · have hw := wrapi hlt hl
    have hfl := hn _ (List.getElem_mem hlt)
    obtain ⟨b49, hf49, h49⟩ := e49 l[i].a hfl.1
    have h50 : (l[i].a.ts.length ≤ 6 ∧ ∀ t ∈ l[i].a.ts, FormT t) → ∃ l', Vr l' ∧ CC 50 false [.agg [iS l[i].a.s, iT l[i].a.ts]] (iL l') := fun hf => e50 l[i].a hfl.1.2.1 fun t ht => ⟨(hfl.1.2.2 t ht).wf, hf.2 t ht⟩
    obtain ⟨b51, h51⟩ := e51 ds l[i].a.s l[i].a.ts.length hd
    obtain ⟨b99, h99⟩ := e99 l[i].j hfl.2
    simp [SE.den, hlt, hw, iz_F hlt, cellOk]
    by_cases y1 : l[i].id < 1
    · left; exact y1
    right; refine ⟨by omega, ?_⟩
    by_cases y2 : m.next ≤ l[i].id
    · left; exact y2
    right; refine ⟨by omega, ?_⟩
    by_cases y3 : 0 < i
    · left; refine ⟨y3, ?_⟩
      have hm := wrapm y3 (Nat.le_of_lt hlt) hl
      have hlt' : i - 1 < l.length := by omega
      have hx := iz_F hlt'
      simp only [iFs] at hx
      simp [hm, hx, cellOk]
      by_cases y4 : l[i].id ≤ l[i - 1].id
      · left; exact y4
      right; refine ⟨by omega, ?_⟩
      have hlast : 0 < i → ∀ h' : i - 1 < l.length, l[i - 1].id < l[i].id := fun _ _ => by omega
      refine ⟨_, h49, ?_⟩
      cases b49 <;> simp
      obtain ⟨v, kv, h50⟩ := h50 (hf49 rfl)
      refine ⟨_, h50, ?_⟩
      simp
      by_cases z1 : v = []
      rotate_left
      · left; exact List.length_pos_iff.2 z1
      right; refine ⟨z1, _, h51, ?_⟩
      cases b51 <;> simp
      by_cases z2 : l[i].j = []
      · left; exact z2
      right; refine ⟨z2, _, h99, ?_⟩
      cases b99 <;> simp
      have hp : 0 < l[i].j.length := List.length_pos_iff.2 z2
      have j0 : denIdx 1 (iL l[i].j) (iI 0) = some (iI l[i].j[0]) := ix_L (l := l[i].j) (i := 0) hp
      have j1 := ix_L (l := l[i].j) (i := l[i].j.length - 1) (by omega)
      have jw := wrapm hp (Nat.le_refl _) hfl.2
      simp only [iL, Int.natCast_zero] at j0 j1
      simp [j0, j1, jw]
      by_cases z3 : l[i].j[0] < 1
      · left; exact z3
      right; refine ⟨by omega, ?_⟩
      by_cases z4 : m.given < l[i].j[l[i].j.length - 1]
      · left; exact z4
      right; exact ⟨by omega, .mk () rfl (by omega) (srt_step hlt hI hlast)⟩
    · right; refine ⟨by omega, ?_⟩
      have hlast : 0 < i → ∀ h' : i - 1 < l.length, l[i - 1].id < l[i].id := fun h => absurd h y3
      refine ⟨_, h49, ?_⟩
      cases b49 <;> simp
      obtain ⟨v, kv, h50⟩ := h50 (hf49 rfl)
      refine ⟨_, h50, ?_⟩
      simp
      by_cases z1 : v = []
      rotate_left
      · left; exact List.length_pos_iff.2 z1
      right; refine ⟨z1, _, h51, ?_⟩
      cases b51 <;> simp
      by_cases z2 : l[i].j = []
      · left; exact z2
      right; refine ⟨z2, _, h99, ?_⟩
      cases b99 <;> simp
      have hp : 0 < l[i].j.length := List.length_pos_iff.2 z2
      have j0 : denIdx 1 (iL l[i].j) (iI 0) = some (iI l[i].j[0]) := ix_L (l := l[i].j) (i := 0) hp
      have j1 := ix_L (l := l[i].j) (i := l[i].j.length - 1) (by omega)
      have jw := wrapm hp (Nat.le_refl _) hfl.2
      simp only [iL, Int.natCast_zero] at j0 j1
      simp [j0, j1, jw]
      by_cases z3 : l[i].j[0] < 1
      · left; exact z3
      right; refine ⟨by omega, ?_⟩
      by_cases z4 : m.given < l[i].j[l[i].j.length - 1]
      · left; exact z4
      right; exact ⟨by omega, .mk () rfl (by omega) (srt_step hlt hI hlast)⟩
  · simp [SE.den, hlt]
    rwa [List.take_of_length_le (by omega)] at hI
theorem n42 : (Tryz.prog.funcs[42]?).map (·.params.size) = some 3 := by kernel_rfl
theorem t42 (z : IV) : tupOk Tryz.prog 42 z = true := by kernel_rfl
theorem e42 (l : List Ap) (id : Int) (made : Bool) (hl : Sm l) (hg : ∀ x ∈ l, WfP x) : ∃ n, CC 42 false [iPs l, iI id, iB made] (iI n) := by
  refine CC.int ex42 n42 t42 (by simp) (by rfl) ?_
  simp [fir42, fir42v2, SE.den, cellOk]
  refine sat_loop2 l.length (fun i (a : Int) => [iI i, iI a]) (fun _ _ => True) 0 ?_ trivial fun i a hi _ => ?_
  · simp [SE.den]
  by_cases hlt : i < l.length
  · have hw := wrapi hlt hl
    obtain ⟨w1, w2, w3, w4⟩ := hg _ (List.getElem_mem hlt)
    simp [SE.den, hlt, iy_P hlt, cellOk]
    cases made with
    | true =>
      simp
      unfold fir42v0
      refine sat_loop2 l[i].made.length (fun i (a : Int) => [iI i, iI a]) (fun _ _ => True) a ?_ trivial fun j b hj _ => ?_
      · simp [SE.den]
      by_cases hlt2 : j < l[i].made.length
      · have hw2 := wrapi hlt2 w3
        simp [SE.den, hlt2, hw2, ix_L hlt2]
        by_cases z : l[i].made[j] = id
        · left; exact ⟨z, .mk _ rfl (by omega) trivial⟩
        · right; exact ⟨z, .mk _ rfl (by omega) trivial⟩
      · simp [SE.den, hlt2, hw]
        exact .mk _ rfl (by omega) trivial
    | false =>
      simp
      unfold fir42v1
      refine sat_loop2 l[i].gone.length (fun i (a : Int) => [iI i, iI a]) (fun _ _ => True) a ?_ trivial fun j b hj _ => ?_
      · simp [SE.den]
      by_cases hlt2 : j < l[i].gone.length
      · have hw2 := wrapi hlt2 w2
        simp [SE.den, hlt2, hw2, ix_L hlt2]
        by_cases z : l[i].gone[j] = id
        · left; exact ⟨z, .mk _ rfl (by omega) trivial⟩
        · right; exact ⟨z, .mk _ rfl (by omega) trivial⟩
      · simp [SE.den, hlt2, hw]
        exact .mk _ rfl (by omega) trivial
  · simp [SE.den, hlt]
end Go.Proofs.YtggffkaadeagbaaGreat
