/- A part of the verified evaluator of closed runs (EvDraw2): lemmas and definitions over the model, without conditions of their own. -/
import Derived.Test.YtcapkpeaofppnaaGreatDoorEvDraw1
namespace Go.Ev
variable {P : Program} {S : Self} {ro : Nat} {ops : Array Oper} {pl : Plan}

/-! ### What the plan says -/
def dstOf (ops : Array Oper) (i : Nat) : Option Tmp := (ops[i]?).bind (·.dst)
def rdOf (ops : Array Oper) (i : Nat) : List Nat := (ops.toList.map (readsOf ops)).getD i []
def kdOf (pl : Plan) (i : Nat) : Kind := pl.kinds.getD i .effect
def bitOf (pl : Plan) (j i : Nat) : Prop := Nat.testBit (pl.bef.getD j 0) i = true

structure PlanOk (ops : Array Oper) (pl : Plan) : Prop where
  back : ∀ (j : Nat) (o : Oper), ops[j]? = some o → ∀ e ∈ o.after.toList, Region.binds .any e = true → e.on < j
  loadSelf : ∀ j, j < ops.size → kdOf pl j = .load → ∀ t, dstOf ops j = some t → t ∉ rdOf ops j
  single : ∀ i j, i < j → j < ops.size → ∀ t, dstOf ops i = some t → dstOf ops j ≠ some t
  loadLater : ∀ i j, i < j → j < ops.size → kdOf pl i = .load → ∀ t, dstOf ops j = some t → t ∉ rdOf ops i
  free : ∀ i j, i < j → j < ops.size → ¬ bitOf pl j i → (∀ t, dstOf ops i = some t → t ∉ rdOf ops j) ∧ (∀ t, dstOf ops j = some t → t ∉ rdOf ops i) ∧ clash (kdOf pl i) (kdOf pl j) = false
  bits : ∀ (j : Nat) (o : Oper), ops[j]? = some o → ∀ i, bitOf pl j i → ∃ e ∈ o.after.toList, Region.binds .any e = true ∧ (e.on = i ∨ bitOf pl e.on i)

theorem writes_false {o : Oper} {l : List Nat} (h : writes o l = false) : ∀ t, o.dst = some t → t ∉ l := by
  intro t ht hm
  unfold writes at h
  rw [ht] at h
  simp [hm] at h

theorem lor_foldl {f : Edge → Nat} {c : Edge → Bool} {i : Nat} : ∀ (l : List Edge) (s : Nat), Nat.testBit (l.foldl (fun s e => if c e then Nat.lor s (f e) else s) s) i = true →
    Nat.testBit s i = true ∨ ∃ e ∈ l, c e = true ∧ Nat.testBit (f e) i = true
  | [], s, h => .inl h
  | e :: l, s, h => by
    simp only [List.foldl_cons] at h
    rcases lor_foldl l _ h with h | ⟨e', he', h1, h2⟩
    · split at h
      · rename_i hc
        have : Nat.testBit (s ||| f e) i = true := h
        rw [Nat.testBit_or, Bool.or_eq_true] at this
        rcases this with h | h
        · exact .inl h
        · exact .inr ⟨e, by simp, hc, h⟩
      · exact .inl h
    · exact .inr ⟨e', by simp [he'], h1, h2⟩

theorem shift_bit {a i : Nat} (h : Nat.testBit (Nat.shiftLeft 1 a) i = true) : a = i := by
  have h' : Nat.testBit (1 <<< a) i = true := h
  rw [Nat.testBit_shiftLeft] at h'
  simp only [Bool.and_eq_true, decide_eq_true_eq] at h'
  have h2 := h'.2
  have : i - a = 0 := by
    cases hk : i - a with
    | zero => rfl
    | succ n => rw [hk] at h2; simp [Nat.testBit_succ] at h2
  omega

theorem befs_aux : ∀ (l : List Oper) (acc : List Nat), ∃ rest, l.foldl befStep acc = acc ++ rest ∧ rest.length = l.length ∧
    ∀ (q : Nat) (o : Oper), l[q]? = some o → ∀ i, Nat.testBit ((acc ++ rest).getD (acc.length + q) 0) i = true →
      ∃ e ∈ o.after.toList, Region.binds .any e = true ∧ (e.on = i ∨ Nat.testBit ((acc ++ rest).getD e.on 0) i = true)
  | [], acc => ⟨[], by simp, rfl, fun q o h => by simp at h⟩
  | o :: l, acc => by
    obtain ⟨rest, h1, h2, h3⟩ := befs_aux l (befStep acc o)
    obtain ⟨x, hx⟩ : ∃ x, befStep acc o = acc ++ [x] := ⟨_, rfl⟩
    have hxv : x = o.after.toList.foldl (fun s e => if Region.binds .any e then Nat.lor s (Nat.lor (Nat.shiftLeft 1 e.on) (acc.getD e.on 0)) else s) 0 := by
      have : acc ++ [x] = acc ++ [o.after.toList.foldl (fun s e => if Region.binds .any e then Nat.lor s (Nat.lor (Nat.shiftLeft 1 e.on) (acc.getD e.on 0)) else s) 0] := hx ▸ rfl
      simpa using this
    rw [hx] at h1 h3
    refine ⟨x :: rest, by rw [List.foldl_cons, hx, h1]; simp, by simp [h2], fun q o' hq i hi => ?_⟩
    have hcat : acc ++ x :: rest = acc ++ [x] ++ rest := by simp
    cases q with
    | zero =>
      simp only [List.getElem?_cons_zero, Option.some.injEq] at hq
      subst hq
      have hg : (acc ++ x :: rest).getD (acc.length + 0) 0 = x := by simp
      rw [hg, hxv] at hi
      rcases lor_foldl _ _ hi with hi | ⟨e, he, hb, hi⟩
      · simp at hi
      · refine ⟨e, he, hb, ?_⟩
        have hi' : Nat.testBit (Nat.shiftLeft 1 e.on ||| acc.getD e.on 0) i = true := hi
        rw [Nat.testBit_or, Bool.or_eq_true] at hi'
        rcases hi' with hi | hi
        · exact .inl (shift_bit hi)
        · right
          by_cases hl : e.on < acc.length
          · have : (acc ++ x :: rest).getD e.on 0 = acc.getD e.on 0 := by
              rw [List.getD_eq_getElem?_getD, List.getD_eq_getElem?_getD, List.getElem?_append_left hl]
            rw [this]; exact hi
          · rw [List.getD_eq_getElem?_getD, List.getElem?_eq_none (by omega)] at hi
            simp at hi
    | succ q =>
      simp only [List.getElem?_cons_succ] at hq
      rw [hcat] at hi ⊢
      have := h3 q o' hq i (by
        have e1 : (acc ++ [x]).length + q = acc.length + (q + 1) := by simp; omega
        rw [e1]; exact hi)
      exact this

theorem befs_ok {ops : Array Oper} {j : Nat} {o : Oper} (ho : ops[j]? = some o) {i : Nat} (h : Nat.testBit ((befs ops).getD j 0) i = true) :
    ∃ e ∈ o.after.toList, Region.binds .any e = true ∧ (e.on = i ∨ Nat.testBit ((befs ops).getD e.on 0) i = true) := by
  obtain ⟨rest, h1, _, h3⟩ := befs_aux ops.toList []
  have hb : befs ops = rest := by unfold befs; rw [h1]; simp
  rw [hb] at h ⊢
  have := h3 j o (by simpa using ho) i (by simpa using h)
  simpa using this

theorem planOk (h : (planOf ops).ok = true) : PlanOk ops (planOf ops) := by
  have hall : ∀ (j : Nat) (o : Oper), ops[j]? = some o → (o.after.toList.all fun e => !Region.binds .any e || Nat.blt e.on j) = true ∧ (!(kdOf (planOf ops) j == .load) || !writes o (rdOf ops j)) = true ∧
      ∀ (i : Nat) (p : Oper), ops[i]? = some p → i < j → pairOk (planOf ops).bef (planOf ops).kinds (ops.toList.map (readsOf ops)) p i o j = true := by
    intro j o ho
    have hm : (o, j) ∈ ops.toList.zipIdx := List.mk_mem_zipIdx_iff_getElem?.2 (by simpa using ho)
    unfold planOf at h
    dsimp only at h
    rw [List.all_eq_true] at h
    have := h (o, j) hm
    simp only [Bool.and_eq_true] at this
    obtain ⟨⟨h1, h2⟩, h3⟩ := this
    refine ⟨h1, h2, fun i p hp hij => ?_⟩
    rw [List.all_eq_true] at h3
    have hm' : (p, i) ∈ ops.toList.zipIdx := List.mk_mem_zipIdx_iff_getElem?.2 (by simpa using hp)
    have := h3 (p, i) hm'
    have hlt : Nat.blt i j = true := by simpa using hij
    simp only [hlt, Bool.not_true, Bool.false_or] at this
    exact this
  have hop : ∀ {j : Nat}, j < ops.size → ∃ o, ops[j]? = some o := fun hj => ⟨ops[_], Array.getElem?_eq_getElem hj⟩
  have hdst : ∀ {j : Nat} {o : Oper}, ops[j]? = some o → dstOf ops j = o.dst := fun ho => by unfold dstOf; rw [ho]; rfl
  have pair : ∀ i j, i < j → j < ops.size → ∃ p o, ops[i]? = some p ∧ ops[j]? = some o ∧ pairOk (planOf ops).bef (planOf ops).kinds (ops.toList.map (readsOf ops)) p i o j = true := fun i j hij hj => by
    obtain ⟨o, ho⟩ := hop hj
    obtain ⟨p, hp⟩ := hop (show i < ops.size by omega)
    exact ⟨p, o, hp, ho, (hall j o ho).2.2 i p hp hij⟩
  refine ⟨fun j o ho e he hb => ?_, fun j hj hk t ht => ?_, fun i j hij hj t hi hjt => ?_, fun i j hij hj hk t ht => ?_, fun i j hij hj hnb => ?_, fun j o ho i hb => befs_ok ho hb⟩
  · have := (List.all_eq_true.1 (hall j o ho).1) e he
    rw [hb] at this
    simpa using this
  · obtain ⟨o, ho⟩ := hop hj
    have := (hall j o ho).2.1
    rw [hk] at this
    simp only [beq_self_eq_true, Bool.not_true, Bool.false_or, Bool.not_eq_true'] at this
    rw [hdst ho] at ht
    exact writes_false this t ht
  · obtain ⟨p, o, hp, ho, hpo⟩ := pair i j hij hj
    rw [hdst hp] at hi
    rw [hdst ho] at hjt
    unfold pairOk at hpo
    rw [hi, hjt] at hpo
    simp at hpo
  · obtain ⟨p, o, hp, ho, hpo⟩ := pair i j hij hj
    unfold pairOk at hpo
    simp only [Bool.and_eq_true] at hpo
    have h2 := hpo.1.2
    have hk' : (planOf ops).kinds.getD i .effect = .load := hk
    rw [hk'] at h2
    simp only [beq_self_eq_true, Bool.not_true, Bool.false_or, Bool.not_eq_true'] at h2
    rw [hdst ho] at ht
    exact writes_false h2 t ht
  · obtain ⟨p, o, hp, ho, hpo⟩ := pair i j hij hj
    unfold pairOk at hpo
    simp only [Bool.and_eq_true] at hpo
    have h3 := hpo.2
    have hb : Nat.testBit ((planOf ops).bef.getD j 0) i = false := by
      cases hc : Nat.testBit ((planOf ops).bef.getD j 0) i with
      | false => rfl
      | true => exact absurd hc hnb
    rw [hb] at h3
    simp only [Bool.false_or, Bool.and_eq_true, Bool.not_eq_true'] at h3
    refine ⟨fun t ht => ?_, fun t ht => ?_, h3.2⟩
    · rw [hdst hp] at ht; exact writes_false h3.1.1 t ht
    · rw [hdst ho] at ht; exact writes_false h3.1.2 t ht
end Go.Ev
