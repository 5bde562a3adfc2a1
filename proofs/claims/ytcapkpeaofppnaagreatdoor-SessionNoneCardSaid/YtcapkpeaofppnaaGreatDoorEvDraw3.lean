/- A part of the verified evaluator of closed runs (EvDraw3): lemmas and definitions over the model, without conditions of their own. -/
import Derived.Test.YtcapkpeaofppnaaGreatDoorEvDraw2
namespace Go.Ev
variable {P : Program} {S : Self} {ro : Nat} {ops : Array Oper} {pl : Plan}

theorem overlay_get (b : T Ob) (p : Piece) (id : Nat) : (overlay b p).get id = if p.lo ≤ id ∧ id < p.hi then (p.t.get id).or (b.get id) else b.get id := by
  have aux : ∀ (l : List Nat) (b : T Ob), (l.foldl (fun b id => match p.t.get id with | some o => b.set id o | none => b) b).get id = if id ∈ l then (p.t.get id).or (b.get id) else b.get id := by
    intro l
    induction l with
    | nil => intro b; simp
    | cons x l ih =>
      intro b
      rw [List.foldl_cons, ih]
      by_cases hx : x = id
      · subst hx
        cases hp : p.t.get x with
        | none => simp
        | some o => simp [T.get_set]
      · have hb : (match p.t.get x with | some o => b.set x o | none => b).get id = b.get id := by
          cases p.t.get x with
          | none => rfl
          | some o => simp [T.get_set, hx]
        rw [hb]
        have : id ∈ x :: l ↔ id ∈ l := by simp [Ne.symm hx]
        simp only [this]
  refine (aux (List.range' p.lo (p.hi - p.lo)) b).trans ?_
  have : id ∈ List.range' p.lo (p.hi - p.lo) ↔ p.lo ≤ id ∧ id < p.hi := by
    rw [List.mem_range'_1]; omega
  simp only [this]

theorem fold_get : ∀ (l : List Piece) (b : T Ob) (id : Nat) (o : Ob), (l.foldl overlay b).get id = some o → (∃ p ∈ l, p.lo ≤ id ∧ id < p.hi ∧ p.t.get id = some o) ∨ b.get id = some o
  | [], b, id, o, h => .inr h
  | p :: l, b, id, o, h => by
    rw [List.foldl_cons] at h
    rcases fold_get l _ id o h with ⟨q, hq, h1⟩ | h
    · exact .inl ⟨q, by simp [hq], h1⟩
    · rw [overlay_get] at h
      split at h
      · rename_i hc
        cases hp : p.t.get id with
        | none => rw [hp] at h; exact .inr h
        | some x => rw [hp] at h; exact .inl ⟨p, by simp, hc.1, hc.2, by rw [hp]; exact h⟩
      · exact .inr h

theorem fold_low : ∀ (l : List Piece) (b : T Ob) (id : Nat), (∀ p ∈ l, id < p.lo) → (l.foldl overlay b).get id = b.get id
  | [], b, id, _ => rfl
  | p :: l, b, id, h => by
    rw [List.foldl_cons, fold_low l _ id (fun q hq => h q (by simp [hq])), overlay_get, if_neg]
    have := h p (by simp)
    omega

theorem seen_get {pcs : List Piece} {bits : Nat} {b : T Ob} {id : Nat} {o : Ob} (h : (seen pcs bits b).get id = some o) :
    (∃ p ∈ pcs, Nat.testBit bits p.j = true ∧ p.lo ≤ id ∧ id < p.hi ∧ p.t.get id = some o) ∨ b.get id = some o := by
  rcases fold_get _ _ _ _ h with ⟨p, hp, h1⟩ | h
  · rw [List.mem_filter] at hp
    exact .inl ⟨p, hp.1, by simpa using hp.2, h1⟩
  · exact .inr h
theorem seen_low {pcs : List Piece} {bits : Nat} {b : T Ob} {id : Nat} (h : ∀ p ∈ pcs, id < p.lo) : (seen pcs bits b).get id = b.get id :=
  fold_low _ _ _ fun p hp => h p (List.mem_filter.1 hp).1

/-- What one step of the region's run in the text's order does. -/
inductive Stp (P : Program) (S : Self) (pl : Plan) (ro : Nat) (ops : Array Oper) (o : Oper) (j : Nat) (d d' : DS) (v : IV) : Prop
  | skip (h : wantedI o ops d.e = false) (hv : v = .undef) (hn : d'.n = d.n) (hp : d'.pcs = d.pcs) (hk : kdOf pl j ≠ .effect) (hb : d'.bs = d.bs)
  | skipE (h : wantedI o ops d.e = false) (hv : v = .undef) (hn : d'.n = d.n) (hp : d'.pcs = d.pcs) (hk : kdOf pl j = .effect) (i0 : Nat) (b : T Ob) (rest : List (Nat × T Ob)) (hbs : d.bs = (i0, b) :: rest)
      (hb : d'.bs = (j, b) :: d.bs) (hr : recheck P pl ops (pl.bef.getD j 0) d.e d.n d.pcs b (ops.toList.zipIdx.take j) = true)
  | pure (h : wantedI o ops d.e = true) (hk : kdOf pl j = .pure) (hn : d'.n = d.n) (hp : d'.pcs = d.pcs) (hb : d'.bs = d.bs) (σ : St) (he : evOp P 0 (evalI d.e) o ⟨0, .lf⟩ = some (.val v σ)) (h0 : σ.n = 0)
  | alloc (h : wantedI o ops d.e = true) (hk : kdOf pl j = .alloc) (hb : d'.bs = d.bs) (σ : St) (he : evOp P 0 (evalI d.e) o ⟨d.n, .lf⟩ = some (.val v σ)) (hn : d'.n = σ.n) (hp : d'.pcs = ⟨j, d.n, σ.n, σ.t⟩ :: d.pcs)
  | load (h : wantedI o ops d.e = true) (hk : kdOf pl j = .load) (hn : d'.n = d.n) (hp : d'.pcs = d.pcs) (hb : d'.bs = d.bs) (i0 : Nat) (b : T Ob) (rest : List (Nat × T Ob)) (hbs : d.bs = (i0, b) :: rest)
      (σ : St) (he : evOp P d.n (evalI d.e) o ⟨d.n, seen d.pcs (pl.bef.getD j 0) b⟩ = some (.val v σ)) (h0 : σ.n = d.n)
      (hl : (Nat.testBit (pl.bef.getD j 0) i0 || loadBack P d.e o d.n v d.pcs (pl.bef.getD j 0) rest) = true)
  | call (h : wantedI o ops d.e = true) (hk : kdOf pl j = .call) (hb : d'.bs = d.bs) (i0 : Nat) (b : T Ob) (rest : List (Nat × T Ob)) (hbs : d.bs = (i0, b) :: rest)
      (σ : St) (he : evX P S d.n d.e o ⟨d.n, seen d.pcs (pl.bef.getD j 0) b⟩ = some (v, σ)) (hn : d'.n = σ.n) (hp : d'.pcs = ⟨j, d.n, σ.n, σ.t⟩ :: d.pcs)
  | effect (h : wantedI o ops d.e = true) (hk : kdOf pl j = .effect) (i0 : Nat) (b : T Ob) (rest : List (Nat × T Ob)) (hbs : d.bs = (i0, b) :: rest)
      (σ : St) (he : evX P S ro d.e o ⟨d.n, seen d.pcs (pl.bef.getD j 0) b⟩ = some (v, σ)) (hn : d'.n = σ.n) (hb : d'.bs = (j, σ.t) :: d.bs) (hp : d'.pcs = d.pcs.filter fun p => !Nat.testBit (pl.bef.getD j 0) p.j)
      (hr : recheck P pl ops (pl.bef.getD j 0) d.e d'.n d'.pcs σ.t (ops.toList.zipIdx.take j) = true)

theorem drawStep_stp {o : Oper} {j : Nat} {d d' : DS} (h : drawStep P S pl ro ops o j d = some d') : ∃ v, d'.e = d.e.put o.dst v ∧ d.bs ≠ [] ∧ Stp P S pl ro ops o j d d' v := by
  unfold drawStep at h
  dsimp only at h
  split at h
  · cases h
  · rename_i i0 b rest hbs
    have hne : d.bs ≠ [] := by rw [hbs]; simp
    split at h
    · rename_i hw
      split at h
      · rename_i hk
        split at h
        · rename_i v σ he
          split at h
          · rename_i h0
            cases h
            exact ⟨v, rfl, hne, .pure hw hk rfl rfl rfl σ he h0⟩
          · cases h
        · cases h
      · rename_i hk
        split at h
        · rename_i v σ he
          cases h
          exact ⟨v, rfl, hne, .alloc hw hk rfl σ he rfl rfl⟩
        · cases h
      · rename_i hk
        split at h
        · rename_i v σ he
          split at h
          · rename_i hc
            cases h
            exact ⟨v, rfl, hne, .load hw hk rfl rfl rfl i0 b rest hbs σ he hc.1 hc.2⟩
          · cases h
        · cases h
      · rename_i hk
        split at h
        · rename_i v σ he
          cases h
          exact ⟨v, rfl, hne, .call hw hk rfl i0 b rest hbs σ he rfl rfl⟩
        · cases h
      · rename_i hk
        split at h
        · rename_i v σ he
          split at h
          · rename_i hc
            cases h
            exact ⟨v, rfl, hne, .effect hw hk i0 b rest hbs σ he rfl rfl rfl hc⟩
          · cases h
        · cases h
    · rename_i hw
      have hw : wantedI o ops d.e = false := by simpa using hw
      split at h
      · rename_i hk
        split at h
        · rename_i hc
          cases h
          exact ⟨.undef, rfl, hne, .skipE hw rfl rfl rfl hk i0 b rest hbs rfl hc⟩
        · cases h
      · rename_i hk
        cases h
        exact ⟨.undef, rfl, hne, .skip hw rfl rfl rfl hk rfl⟩

/-- The region's run in the text's order. -/
structure Tr (P : Program) (S : Self) (pl : Plan) (ro : Nat) (ops : Array Oper) (D : Nat → DS) : Prop where
  step : ∀ (j : Nat) (o : Oper), ops[j]? = some o → drawStep P S pl ro ops o j (D j) = some (D (j + 1))

def traceD (P : Program) (S : Self) (pl : Plan) (ro : Nat) (ops : Array Oper) (d : DS) : Nat → DS
  | 0 => d
  | j + 1 => match ops[j]? with
    | some o => (drawStep P S pl ro ops o j (traceD P S pl ro ops d j)).getD (traceD P S pl ro ops d j)
    | none => traceD P S pl ro ops d j

theorem trace_aux {d0 : DS} : ∀ {l : List Oper} {k : Nat} {d' : DS}, ops.toList.drop k = l → k ≤ ops.size → drawAll P S pl ro ops (l.zipIdx k) (traceD P S pl ro ops d0 k) = some d' →
    (∀ (j : Nat) (o : Oper), k ≤ j → ops[j]? = some o → drawStep P S pl ro ops o j (traceD P S pl ro ops d0 j) = some (traceD P S pl ro ops d0 (j + 1))) ∧ d' = traceD P S pl ro ops d0 ops.size
  | [], k, d', hl, hk, h => by
    have hs : ops.size ≤ k := by
      have : ops.toList.length ≤ k := List.drop_eq_nil_iff.1 hl
      simpa using this
    cases h
    refine ⟨fun j o hj ho => ?_, by rw [show k = ops.size by omega]⟩
    have := (Array.getElem?_eq_some_iff.1 ho).1
    omega
  | o :: l, k, d', hl, hk, h => by
    have hok : ops[k]? = some o := by
      have : (ops.toList.drop k)[0]? = some o := by rw [hl]; rfl
      simpa using this
    have hrest : ops.toList.drop (k + 1) = l := by
      rw [← List.drop_drop (i := 1) (j := k), hl]; rfl
    have hlt := (Array.getElem?_eq_some_iff.1 hok).1
    rw [List.zipIdx_cons] at h
    unfold drawAll at h
    split at h
    · rename_i d1 h1
      have hd1 : traceD P S pl ro ops d0 (k + 1) = d1 := by
        rw [traceD, hok]
        simp only [h1, Option.getD_some]
      rw [← hd1] at h
      obtain ⟨h2, h3⟩ := trace_aux hrest (by omega) h
      refine ⟨fun j o' hj ho => ?_, h3⟩
      rcases Nat.lt_or_eq_of_le hj with hj | rfl
      · exact h2 j o' (by omega) ho
      · rw [hok] at ho; cases ho
        rw [h1, hd1]
    · cases h

theorem trace_ok {d0 d' : DS} (h : drawAll P S pl ro ops ops.toList.zipIdx d0 = some d') : Tr P S pl ro ops (traceD P S pl ro ops d0) ∧ d' = traceD P S pl ro ops d0 ops.size := by
  obtain ⟨h1, h2⟩ := trace_aux (k := 0) (by simp) (by omega) h
  exact ⟨⟨fun j o ho => h1 j o (by omega) ho⟩, h2⟩

section tr
variable {D : Nat → DS} (ht : Tr P S pl ro ops D)
include ht

theorem Tr.stp {j : Nat} (hj : j < ops.size) : ∃ o v, ops[j]? = some o ∧ (D (j + 1)).e = (D j).e.put o.dst v ∧ (D j).bs ≠ [] ∧ Stp P S pl ro ops o j (D j) (D (j + 1)) v := by
  have ho : ops[j]? = some ops[j] := Array.getElem?_eq_getElem hj
  obtain ⟨v, h1, h2, h3⟩ := drawStep_stp (ht.step j _ ho)
  exact ⟨_, v, ho, h1, h2, h3⟩

theorem Tr.n_step (hc : CodeMono S) (hk : CallMono S) {j : Nat} (hj : j < ops.size) : (D j).n ≤ (D (j + 1)).n :=
  drawStep_mono hc hk (ht.step j _ (Array.getElem?_eq_getElem hj))
theorem Tr.n_mono (hc : CodeMono S) (hk : CallMono S) {i j : Nat} (hij : i ≤ j) (hj : j ≤ ops.size) : (D i).n ≤ (D j).n := by
  induction j with
  | zero => have : i = 0 := by omega
            subst this; exact Nat.le_refl _
  | succ j ih =>
    rcases Nat.lt_or_eq_of_le hij with h | rfl
    · exact Nat.le_trans (ih (by omega) (by omega)) (ht.n_step hc hk (by omega))
    · exact Nat.le_refl _
theorem Tr.apart (hc : CodeMono S) (hk : CallMono S) {i j id : Nat} (hi : i < ops.size) (hj : j < ops.size) (h1 : (D i).n ≤ id ∧ id < (D (i + 1)).n) (h2 : (D j).n ≤ id ∧ id < (D (j + 1)).n) : i = j := by
  rcases Nat.lt_trichotomy i j with h | h | h
  · have := ht.n_mono hc hk (show i + 1 ≤ j from h) (by omega); omega
  · exact h
  · have := ht.n_mono hc hk (show j + 1 ≤ i from h) (by omega); omega

theorem Tr.bs_step {j : Nat} (hj : j < ops.size) : (D (j + 1)).bs = (D j).bs ∨ (kdOf pl j = .effect ∧ ∃ b, (D (j + 1)).bs = (j, b) :: (D j).bs) := by
  obtain ⟨o, v, _, _, _, h⟩ := ht.stp hj
  cases h with
  | skip _ _ _ _ _ hb => exact .inl hb
  | skipE _ _ _ _ hk _ b _ _ hb _ => exact .inr ⟨hk, b, hb⟩
  | pure _ _ _ _ hb => exact .inl hb
  | alloc _ _ hb => exact .inl hb
  | load _ _ _ _ hb => exact .inl hb
  | call _ _ hb => exact .inl hb
  | effect _ hk _ _ _ _ σ _ _ hb => exact .inr ⟨hk, σ.t, hb⟩
theorem Tr.bs_eff {j : Nat} (hj : j < ops.size) (hk : kdOf pl j = .effect) : ∃ b, (D (j + 1)).bs = (j, b) :: (D j).bs := by
  obtain ⟨o, v, _, _, _, h⟩ := ht.stp hj
  cases h with
  | skip _ _ _ _ h => exact absurd hk h
  | skipE _ _ _ _ hk _ b _ _ hb _ => exact ⟨b, hb⟩
  | pure _ h => rw [hk] at h; cases h
  | alloc _ h => rw [hk] at h; cases h
  | load _ h => rw [hk] at h; cases h
  | call _ h => rw [hk] at h; cases h
  | effect _ hk _ _ _ _ σ _ _ hb => exact ⟨σ.t, hb⟩

theorem Tr.bs_suffix {m j : Nat} (hm : m ≤ j) (hj : j ≤ ops.size) : ∃ pre, (D j).bs = pre ++ (D m).bs ∧ ∀ x ∈ pre, m ≤ x.1 ∧ x.1 < j ∧ kdOf pl x.1 = .effect := by
  induction j with
  | zero => have : m = 0 := by omega
            subst this; exact ⟨[], rfl, fun _ h => by cases h⟩
  | succ j ih =>
    rcases Nat.lt_or_eq_of_le hm with h | rfl
    · obtain ⟨pre, h1, h2⟩ := ih (by omega) (by omega)
      rcases ht.bs_step (show j < ops.size by omega) with hb | ⟨hk, b, hb⟩
      · exact ⟨pre, by rw [hb, h1], fun x hx => by have := h2 x hx; exact ⟨this.1, by omega, this.2.2⟩⟩
      · refine ⟨(j, b) :: pre, by rw [hb, h1]; rfl, fun x hx => ?_⟩
        rcases List.mem_cons.1 hx with rfl | hx
        · exact ⟨by omega, by omega, hk⟩
        · have := h2 x hx; exact ⟨this.1, by omega, this.2.2⟩
    · exact ⟨[], rfl, fun _ h => by cases h⟩
theorem Tr.bs_const {m j : Nat} (hm : m ≤ j) (hj : j ≤ ops.size) (hne : ∀ i, m ≤ i → i < j → kdOf pl i ≠ .effect) : (D j).bs = (D m).bs := by
  obtain ⟨pre, h1, h2⟩ := ht.bs_suffix hm hj
  cases pre with
  | nil => exact h1
  | cons x pre => have := h2 x (by simp); exact absurd this.2.2 (hne x.1 this.1 this.2.1)
end tr

/-! ### Environments -/
structure EnvOf (ops : Array Oper) (D : Nat → DS) (A : Nat → Prop) (e : Env) : Prop where
  n : e.n = (D 0).e.n
  put : ∀ j, A j → ∀ t, dstOf ops j = some t → e.at t = (D (j + 1)).e.at t
  old : ∀ t, (∀ j, A j → dstOf ops j ≠ some t) → e.at t = (D 0).e.at t

theorem put_at {e : Env} {dst : Option Tmp} {v : IV} {t : Nat} (h : dst ≠ some t) : (e.put dst v).at t = e.at t := by
  cases dst with
  | none => rfl
  | some d =>
    rw [Env.at_put, if_neg]
    intro hc
    exact h (by rw [hc.2])

theorem EnvOf.step {D : Nat → DS} {A : Nat → Prop} {e : Env} (ho : PlanOk ops pl) {j : Nat} {o : Oper} {v : IV} (h : EnvOf ops D A e) (hA : ∀ i, A i → i < ops.size) (hj : ops[j]? = some o) (hnj : ¬ A j)
    (hd : (D (j + 1)).e = (D j).e.put o.dst v) (hold : ∀ t, dstOf ops j = some t → (D j).e.at t = (D 0).e.at t) (hn : (D j).e.n = (D 0).e.n) : EnvOf ops D (fun i => A i ∨ i = j) (e.put o.dst v) := by
  have hlt := (Array.getElem?_eq_some_iff.1 hj).1
  have hdst : dstOf ops j = o.dst := by unfold dstOf; rw [hj]; rfl
  have hsing : ∀ i t, A i → dstOf ops i = some t → o.dst ≠ some t := by
    intro i t hi hit
    have hil := hA i hi
    have hne : i ≠ j := fun hx => hnj (hx ▸ hi)
    rw [← hdst]
    rcases Nat.lt_or_gt_of_ne hne with hlt' | hlt'
    · exact ho.single i j hlt' hlt t hit
    · intro hc; exact ho.single j i hlt' hil t hc hit
  refine ⟨by rw [Env.n_put]; exact h.n, fun i hi t hit => ?_, fun t hno => ?_⟩
  · rcases hi with hi | rfl
    · rw [put_at (hsing i t hi hit)]
      exact h.put i hi t hit
    · rw [hdst] at hit
      rw [hd, hit, Env.at_put, Env.at_put, h.n, hn]
      split
      · rfl
      · rw [hold t (by rw [hdst]; exact hit)]
        refine h.old t fun i hi hc => hsing i t hi hc hit
  · rw [put_at (by rw [← hdst]; exact hno j (.inr rfl))]
    exact h.old t fun i hi => hno i (.inl hi)

theorem Tr.env {D : Nat → DS} (ht : Tr P S pl ro ops D) (ho : PlanOk ops pl) : ∀ j, j ≤ ops.size → EnvOf ops D (fun i => i < j) (D j).e
  | 0, _ => ⟨rfl, fun i hi => absurd hi (by omega), fun t _ => rfl⟩
  | j + 1, hj => by
    obtain ⟨o, v, h1, h2, _, _⟩ := ht.stp (show j < ops.size by omega)
    have ih := ht.env ho j (by omega)
    have := EnvOf.step (A := fun i => i < j) (v := v) ho ih (fun i hi => by omega) h1 (by omega) h2 (fun t hd => ih.old t fun i hi hc => ho.single i j hi (by omega) t hc hd) ih.n
    rw [← h2] at this
    refine ⟨this.n, fun i hi => this.put i (by omega), fun t hno => this.old t fun i hi => hno i (by omega)⟩

theorem bit_lt (ho : PlanOk ops pl) : ∀ (j : Nat), j < ops.size → ∀ i, bitOf pl j i → i < j := by
  intro j
  induction j using Nat.strongRecOn with
  | _ j ih =>
    intro hj i hb
    obtain ⟨e, he, hb1, h1⟩ := ho.bits j _ (Array.getElem?_eq_getElem hj) i hb
    have hlt := ho.back j _ (Array.getElem?_eq_getElem hj) e he hb1
    rcases h1 with rfl | h1
    · exact hlt
    · have := ih e.on hlt (by omega) i h1; omega

/-- The two environments agree at what the operation j reads. -/
theorem reads_eq {D : Nat → DS} {A B : Nat → Prop} {e e' : Env} (h : EnvOf ops D A e) (h' : EnvOf ops D B e') {t : Nat} (hAB : ∀ i, dstOf ops i = some t → (A i ↔ B i)) : e.at t = e'.at t := by
  by_cases hx : ∃ i, A i ∧ dstOf ops i = some t
  · obtain ⟨i, hi, hd⟩ := hx
    rw [h.put i hi t hd, h'.put i ((hAB i hd).1 hi) t hd]
  · rw [h.old t fun i hi hd => hx ⟨i, hi, hd⟩, h'.old t fun i hi hd => hx ⟨i, (hAB i hd).2 hi, hd⟩]

theorem eval_reads {e e' : Env} {j : Nat} {o : Oper} (hj : ops[j]? = some o) (h : ∀ t ∈ rdOf ops j, e.at t = e'.at t) (hn : e.n = e'.n) :
    (∀ x ∈ o.op.operands, evalI e x = evalI e' x) ∧ wantedI o ops e = wantedI o ops e' := by
  have hr : rdOf ops j = readsOf ops o := by
    unfold rdOf
    rw [List.getD_eq_getElem?_getD, List.getElem?_map]
    have : ops.toList[j]? = some o := by simpa using hj
    rw [this]; rfl
  rw [hr] at h
  refine ⟨fun x hx => ?_, ?_⟩
  · cases x with
    | tmp t => exact h t (by unfold readsOf; rw [List.mem_append]; left; exact List.mem_filterMap.2 ⟨.tmp t, by simpa using hx, rfl⟩)
    | _ => rfl
  · unfold wantedI
    cases hg : o.guard with
    | none => rfl
    | some g =>
      obtain ⟨i, want⟩ := g
      dsimp only
      cases hd : (ops[i]?).bind (·.dst) with
      | none => rfl
      | some d =>
        dsimp only
        rw [hn, h d (by unfold readsOf; rw [List.mem_append]; right; rw [hg]; dsimp only; rw [hd]; simp)]
end Go.Ev
