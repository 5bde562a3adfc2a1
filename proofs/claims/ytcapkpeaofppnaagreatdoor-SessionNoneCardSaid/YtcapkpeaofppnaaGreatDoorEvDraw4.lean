/- A part of the verified evaluator of closed runs (EvDraw4): lemmas and definitions over the model, without conditions of their own. -/
import Derived.Test.YtcapkpeaofppnaaGreatDoorEvDraw3
namespace Go.Ev
variable {P : Program} {S : Self} {ro : Nat} {ops : Array Oper} {pl : Plan} {D : Nat → DS} {N : Nat}

structure Made (ops : Array Oper) (D : Nat → DS) (p : Piece) : Prop where
  lt : p.j < ops.size
  lo : p.lo = (D p.j).n
  hi : p.hi = (D (p.j + 1)).n
  pcs : (D (p.j + 1)).pcs = p :: (D p.j).pcs
def Wef (ops : Array Oper) (pl : Plan) (D : Nat → DS) (i : Nat) : Prop := kdOf pl i = .effect ∧ ∃ o, ops[i]? = some o ∧ wantedI o ops (D i).e = true
def Unab (ops : Array Oper) (pl : Plan) (D : Nat → DS) (A : Nat → Prop) (q : Nat) : Prop := ∀ i, A i → Wef ops pl D i → ¬ bitOf pl i q
def headB (l : List (Nat × T Ob)) : T Ob := match l with | (_, b) :: _ => b | [] => .lf

theorem Tr.pcs (ht : Tr P S pl ro ops D) (ho : PlanOk ops pl) (h0 : (D 0).pcs = []) : ∀ j, j ≤ ops.size → ∀ p ∈ (D j).pcs, Made ops D p ∧ p.j < j ∧ ∀ i, i < j → Wef ops pl D i → ¬ bitOf pl i p.j := by
  intro j
  induction j with
  | zero => intro _ p hp; rw [h0] at hp; cases hp
  | succ j ih =>
    intro hj p hp
    have hjs : j < ops.size := by omega
    obtain ⟨o, v, h1, _, _, hs⟩ := ht.stp hjs
    have old : p ∈ (D j).pcs → (Wef ops pl D j → ¬ bitOf pl j p.j) → Made ops D p ∧ p.j < j + 1 ∧ ∀ i, i < j + 1 → Wef ops pl D i → ¬ bitOf pl i p.j := fun hp hw => by
      obtain ⟨a, b, c⟩ := ih (by omega) p hp
      refine ⟨a, by omega, fun i hi hwi => ?_⟩
      rcases Nat.lt_or_eq_of_le (Nat.le_of_lt_succ hi) with hi | rfl
      · exact c i hi hwi
      · exact hw hwi
    have new : ∀ σ : St, p = ⟨j, (D j).n, σ.n, σ.t⟩ → (D (j + 1)).n = σ.n → (D (j + 1)).pcs = ⟨j, (D j).n, σ.n, σ.t⟩ :: (D j).pcs → Made ops D p ∧ p.j < j + 1 ∧ ∀ i, i < j + 1 → Wef ops pl D i → ¬ bitOf pl i p.j := fun σ hpe hn hpc => by
      subst hpe
      refine ⟨⟨hjs, rfl, hn.symm, hpc⟩, Nat.lt_succ_self _, fun i hi _ hb => ?_⟩
      have := bit_lt ho i (by omega) _ hb
      dsimp only at this
      omega
    cases hs with
    | skip hw hv hn hpc hk hb => rw [hpc] at hp; exact old hp fun h => absurd h.1 hk
    | skipE hw hv hn hpc hk =>
      rw [hpc] at hp
      refine old hp fun h => ?_
      obtain ⟨_, o', h2, h3⟩ := h
      rw [h1] at h2; cases h2
      rw [hw] at h3; cases h3
    | pure hw hk hn hpc => rw [hpc] at hp; exact old hp fun h => (by have := h.1; rw [hk] at this; cases this)
    | load hw hk hn hpc => rw [hpc] at hp; exact old hp fun h => (by have := h.1; rw [hk] at this; cases this)
    | alloc hw hk hb σ he hn hpc =>
      have hp' := hp
      rw [hpc] at hp'
      rcases List.mem_cons.1 hp' with rfl | hp'
      · exact new σ rfl hn hpc
      · exact old hp' fun h => (by have := h.1; rw [hk] at this; cases this)
    | call hw hk hb i0 b rest hbs σ he hn hpc =>
      have hp' := hp
      rw [hpc] at hp'
      rcases List.mem_cons.1 hp' with rfl | hp'
      · exact new σ rfl hn hpc
      · exact old hp' fun h => (by have := h.1; rw [hk] at this; cases this)
    | effect hw hk i0 b rest hbs σ he hn hb hpc =>
      rw [hpc, List.mem_filter] at hp
      refine old hp.1 fun _ hb => ?_
      have h2 := hp.2
      unfold bitOf at hb
      rw [hb] at h2
      cases h2

theorem made_eff (ht : Tr P S pl ro ops D) {p : Piece} (hp : Made ops D p) : kdOf pl p.j ≠ .effect := by
  intro hk
  obtain ⟨o, v, h1, _, _, hs⟩ := ht.stp hp.lt
  have hpc := hp.pcs
  have len := congrArg List.length hpc
  simp only [List.length_cons] at len
  cases hs with
  | skip _ _ _ h => rw [h] at len; omega
  | skipE _ _ _ h => rw [h] at len; omega
  | pure _ h => rw [hk] at h; cases h
  | load _ h => rw [hk] at h; cases h
  | alloc _ h => rw [hk] at h; cases h
  | call _ h => rw [hk] at h; cases h
  | effect _ _ _ _ _ _ _ _ _ _ h =>
    rw [h] at len
    have := List.length_filter_le (fun q => !Nat.testBit (pl.bef.getD p.j 0) q.j) (D p.j).pcs
    omega

theorem made_inj {p q : Piece} (hp : Made ops D p) (hq : Made ops D q) (h : p.j = q.j) : p = q := by
  have h1 := hp.pcs
  have h2 := hq.pcs
  rw [h, h2] at h1
  exact (List.cons.inj h1).1.symm

/-- In the middle of the region: A has been carried out, the effects of it are those below m. -/
structure Phi (ops : Array Oper) (pl : Plan) (D : Nat → DS) (N ro : Nat) (ι0 : Io) (w0 : World) (σ0 : St) (A : Nat → Prop) (m : Nat) (e : Env) (ι : Io) (cur : Nat → Option Ob) (w : World) : Prop where
  sub : ∀ i, A i → i < ops.size
  closed : ∀ j, A j → ∀ i, bitOf pl j i → A i
  env : EnvOf ops D A e
  mle : m ≤ ops.size
  eff : ∀ i, i < ops.size → kdOf pl i = .effect → (A i ↔ i < m)
  last : m = 0 ∨ ∃ i, m = i + 1 ∧ A i ∧ kdOf pl i = .effect
  mid : Mid ro (D ops.size).n ι0 w0 σ0 (fun id => (∃ j, j < ops.size ∧ ¬ A j ∧ (D j).n ≤ id ∧ id < (D (j + 1)).n) ∨ ((D ops.size).n ≤ id ∧ id < N)) ι cur w
  piece : ∀ p, Made ops D p → A p.j → Unab ops pl D A p.j → ∀ id o, p.lo ≤ id → id < p.hi → p.t.get id = some o → cur id = some o
  base : ∀ id o, (headB (D m).bs).get id = some o → cur id = some o
  away : ∀ p, Made ops D p → Unab ops pl D A p.j → ∀ id, p.lo ≤ id → id < p.hi → (headB (D m).bs).get id = none
  top : ∀ id, (D m).n ≤ id → (headB (D m).bs).get id = none
  low : ∀ id, id < ro → id < σ0.n → (headB (D m).bs).get id = σ0.at id

section phi
variable {ι0 ι ι' : Io} {w0 w w' : World} {σ0 : St} {A : Nat → Prop} {m : Nat} {e : Env} {cur cur' : Nat → Option Ob}

/-- The store that an operation sees is part of the store. -/
theorem Phi.see (h : Phi ops pl D N ro ι0 w0 σ0 A m e ι cur w) {j n' : Nat} {pcs : List Piece} (hb : ∀ i, bitOf pl j i → A i) (hp : ∀ p ∈ pcs, Made ops D p ∧ Unab ops pl D A p.j ∧ p.hi ≤ n') (hn : (D m).n ≤ n') :
    (∀ id o, (seen pcs (pl.bef.getD j 0) (headB (D m).bs)).get id = some o → cur id = some o) ∧ (∀ id, n' ≤ id → (seen pcs (pl.bef.getD j 0) (headB (D m).bs)).get id = none) := by
  refine ⟨fun id o hs => ?_, fun id hid => ?_⟩
  · rcases seen_get hs with ⟨p, hpm, hbit, h1, h2, h3⟩ | hs
    · obtain ⟨a, b, _⟩ := hp p hpm
      exact h.piece p a (hb _ hbit) b id o h1 h2 h3
    · exact h.base id o hs
  · cases hs : (seen pcs (pl.bef.getD j 0) (headB (D m).bs)).get id with
    | none => rfl
    | some o =>
      rcases seen_get hs with ⟨p, hpm, hbit, h1, h2, h3⟩ | hs
      · obtain ⟨_, _, c⟩ := hp p hpm; omega
      · rw [h.top id (by omega)] at hs; cases hs

theorem Unab.less {A' : Nat → Prop} {q : Nat} (h : Unab ops pl D A' q) (hA : ∀ i, A i → A' i) : Unab ops pl D A q := fun i hi => h i (hA i hi)

/-- An operation that is no effect has been carried out. -/
theorem Phi.next (h : Phi ops pl D N ro ι0 w0 σ0 A m e ι cur w) (ht : Tr P S pl ro ops D) (hc : CodeMono S) (hk : CallMono S) {j : Nat} {e' : Env} (hj : j < ops.size) (hnA : ¬ A j) (hb : ∀ i, bitOf pl j i → A i) (hkd : kdOf pl j ≠ .effect)
    (he : EnvOf ops D (fun i => A i ∨ i = j) e') {Fr : Nat → Prop} (hmid : Mid ro (D ops.size).n ι0 w0 σ0 Fr ι' cur' w')
    (hfr : ∀ id, ((∃ i, i < ops.size ∧ ¬ (A i ∨ i = j) ∧ (D i).n ≤ id ∧ id < (D (i + 1)).n) ∨ ((D ops.size).n ≤ id ∧ id < N)) → Fr id)
    (hcur : ∀ id o, ¬ ((D j).n ≤ id ∧ id < (D (j + 1)).n) → cur id = some o → cur' id = some o) (hr : (D (j + 1)).n = (D j).n ∨ ∃ p, Made ops D p ∧ p.j = j)
    (hpc : ∀ p, Made ops D p → p.j = j → ∀ id o, p.lo ≤ id → id < p.hi → p.t.get id = some o → cur' id = some o) : Phi ops pl D N ro ι0 w0 σ0 (fun i => A i ∨ i = j) m e' ι' cur' w' where
  sub := fun i hi => hi.elim (h.sub i) (fun x => x ▸ hj)
  closed := fun i hi q hq => hi.elim (fun hi => .inl (h.closed i hi q hq)) (fun x => .inl (hb q (x ▸ hq)))
  env := he
  mle := h.mle
  eff := fun i hi hke => by
    rw [← h.eff i hi hke]
    exact ⟨fun x => x.elim id (fun x => absurd (x ▸ hke) hkd), .inl⟩
  last := h.last.imp id (fun ⟨i, h1, h2, h3⟩ => ⟨i, h1, .inl h2, h3⟩)
  mid := hmid.fr hfr
  piece := fun p hp hA hu id o h1 h2 h3 => by
    by_cases hpj : p.j = j
    · exact hpc p hp hpj id o h1 h2 h3
    · refine hcur id o (fun hx => ?_) (h.piece p hp (hA.resolve_right hpj) (hu.less fun _ x => .inl x) id o h1 h2 h3)
      rw [hp.lo] at h1; rw [hp.hi] at h2
      exact hpj (ht.apart hc hk hp.lt hj ⟨h1, h2⟩ hx)
  base := fun id o hg => by
    refine hcur id o (fun hx => ?_) (h.base id o hg)
    rcases hr with hr | ⟨p, hp, hpj⟩
    · omega
    · have := h.away p hp (fun i hi _ hbi => hnA (h.closed i hi j (hpj ▸ hbi))) id (by rw [hp.lo, hpj]; exact hx.1) (by rw [hp.hi, hpj]; exact hx.2)
      rw [this] at hg; cases hg
  away := fun p hp hu => h.away p hp (hu.less fun _ x => .inl x)
  top := h.top
  low := h.low

/-- An effect has been carried out. -/
theorem Phi.nextE (h : Phi ops pl D N ro ι0 w0 σ0 A m e ι cur w) {j : Nat} {e' : Env} (hj : j < ops.size) (hb : ∀ i, bitOf pl j i → A i) (hkd : kdOf pl j = .effect) (heff : ∀ i, i < ops.size → kdOf pl i = .effect → (A i ↔ i < j))
    (he : EnvOf ops D (fun i => A i ∨ i = j) e') {Fr : Nat → Prop} (hmid : Mid ro (D ops.size).n ι0 w0 σ0 Fr ι' cur' w')
    (hfr : ∀ id, ((∃ i, i < ops.size ∧ ¬ (A i ∨ i = j) ∧ (D i).n ≤ id ∧ id < (D (i + 1)).n) ∨ ((D ops.size).n ≤ id ∧ id < N)) → Fr id)
    (hpc : ∀ p, Made ops D p → p.j ≠ j → A p.j → Unab ops pl D (fun i => A i ∨ i = j) p.j → ∀ id o, p.lo ≤ id → id < p.hi → cur id = some o → cur' id = some o) (hne : ∀ p, Made ops D p → p.j ≠ j)
    (hbase : ∀ id o, (headB (D (j + 1)).bs).get id = some o → cur' id = some o)
    (haway : ∀ p, Made ops D p → Unab ops pl D (fun i => A i ∨ i = j) p.j → ∀ id, p.lo ≤ id → id < p.hi → (headB (D (j + 1)).bs).get id = none)
    (htop : ∀ id, (D (j + 1)).n ≤ id → (headB (D (j + 1)).bs).get id = none) (hlow : ∀ id, id < ro → id < σ0.n → (headB (D (j + 1)).bs).get id = σ0.at id) :
    Phi ops pl D N ro ι0 w0 σ0 (fun i => A i ∨ i = j) (j + 1) e' ι' cur' w' where
  sub := fun i hi => hi.elim (h.sub i) (fun x => x ▸ hj)
  closed := fun i hi q hq => hi.elim (fun hi => .inl (h.closed i hi q hq)) (fun x => .inl (hb q (x ▸ hq)))
  env := he
  mle := hj
  eff := fun i hi hke => by
    constructor
    · intro x
      rcases x with x | rfl
      · have := (heff i hi hke).1 x; omega
      · omega
    · intro x
      by_cases hij : i = j
      · exact .inr hij
      · exact .inl ((heff i hi hke).2 (by omega))
  last := .inr ⟨j, rfl, .inr rfl, hkd⟩
  mid := hmid.fr hfr
  piece := fun p hp hA hu id o h1 h2 h3 => hpc p hp (hne p hp) (hA.resolve_right (hne p hp)) hu id o h1 h2 (h.piece p hp (hA.resolve_right (hne p hp)) (hu.less fun _ x => .inl x) id o h1 h2 h3)
  base := hbase
  away := haway
  top := htop
  low := hlow
end phi
end Go.Ev
