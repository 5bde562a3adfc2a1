/- A part of the verified evaluator of closed runs (EvDraw6): lemmas and definitions over the model, without conditions of their own. -/
import Derived.Test.YtcapkpeaofppnaaGreatDoorEvDraw5
namespace Go.Ev
variable {P : Program} {S : Self} {ro nn : Nat} {ops : Array Oper} {pl : Plan} {D : Nat → DS} {N : Nat} {F : Fence} {rd : Option Nat} {Q : Exit → Act → World → Prop}

theorem put_defers {a : Act} {dst : Option Tmp} {u : Value} : (a.put dst u).defers = a.defers := by cases dst <;> rfl

theorem upd_none {cur : Nat → Option Ob} {σ σ' : St} (h : ∀ id, σ.at id = none) (hn : σ'.n ≤ σ.n) : upd cur σ σ' = cur := by
  funext id
  unfold upd
  rw [if_neg]
  rw [h id]
  intro hx
  rcases hx with hx | hx
  · cases hx
  · omega

theorem lf_none (n id : Nat) : (⟨n, .lf⟩ : St).at id = none := rfl

section step
variable {ι0 ι : Io} {w0 w : World} {σ0 : St} {A : Nat → Prop} {m : Nat} {e : Env} {cur : Nat → Option Ob} {j : Nat} {a : Act} {K : Act → World → Prop}

/-- One operation of a region, in whatever order. -/
theorem Phi.step (hS : CodeOk P S nn) (hC : CallOk P S) (hm : CodeMono S) (hk : CallMono S) (ho : PlanOk ops pl) (ht : Tr P S pl ro ops D) (h0 : (D 0).pcs = []) (hn0 : (D 0).n = σ0.n) (hnk : (D ops.size).n ≤ N) (hi0 : Inv N ι0 σ0 w0)
    (h : Phi ops pl D N ro ι0 w0 σ0 A m e ι cur w) (hj : j < ops.size) (hnA : ¬ A j) (hb : ∀ i, bitOf pl j i → A i) (hF0 : FOk F rd ι0) (he : EnvR ι e a.tmps)
    (hK : ∀ m' e' ι' cur' w' a', Phi ops pl D N ro ι0 w0 σ0 (fun i => A i ∨ i = j) m' e' ι' cur' w' → EnvR ι' e' a'.tmps → a'.defers = a.defers → K a' w') : wpOpIn F 0 P ops Q j K a w := by
  obtain ⟨o, v, hoj, hej, hbne, hs⟩ := ht.stp hj
  have hF : FOk F rd ι := hF0.mono h.mid.ext
  have henvj := ht.env ho j (by omega)
  have hrd := h.reads ht ho hj hnA hb
  have hen : e.n = (D j).e.n := by rw [h.env.n, henvj.n]
  have hev := eval_reads hoj hrd hen
  have hold : ∀ t, dstOf ops j = some t → (D j).e.at t = (D 0).e.at t := fun t hd => henvj.old t fun i hi hc => ho.single i j hi hj t hc hd
  have henv : EnvOf ops D (fun i => A i ∨ i = j) (e.put o.dst v) := h.env.step ho h.sub hoj hnA hej hold henvj.n
  have hf0 : ∀ id, σ0.n ≤ id → id < (D ops.size).n → ∀ e, ι0 id e = none := fun id h1 h2 => hi0.fresh id h1 (by omega)
  have hnj : (D j).n ≤ (D (j + 1)).n := ht.n_step hm hk hj
  have hn0j : σ0.n ≤ (D j).n := by rw [← hn0]; exact ht.n_mono hm hk (by omega) (by omega)
  have hnjk : (D (j + 1)).n ≤ (D ops.size).n := ht.n_mono hm hk (by omega) (by omega)
  have hX : ∀ id, ((∃ i, i < ops.size ∧ ¬ (A i ∨ i = j) ∧ (D i).n ≤ id ∧ id < (D (i + 1)).n) ∨ ((D ops.size).n ≤ id ∧ id < N)) →
      ((∃ i, i < ops.size ∧ ¬ A i ∧ (D i).n ≤ id ∧ id < (D (i + 1)).n) ∨ ((D ops.size).n ≤ id ∧ id < N)) ∧ ¬ ((D j).n ≤ id ∧ id < (D (j + 1)).n) := by
    intro id hx
    rcases hx with ⟨i, h1, h2, h3⟩ | hx
    · exact ⟨.inl ⟨i, h1, fun hA => h2 (.inl hA), h3⟩, fun hr => h2 (.inr (ht.apart hm hk h1 hj h3 hr))⟩
    · exact ⟨.inr hx, fun hr => by omega⟩
  have hFr : ∀ id, (D j).n ≤ id → id < (D (j + 1)).n → ((∃ i, i < ops.size ∧ ¬ A i ∧ (D i).n ≤ id ∧ id < (D (i + 1)).n) ∨ ((D ops.size).n ≤ id ∧ id < N)) := fun id h1 h2 => .inl ⟨j, hj, hnA, h1, h2⟩
  have noPiece : (D (j + 1)).n = (D j).n → ∀ p, Made ops D p → p.j = j → ∀ (cur' : Nat → Option Ob) id o, p.lo ≤ id → id < p.hi → p.t.get id = some o → cur' id = some o := by
    intro hn p hp hpj cur' id o h1 h2
    rw [hp.lo, hpj] at h1; rw [hp.hi, hpj] at h2; omega
  have hbB : ∀ {i0 : Nat} {b : T Ob} {rest : List (Nat × T Ob)}, (D j).bs = (i0, b) :: rest → (D j).bs = (D m).bs → headB (D m).bs = b := fun h1 h2 => by rw [← h2, h1]; rfl
  -- the pieces that the operation sees, where it stands in order with every effect
  have hpcs : (∀ i, i < ops.size → kdOf pl i = .effect → (A i ↔ i < j)) → ∀ p ∈ (D j).pcs, Made ops D p ∧ Unab ops pl D A p.j ∧ p.hi ≤ (D j).n := by
    intro heff p hp
    obtain ⟨c1, c2, c3⟩ := ht.pcs ho h0 j (by omega) p hp
    exact ⟨c1, fun i hA hwe => c3 i ((heff i (h.sub i hA) hwe.1).1 hA) hwe, by rw [c1.hi]; exact ht.n_mono hm hk c2 (by omega)⟩
  unfold wpOpIn
  rw [hoj]
  dsimp only
  rw [wanted_eq he, hev.2]
  cases hs with
  | skip hw hv hn hp hkd hbs =>
    rw [hw]
    refine ⟨fun f _ => hF.fn f, ?_⟩
    subst hv
    exact hK m _ ι cur w _ (h.next ht hm hk hj hnA hb hkd henv h.mid (fun id hx => (hX id hx).1) (fun _ _ _ hc => hc) (.inl hn) (fun p hp hpj => noPiece hn p hp hpj cur)) (he.put rv_undef _) put_defers
  | skipE hw hv hn hp hkd i0 b rest hbs hb1 hr =>
    rw [hw]
    refine ⟨fun f _ => hF.fn f, ?_⟩
    subst hv
    obtain ⟨heff, hmj, hbm⟩ := h.order ht ho hj hnA hb (.inl hkd)
    have hB := hbB hbs hbm
    have hB' : headB (D (j + 1)).bs = headB (D m).bs := by rw [hb1, hB]; rfl
    have hnm := ht.n_mono hm hk hmj (by omega : j ≤ ops.size)
    refine hK (j + 1) _ ι cur w _ (h.nextE hj hb hkd heff henv h.mid (fun id hx => (hX id hx).1) (fun _ _ _ _ _ _ _ _ _ hc => hc) (fun p hp hpj => made_eff ht hp (by rw [hpj]; exact hkd)) ?_ ?_ ?_ ?_) (he.put rv_undef _) put_defers
    · rw [hB']; exact h.base
    · rw [hB']; exact fun p hp hu => h.away p hp (hu.less fun _ x => .inl x)
    · rw [hB']; exact fun id hid => h.top id (by omega)
    · rw [hB']; exact h.low
  | pure hw hkd hn hp hbs σ hop hσ =>
    rw [hw]
    have hx : evX P S 0 e o ⟨0, .lf⟩ = some (v, σ) := by unfold evX; rw [evOp_congr hev.1, hop]
    refine evX_ok (N := 0) hS hC hm hx (by omega) hF (h.mid.toGn.inv (fun id o hs => by cases hs) (fun id h1 h2 => by omega) (fun _ _ => rfl)) he fun u w' ι' hv hi' hl => ?_
    have hmid := h.mid.step hf0 (fun id o hs => by cases hs) (fun id h1 h2 => by omega) (fun id _ hs => by cases hs) (fun _ _ => rfl) hi' hl
    rw [upd_none (fun _ => rfl) (by omega)] at hmid
    exact hK m _ ι' cur w' _ (h.next ht hm hk hj hnA hb (by rw [hkd]; simp) henv hmid (fun id hx => ⟨(hX id hx).1, fun hh => by omega⟩) (fun _ _ _ hc => hc) (.inl hn) (fun p hp hpj => noPiece hn p hp hpj cur)) ((he.mono hl.ext).put hv _) put_defers
  | alloc hw hkd hbs σ hop hn hp =>
    rw [hw]
    have hx : evX P S 0 e o ⟨(D j).n, .lf⟩ = some (v, σ) := by unfold evX; rw [evOp_congr hev.1, hop]
    refine evX_ok (N := (D (j + 1)).n) hS hC hm hx (by omega) hF (h.mid.toGn.inv (fun id o hs => by cases hs) (fun id h1 h2 => hFr id h1 h2) (fun _ _ => rfl)) he fun u w' ι' hv hi' hl => ?_
    have hmid := h.mid.step hf0 (fun id o hs => by cases hs) (fun id h1 h2 => ⟨Nat.le_trans hn0j h1, by omega⟩) (fun id _ hs => by cases hs) (fun _ _ => rfl) hi' hl
    have hmk : Made ops D ⟨j, (D j).n, σ.n, σ.t⟩ := ⟨hj, rfl, hn.symm, hp⟩
    refine hK m _ ι' _ w' _ (h.next ht hm hk hj hnA hb (by rw [hkd]; simp) henv hmid (fun id hx => ⟨(hX id hx).1, fun hh => (hX id hx).2 (by rw [hn]; exact hh)⟩) (fun id o hr hc => ?_) (.inr ⟨_, hmk, rfl⟩) (fun p hp1 hpj id o h1 h2 h3 => ?_)) ((he.mono hl.ext).put hv _) put_defers
    · unfold upd
      rw [if_neg, hc]
      intro hx
      rcases hx with hx | hx
      · cases hx
      · exact hr (by rw [hn]; exact hx)
    · have hpe := made_inj hp1 hmk hpj
      subst hpe
      unfold upd
      rw [if_pos (.inr ⟨h1, h2⟩)]
      exact h3
  | load hw hkd hn hp hbs i0 b rest hbs1 σ hop hσ hlb =>
    rw [hw]
    obtain ⟨pcs, n', u', σ', hop', hσ', hps, hnm, hput⟩ := h.loads ht ho hm hk h0 hj hnA hb hoj hw hkd hej hbs1 hop hσ hlb
    obtain ⟨hsub, hwf⟩ := h.see hb hps hnm
    have hx : evX P S n' e o ⟨n', seen pcs (pl.bef.getD j 0) (headB (D m).bs)⟩ = some (u', σ') := by unfold evX; rw [hop']
    refine evX_ok (N := n') hS hC hm hx (by omega) hF (h.mid.toGn.inv hsub (fun id h1 h2 => by dsimp only at h1; omega) hwf) he fun u w' ι' hv hi' hl => ?_
    have hmid := h.mid.step (σ := ⟨n', seen pcs (pl.bef.getD j 0) (headB (D m).bs)⟩) hf0 hsub (fun id h1 h2 => by dsimp only at h1; omega) (fun id _ hs => ?_) hwf hi' hl
    · have hup : upd cur ⟨n', seen pcs (pl.bef.getD j 0) (headB (D m).bs)⟩ σ' = cur := by
        funext id
        unfold upd
        split
        · rename_i hc
          have hs : ((⟨n', seen pcs (pl.bef.getD j 0) (headB (D m).bs)⟩ : St).at id).isSome := hc.resolve_right (by dsimp only; omega)
          obtain ⟨x, hx⟩ := Option.isSome_iff_exists.1 hs
          have hlt : id < n' := Nat.lt_of_not_le fun hle => by have := hwf id hle; rw [show (⟨n', seen pcs (pl.bef.getD j 0) (headB (D m).bs)⟩ : St).at id = _ from this] at hx; cases hx
          rw [hl.prot id hlt hlt, hx]
          exact (hsub id x hx).symm
        · rfl
      rw [hup] at hmid
      have hev' : EnvR ι' (e.put o.dst v) (a.put o.dst u).tmps := by rw [← hput]; exact (he.mono hl.ext).put hv _
      exact hK m _ ι' cur w' _ (h.next ht hm hk hj hnA hb (by rw [hkd]; simp) henv hmid (fun id hx => ⟨(hX id hx).1, fun hh => by dsimp only at hh; omega⟩) (fun _ _ _ hc => hc) (.inl hn) (fun p hp hpj => noPiece hn p hp hpj cur)) hev' put_defers
    · exact Nat.lt_of_not_le fun hle => by
        have := hwf id hle
        rw [show (⟨n', seen pcs (pl.bef.getD j 0) (headB (D m).bs)⟩ : St).at id = _ from this] at hs
        cases hs
  | call hw hkd hbs i0 b rest hbs1 σ hop hn hp =>
    rw [hw]
    obtain ⟨heff, hmj, hbm⟩ := h.order ht ho hj hnA hb (.inr hkd)
    have hB := hbB hbs1 hbm
    have hnm := ht.n_mono hm hk hmj (by omega : j ≤ ops.size)
    obtain ⟨hsub, hwf⟩ := h.see hb (hpcs heff) hnm
    rw [hB] at hsub hwf
    have hx : evX P S (D j).n e o ⟨(D j).n, seen (D j).pcs (pl.bef.getD j 0) b⟩ = some (v, σ) := by
      rw [← hop]; unfold evX; rw [evOp_congr hev.1]
    have hlt : ∀ id, ((⟨(D j).n, seen (D j).pcs (pl.bef.getD j 0) b⟩ : St).at id).isSome = true → id < (D j).n := fun id hs => Nat.lt_of_not_le fun hle => by
      have := hwf id hle
      rw [show (⟨(D j).n, seen (D j).pcs (pl.bef.getD j 0) b⟩ : St).at id = _ from this] at hs
      cases hs
    refine evX_ok (N := (D (j + 1)).n) hS hC hm hx (by omega) hF (h.mid.toGn.inv hsub (fun id h1 h2 => hFr id h1 h2) hwf) he fun u w' ι' hv hi' hl => ?_
    have hmid := h.mid.step (σ := ⟨(D j).n, seen (D j).pcs (pl.bef.getD j 0) b⟩) hf0 hsub (fun id h1 h2 => ⟨Nat.le_trans hn0j h1, by omega⟩) (fun id _ hs => hlt id hs) hwf hi' hl
    have hmk : Made ops D ⟨j, (D j).n, σ.n, σ.t⟩ := ⟨hj, rfl, hn.symm, hp⟩
    refine hK m _ ι' _ w' _ (h.next ht hm hk hj hnA hb (by rw [hkd]; simp) henv hmid (fun id hx => ⟨(hX id hx).1, fun hh => (hX id hx).2 (by rw [hn]; exact hh)⟩) (fun id o hr hc => ?_) (.inr ⟨_, hmk, rfl⟩) (fun p hp1 hpj id o h1 h2 h3 => ?_)) ((he.mono hl.ext).put hv _) put_defers
    · unfold upd
      split
      · rename_i hcc
        have hs := hcc.resolve_right (fun hx => hr (by rw [hn]; exact hx))
        obtain ⟨x, hx⟩ := Option.isSome_iff_exists.1 hs
        rw [hl.prot id (hlt id hs) (hlt id hs), hx, ← hsub id x hx]
        exact hc
      · exact hc
    · have hpe := made_inj hp1 hmk hpj
      subst hpe
      unfold upd
      rw [if_pos (.inr ⟨h1, h2⟩)]
      exact h3
  | effect hw hkd i0 b rest hbs1 σ hop hn hb1 hp hr =>
    rw [hw]
    obtain ⟨heff, hmj, hbm⟩ := h.order ht ho hj hnA hb (.inl hkd)
    have hB := hbB hbs1 hbm
    have hB' : headB (D (j + 1)).bs = σ.t := by rw [hb1]; rfl
    have hnm := ht.n_mono hm hk hmj (by omega : j ≤ ops.size)
    obtain ⟨hsub, hwf⟩ := h.see hb (hpcs heff) hnm
    rw [hB] at hsub hwf
    have hx : evX P S ro e o ⟨(D j).n, seen (D j).pcs (pl.bef.getD j 0) b⟩ = some (v, σ) := by
      rw [← hop]; unfold evX; rw [evOp_congr hev.1]
    have hwj : Wef ops pl D j := ⟨hkd, o, hoj, hw⟩
    have hseen : ∀ p, Made ops D p → Unab ops pl D (fun i => A i ∨ i = j) p.j → ∀ id, p.lo ≤ id → id < p.hi → (seen (D j).pcs (pl.bef.getD j 0) b).get id = none := by
      intro p hp1 hu id h1 h2
      cases hsn : (seen (D j).pcs (pl.bef.getD j 0) b).get id with
      | none => rfl
      | some x =>
        rcases seen_get hsn with ⟨q, hq, hbit, g1, g2, g3⟩ | hsn
        · obtain ⟨hq1, _, _⟩ := hpcs heff q hq
          have : q.j = p.j := by
            rw [hq1.lo] at g1; rw [hq1.hi] at g2; rw [hp1.lo] at h1; rw [hp1.hi] at h2
            exact ht.apart hm hk hq1.lt hp1.lt ⟨g1, g2⟩ ⟨h1, h2⟩
          exact absurd (show bitOf pl j p.j by rw [← this]; exact hbit) (hu j (.inr rfl) hwj)
        · rw [← hB, h.away p hp1 (hu.less fun _ x => .inl x) id h1 h2] at hsn
          cases hsn
    have hne : ∀ p, Made ops D p → p.j ≠ j := fun p hp1 hpj => made_eff ht hp1 (by rw [hpj]; exact hkd)
    have hout : ∀ p, Made ops D p → ∀ id, p.lo ≤ id → id < p.hi → ¬ ((D j).n ≤ id ∧ id < σ.n) := fun p hp1 id h1 h2 hx => by
      rw [hp1.lo] at h1; rw [hp1.hi] at h2
      exact hne p hp1 (ht.apart hm hk hp1.lt hj ⟨h1, h2⟩ (by rw [hn]; exact hx))
    refine evX_ok (N := (D (j + 1)).n) hS hC hm hx (by omega) hF (h.mid.toGn.inv hsub (fun id h1 h2 => hFr id h1 h2) hwf) he fun u w' ι' hv hi' hl => ?_
    have hmid := h.mid.step (σ := ⟨(D j).n, seen (D j).pcs (pl.bef.getD j 0) b⟩) hf0 hsub (fun id h1 h2 => ⟨Nat.le_trans hn0j h1, by omega⟩) (fun id hr _ => hr) hwf hi' hl
    refine hK (j + 1) _ ι' _ w' _ (h.nextE hj hb hkd heff henv hmid (fun id hx => ⟨(hX id hx).1, fun hh => (hX id hx).2 (by rw [hn]; exact hh)⟩) (fun p hp1 hpj hA hu id o h1 h2 hc => ?_) hne ?_ ?_ ?_ ?_) ((he.mono hl.ext).put hv _) put_defers
    · unfold upd
      rw [if_neg]
      · exact hc
      · intro hx
        rcases hx with hx | hx
        · rw [show (⟨(D j).n, seen (D j).pcs (pl.bef.getD j 0) b⟩ : St).at id = _ from hseen p hp1 hu id h1 h2] at hx
          cases hx
        · exact hout p hp1 id h1 h2 hx
    · rw [hB']
      intro id o hg
      unfold upd
      split
      · exact hg
      · rename_i hx
        have hnone : (⟨(D j).n, seen (D j).pcs (pl.bef.getD j 0) b⟩ : St).at id = none := by
          cases hs : (⟨(D j).n, seen (D j).pcs (pl.bef.getD j 0) b⟩ : St).at id with
          | none => rfl
          | some y => exact absurd (.inl (by rw [hs]; rfl)) hx
        have hout' : ¬ ((D j).n ≤ id ∧ id < σ.n) := fun hh => hx (.inr hh)
        have := hl.dead id hnone (by dsimp only; omega)
        rw [show σ.at id = _ from hg] at this; cases this
    · rw [hB']
      intro p hp1 hu id h1 h2
      have := hout p hp1 id h1 h2
      exact hl.dead id (hseen p hp1 hu id h1 h2) (by dsimp only; omega)
    · rw [hB']
      intro id hid
      exact hl.dead id (hwf id (by omega)) (.inr (by omega))
    · rw [hB']
      intro id hr0 hlt
      rw [show σ.t.get id = σ.at id from rfl, hl.prot id hr0 (by dsimp only; omega)]
      show (seen (D j).pcs (pl.bef.getD j 0) b).get id = _
      rw [seen_low, ← hB]
      · exact h.low id hr0 hlt
      · intro p hp1
        obtain ⟨c1, c2, _⟩ := ht.pcs ho h0 j (by omega) p hp1
        rw [c1.lo]
        have := ht.n_mono hm hk (Nat.zero_le p.j) (by have := c1.lt; omega)
        omega
end step
end Go.Ev
