/- Lemmas over the model, without conditions of their own: regions that draw (2), closed runs. -/
import Derived.Test.YtggffkaadeagbaaGreatEvF
import Derived.RowKit3
import Derived.Below
set_option linter.all false
namespace Go.Ev
variable {P : Program} {S : Nat → Self} {ro : Nat} {ops : Array Oper} {pl : Plan} {D : Nat → DS} {N : Nat} [Sm]
theorem loadAt_ok {e : Env} {o : Oper} {n bits : Nat} {v : IV} {pcs : List Piece} {b : T Ob} (h : loadAt P e o n v pcs bits b = true) :
    ∃ σ, evOp P n (evalI e) o ⟨n, seen pcs bits b⟩ = some (.val v σ) ∧ σ.n = n := by
  unfold loadAt at h
  split at h
  · rename_i u σ he
    simp only [Bool.and_eq_true] at h
    rw [Sm.ok _ _ h.2] at he
    exact ⟨σ, he, Nat.eq_of_beq_eq_true h.1⟩
  · cases h
theorem loadBack_ok {e : Env} {o : Oper} {n bits : Nat} {v : IV} {pcs : List Piece} {i : Nat} {b : T Ob} {rest : List (Nat × T Ob)} : ∀ {pre : List (Nat × T Ob)}, loadBack P e o n v pcs bits (pre ++ (i, b) :: rest) = true →
    (∀ x ∈ pre, Nat.testBit bits x.1 ≠ true) → loadAt P e o n v pcs bits b = true
  | [], h, _ => by
    simp only [List.nil_append, loadBack, Bool.and_eq_true] at h
    exact h.1
  | x :: pre, h, hp => by
    obtain ⟨i', b'⟩ := x
    simp only [List.cons_append, loadBack, Bool.and_eq_true, Bool.or_eq_true] at h
    exact loadBack_ok (h.2.resolve_left (hp (i', b') (by simp))) fun y hy => hp y (by simp [hy])
theorem dst_lt {i : Nat} {t : Tmp} (h : dstOf ops i = some t) : i < ops.size := by
  unfold dstOf at h
  cases ho : ops[i]? with
  | none => rw [ho] at h; cases h
  | some o => exact (Array.getElem?_eq_some_iff.1 ho).1
section step
variable {ι0 ι : Io} {w0 w : World} {σ0 : St} {A : Nat → Prop} {m : Nat} {e : Env} {cur : Nat → Option Ob} {j : Nat}
theorem Phi.reads (h : Phi ops pl D N ro ι0 w0 σ0 A m e ι cur w) (ht : Tr P S pl ro ops D) (ho : PlanOk ops pl) (hj : j < ops.size) (hnA : ¬ A j) (hb : ∀ i, bitOf pl j i → A i) : ∀ t ∈ rdOf ops j, e.at t = (D j).e.at t := by
  intro t hm
  refine reads_eq h.env (ht.env ho j (by omega)) fun i hd => ?_
  have hi := dst_lt hd
  rcases Nat.lt_trichotomy i j with hlt | rfl | hlt
  · refine ⟨fun _ => hlt, fun _ => Classical.byContradiction fun hn => ?_⟩
    exact (ho.free i j hlt hj (fun hx => hn (hb i hx))).1 t hd hm
  · exact ⟨fun x => absurd x hnA, fun x => absurd x (by omega)⟩
  · refine ⟨fun hA => absurd hm ?_, fun x => by omega⟩
    exact (ho.free j i hlt hi (fun hx => hnA (h.closed i hA j hx))).2.1 t hd
theorem Phi.order (h : Phi ops pl D N ro ι0 w0 σ0 A m e ι cur w) (ht : Tr P S pl ro ops D) (ho : PlanOk ops pl) (hj : j < ops.size) (hnA : ¬ A j) (hb : ∀ i, bitOf pl j i → A i) (hkd : kdOf pl j = .effect ∨ kdOf pl j = .call) :
    (∀ i, i < ops.size → kdOf pl i = .effect → (A i ↔ i < j)) ∧ m ≤ j ∧ (D j).bs = (D m).bs := by
  have h1 : ∀ i, i < ops.size → kdOf pl i = .effect → (A i ↔ i < j) := by
    intro i hi hke
    rcases Nat.lt_trichotomy i j with hlt | rfl | hlt
    · refine ⟨fun _ => hlt, fun _ => Classical.byContradiction fun hn => ?_⟩
      have := (ho.free i j hlt hj (fun hx => hn (hb i hx))).2.2
      rw [hke] at this
      rcases hkd with hkd | hkd <;> (rw [hkd] at this; cases this)
    · exact ⟨fun x => absurd x hnA, fun x => absurd x (by omega)⟩
    · refine ⟨fun hA => ?_, fun x => by omega⟩
      have := (ho.free j i hlt hi (fun hx => hnA (h.closed i hA j hx))).2.2
      rw [hke] at this
      rcases hkd with hkd | hkd <;> (rw [hkd] at this; cases this)
  have h2 : m ≤ j := by
    rcases h.last with hm | ⟨i, hm, hA, hke⟩
    · omega
    · have := (h1 i (h.sub i hA) hke).1 hA; omega
  refine ⟨h1, h2, ht.bs_const h2 (by omega) fun i hi1 hi2 hke => ?_⟩
  have := (h1 i (by omega) hke).2 hi2
  have := (h.eff i (by omega) hke).1 this
  omega
theorem Tr.bs_ne (ht : Tr P S pl ro ops D) (hj : j < ops.size) : (D j).bs ≠ [] := by
  obtain ⟨_, _, _, _, h, _⟩ := ht.stp hj
  exact h
theorem Phi.loads (h : Phi ops pl D N ro ι0 w0 σ0 A m e ι cur w) (ht : Tr P S pl ro ops D) (ho : PlanOk ops pl) (hc : ∀ j, CodeMono (S j)) (hk : ∀ j, CallMono (S j)) (h0 : (D 0).pcs = []) (hj : j < ops.size) (hnA : ¬ A j) (hb : ∀ i, bitOf pl j i → A i)
    {o : Oper} {v : IV} (hoj : ops[j]? = some o) (hw : wantedI o ops (D j).e = true) (hkd : kdOf pl j = .load) (hej : (D (j + 1)).e = (D j).e.put o.dst v)
    {i0 : Nat} {b : T Ob} {rest : List (Nat × T Ob)} (hbs : (D j).bs = (i0, b) :: rest) {σ : St} (he : evOp P (D j).n (evalI (D j).e) o ⟨(D j).n, seen (D j).pcs (pl.bef.getD j 0) b⟩ = some (.val v σ)) (hn0 : σ.n = (D j).n)
    (hl : (Nat.testBit (pl.bef.getD j 0) i0 || loadBack P (D j).e o (D j).n v (D j).pcs (pl.bef.getD j 0) rest) = true) :
    ∃ pcs n' u σ', evOp P n' (evalI e) o ⟨n', seen pcs (pl.bef.getD j 0) (headB (D m).bs)⟩ = some (.val u σ') ∧ σ'.n = n' ∧ (∀ p ∈ pcs, Made ops D p ∧ Unab ops pl D A p.j ∧ p.hi ≤ n') ∧ (D m).n ≤ n' ∧ e.put o.dst u = e.put o.dst v := by
  have hrd := h.reads ht ho hj hnA hb
  have hen : e.n = (D j).e.n := by rw [h.env.n, (ht.env ho j (by omega)).n]
  by_cases hmj : m ≤ j
  · have hpc : ∀ p ∈ (D j).pcs, Made ops D p ∧ Unab ops pl D A p.j ∧ p.hi ≤ (D j).n := by
      intro p hp
      obtain ⟨a, b, c⟩ := ht.pcs ho h0 j (by omega) p hp
      refine ⟨a, fun i hA hwe => c i ?_ hwe, by rw [a.hi]; exact ht.n_mono hc hk b (by omega)⟩
      have := (h.eff i (h.sub i hA) hwe.1).1 hA; omega
    have hcong := fun (n' : Nat) (σ : St) => evOp_congr (P := P) (ro := n') (σ := σ) (eval_reads hoj hrd hen).1
    obtain ⟨pre, hpre, hin⟩ := ht.bs_suffix hmj (by omega : j ≤ ops.size)
    cases pre with
    | nil =>
      have hbm : headB (D m).bs = b := by
        rw [List.nil_append] at hpre
        rw [← hpre, hbs]; rfl
      exact ⟨(D j).pcs, (D j).n, v, σ, by rw [hcong, hbm]; exact he, hn0, hpc, ht.n_mono hc hk hmj (by omega), rfl⟩
    | cons x pre =>
      obtain ⟨i1, b1, rest1, hm1⟩ : ∃ i1 b1 rest1, (D m).bs = (i1, b1) :: rest1 := by
        cases hx : (D m).bs with
        | nil => exact absurd hx (ht.bs_ne (by omega))
        | cons y ys => exact ⟨y.1, y.2, ys, rfl⟩
      have nob : ∀ y ∈ x :: pre, Nat.testBit (pl.bef.getD j 0) y.1 ≠ true := by
        intro y hy hbit
        obtain ⟨g1, g2, g3⟩ := hin y hy
        have := (h.eff y.1 (by omega) g3).1 (hb y.1 hbit)
        omega
      rw [hbs] at hpre
      simp only [List.cons_append, List.cons.injEq] at hpre
      obtain ⟨hx, hrest⟩ := hpre
      have hnb : Nat.testBit (pl.bef.getD j 0) i0 = false := by
        have := nob x (by simp)
        rw [← hx] at this
        simpa using this
      rw [hnb, Bool.false_or, hrest, hm1] at hl
      obtain ⟨σ', h1, h2⟩ := loadAt_ok (loadBack_ok hl fun y hy => nob y (by simp [hy]))
      refine ⟨(D j).pcs, (D j).n, v, σ', ?_, h2, hpc, ht.n_mono hc hk hmj (by omega), rfl⟩
      rw [hcong, hm1]; exact h1
  · obtain ⟨i, hmi, hA, hke⟩ : ∃ i, m = i + 1 ∧ A i ∧ kdOf pl i = .effect := h.last.resolve_left (by omega)
    have hi := h.sub i hA
    have hij : i ≠ j := fun hx => hnA (hx ▸ hA)
    have hlt : j < i := by omega
    have hnbit : ¬ bitOf pl i j := fun hx => hnA (h.closed i hA j hx)
    have hpc : ∀ p ∈ (D m).pcs, Made ops D p ∧ Unab ops pl D A p.j ∧ p.hi ≤ (D m).n := by
      intro p hp
      obtain ⟨a, b, c⟩ := ht.pcs ho h0 m h.mle p hp
      refine ⟨a, fun i hA hwe => c i ?_ hwe, by rw [a.hi]; exact ht.n_mono hc hk b h.mle⟩
      exact (h.eff i (h.sub i hA) hwe.1).1 hA
    have henvi := ht.env ho i (by omega)
    have hrdi : ∀ t ∈ rdOf ops j, e.at t = (D i).e.at t := by
      intro t htm
      refine reads_eq h.env henvi fun q hd => ?_
      have hq := dst_lt hd
      rcases Nat.lt_trichotomy q j with hqj | rfl | hqj
      · have : A q := Classical.byContradiction fun hn => (ho.free q j hqj hj (fun hx => hn (hb q hx))).1 t hd htm
        exact ⟨fun _ => by omega, fun _ => this⟩
      · exact absurd htm (ho.loadSelf q hj hkd t hd)
      · exact absurd htm (ho.loadLater j q hqj hq hkd t hd)
    have heni : e.n = (D i).e.n := by rw [h.env.n, henvi.n]
    have hcong := fun (n' : Nat) (σ : St) => evOp_congr (P := P) (ro := n') (σ := σ) (eval_reads hoj hrdi heni).1
    have hwi : wantedI o ops (D i).e = true := by rw [← (eval_reads hoj hrdi heni).2, (eval_reads hoj hrd hen).2, hw]
    have hrec : recheck P pl ops (pl.bef.getD i 0) (D i).e (D m).n (D m).pcs (headB (D m).bs) (ops.toList.zipIdx.take i) = true := by
      obtain ⟨o', v', _, _, _, hs⟩ := ht.stp hi
      rw [hmi]
      cases hs with
      | skip _ _ _ _ hx => exact absurd hke hx
      | skipE _ _ hn hp _ i1 b1 rest1 _ hb1 hr => rw [hn, hp, hb1]; exact hr
      | pure _ hx => rw [hke] at hx; cases hx
      | alloc _ hx => rw [hke] at hx; cases hx
      | load _ hx => rw [hke] at hx; cases hx
      | call _ hx => rw [hke] at hx; cases hx
      | effect _ _ i1 b1 rest1 _ σ1 _ hn hb1 hp hr => rw [hb1]; exact hr
    unfold recheck at hrec
    rw [List.all_eq_true] at hrec
    have hmem : (o, j) ∈ ops.toList.zipIdx.take i := by
      rw [List.mem_iff_getElem?]
      refine ⟨j, ?_⟩
      rw [List.getElem?_take, if_pos hlt, List.getElem?_zipIdx]
      have : ops.toList[j]? = some o := by simpa using hoj
      rw [this]; simp
    have hx := hrec (o, j) hmem
    dsimp only at hx
    have hkd' : pl.kinds.getD j .effect = .load := hkd
    rw [hkd'] at hx
    have hnb : Nat.testBit (pl.bef.getD i 0) j = false := by
      cases hc : Nat.testBit (pl.bef.getD i 0) j with
      | false => rfl
      | true => exact absurd hc hnbit
    rw [hnb, hwi] at hx
    simp only [Bool.not_true, Bool.false_or] at hx
    split at hx
    · rename_i d hd
      obtain ⟨σ', h1, h2⟩ := loadAt_ok hx
      refine ⟨(D m).pcs, (D m).n, (D i).e.at d, σ', ?_, h2, hpc, Nat.le_refl _, ?_⟩
      · rw [hcong]; exact h1
      · rw [hd]
        have hdj : dstOf ops j = some d := by unfold dstOf; rw [hoj]; exact hd
        have hat : (D i).e.at d = (D (j + 1)).e.at d := henvi.put j hlt d hdj
        rw [hat, hej, hd, Env.at_put]
        by_cases hdn : d < e.n
        · rw [if_pos ⟨by rw [← hen]; exact hdn, rfl⟩]
        · have hno : ∀ z : IV, e.put (some d) z = e := fun z => by
            have : Nat.blt d e.n = false := by
              cases hc : Nat.blt d e.n with
              | false => rfl
              | true => exact absurd (by simpa using hc) hdn
            simp only [Env.put, this]
            rfl
          rw [hno, hno]
    · cases hx
end step
end Go.Ev
namespace Go.Ev
variable {P : Program} {S : Nat → Self} {ro nn : Nat} {ops : Array Oper} {pl : Plan} {D : Nat → DS} {N : Nat} {F : Fence} {rd : Option Nat} {Q : Exit → Act → World → Prop} [Sm]
theorem put_defers {a : Act} {dst : Option Tmp} {u : Value} : (a.put dst u).defers = a.defers := by cases dst <;> rfl
theorem upd_none {cur : Nat → Option Ob} {σ σ' : St} (h : ∀ id, σ.at id = none) (hn : σ'.n ≤ σ.n) : upd cur σ σ' = cur := by
  funext id
  unfold upd
  rw [if_neg]
  rw [h id]
  intro hx
  rcases hx with hx | hx
  · cases hx
  · omega
section step
variable {ι0 ι : Io} {w0 w : World} {σ0 : St} {A : Nat → Prop} {m : Nat} {e : Env} {cur : Nat → Option Ob} {j : Nat} {a : Act} {K : Act → World → Prop}
theorem Phi.step (hS : ∀ j, CodeOk P (S j) nn) (hC : ∀ j, CallOk P (S j)) (hm : ∀ j, CodeMono (S j)) (hk : ∀ j, CallMono (S j)) (ho : PlanOk ops pl) (ht : Tr P S pl ro ops D) (h0 : (D 0).pcs = []) (hn0 : (D 0).n = σ0.n) (hnk : (D ops.size).n ≤ N) (hi0 : Inv N ι0 σ0 w0)
    (h : Phi ops pl D N ro ι0 w0 σ0 A m e ι cur w) (hj : j < ops.size) (hnA : ¬ A j) (hb : ∀ i, bitOf pl j i → A i) (hF0 : FOk F rd ι0) (he : EnvR ι e a.tmps)
    (hK : ∀ m' e' ι' cur' w' a', Phi ops pl D N ro ι0 w0 σ0 (fun i => A i ∨ i = j) m' e' ι' cur' w' → EnvR ι' e' a'.tmps → a'.defers = a.defers → K a' w') : wpOpIn F 0 P ops Q j K a w := by
  obtain ⟨o, v, hoj, hej, hbne, hs⟩ := ht.stp hj
  have hF : FOk F rd ι := hF0.mono h.mid.ext
  have henvj := ht.env ho j (by omega)
  have hrd := h.reads ht ho hj hnA hb
  have hen : e.n = (D j).e.n := by rw [h.env.n, henvj.n]
  have hev := eval_reads hoj hrd hen
  have hold : ∀ t, dstOf ops j = some t → (D j).e.at t = (D 0).e.at t := fun t hd => henvj.old t fun i hi hc => ho.single i j hi hj t hc hd
  have henv : EnvOf ops D (fun i => A i ∨ i = j) (e.put o.dst v) := h.env.step ho h.sub hoj hnA hej hold henvj.n
  have hf0 : ∀ id, σ0.n ≤ id → id < (D ops.size).n → ∀ e, ι0 id e = none := fun id h1 h2 => hi0.fresh id h1 (by omega)
  have hnj : (D j).n ≤ (D (j + 1)).n := ht.n_step hm hk hj
  have hn0j : σ0.n ≤ (D j).n := by rw [← hn0]; exact ht.n_mono hm hk (by omega) (by omega)
  have hnjk : (D (j + 1)).n ≤ (D ops.size).n := ht.n_mono hm hk (by omega) (by omega)
  have hX : ∀ id, ((∃ i, i < ops.size ∧ ¬ (A i ∨ i = j) ∧ (D i).n ≤ id ∧ id < (D (i + 1)).n) ∨ ((D ops.size).n ≤ id ∧ id < N)) →
      ((∃ i, i < ops.size ∧ ¬ A i ∧ (D i).n ≤ id ∧ id < (D (i + 1)).n) ∨ ((D ops.size).n ≤ id ∧ id < N)) ∧ ¬ ((D j).n ≤ id ∧ id < (D (j + 1)).n) := by
    intro id hx
    rcases hx with ⟨i, h1, h2, h3⟩ | hx
    · exact ⟨.inl ⟨i, h1, fun hA => h2 (.inl hA), h3⟩, fun hr => h2 (.inr (ht.apart hm hk h1 hj h3 hr))⟩
    · exact ⟨.inr hx, fun hr => by omega⟩
  have hFr : ∀ id, (D j).n ≤ id → id < (D (j + 1)).n → ((∃ i, i < ops.size ∧ ¬ A i ∧ (D i).n ≤ id ∧ id < (D (i + 1)).n) ∨ ((D ops.size).n ≤ id ∧ id < N)) := fun id h1 h2 => .inl ⟨j, hj, hnA, h1, h2⟩
  have noPiece : (D (j + 1)).n = (D j).n → ∀ p, Made ops D p → p.j = j → ∀ (cur' : Nat → Option Ob) id o, p.lo ≤ id → id < p.hi → p.t.get id = some o → cur' id = some o := by
    intro hn p hp hpj cur' id o h1 h2
    rw [hp.lo, hpj] at h1; rw [hp.hi, hpj] at h2; omega
  have hbB : ∀ {i0 : Nat} {b : T Ob} {rest : List (Nat × T Ob)}, (D j).bs = (i0, b) :: rest → (D j).bs = (D m).bs → headB (D m).bs = b := fun h1 h2 => by rw [← h2, h1]; rfl
  -- the pieces that the operation sees, where it stands in order with every effect
  have hpcs : (∀ i, i < ops.size → kdOf pl i = .effect → (A i ↔ i < j)) → ∀ p ∈ (D j).pcs, Made ops D p ∧ Unab ops pl D A p.j ∧ p.hi ≤ (D j).n := by
    intro heff p hp
    obtain ⟨c1, c2, c3⟩ := ht.pcs ho h0 j (by omega) p hp
    exact ⟨c1, fun i hA hwe => c3 i ((heff i (h.sub i hA) hwe.1).1 hA) hwe, by rw [c1.hi]; exact ht.n_mono hm hk c2 (by omega)⟩
  unfold wpOpIn
  rw [hoj]
  dsimp only
  rw [wanted_eq he, hev.2]
  cases hs with
  | skip hw hv hn hp hkd hbs =>
    rw [hw]
    refine ⟨fun f _ => hF.fn f, ?_⟩
    subst hv
    exact hK m _ ι cur w _ (h.next ht hm hk hj hnA hb hkd henv h.mid (fun id hx => (hX id hx).1) (fun _ _ _ hc => hc) (.inl hn) (fun p hp hpj => noPiece hn p hp hpj cur)) (he.put rv_undef _) put_defers
  | skipE hw hv hn hp hkd i0 b rest hbs hb1 hr =>
    rw [hw]
    refine ⟨fun f _ => hF.fn f, ?_⟩
    subst hv
    obtain ⟨heff, hmj, hbm⟩ := h.order ht ho hj hnA hb (.inl hkd)
    have hB := hbB hbs hbm
    have hB' : headB (D (j + 1)).bs = headB (D m).bs := by rw [hb1, hB]; rfl
    have hnm := ht.n_mono hm hk hmj (by omega : j ≤ ops.size)
    refine hK (j + 1) _ ι cur w _ (h.nextE hj hb hkd heff henv h.mid (fun id hx => (hX id hx).1) (fun _ _ _ _ _ _ _ _ _ hc => hc) (fun p hp hpj => made_eff ht hp (by rw [hpj]; exact hkd)) ?_ ?_ ?_ ?_) (he.put rv_undef _) put_defers
    · rw [hB']; exact h.base
    · rw [hB']; exact fun p hp hu => h.away p hp (hu.less fun _ x => .inl x)
    · rw [hB']; exact fun id hid => h.top id (by omega)
    · rw [hB']; exact h.low
  | pure hw hkd hn hp hbs σ hop hσ =>
    rw [hw]
    have hx : evX P (S j) 0 e o ⟨0, .lf⟩ = some (v, σ) := by unfold evX; rw [evOp_congr hev.1, hop]
    refine evX_ok (N := 0) (hS j) (hC j) (hm j) hx (by omega) hF (h.mid.toGn.inv (fun id o hs => by cases hs) (fun id h1 h2 => by omega) (fun _ _ => rfl)) he fun u w' ι' hv hi' hl => ?_
    have hmid := h.mid.step hf0 (fun id o hs => by cases hs) (fun id h1 h2 => by omega) (fun id _ hs => by cases hs) (fun _ _ => rfl) hi' hl
    rw [upd_none (fun _ => rfl) (by omega)] at hmid
    exact hK m _ ι' cur w' _ (h.next ht hm hk hj hnA hb (by rw [hkd]; simp) henv hmid (fun id hx => ⟨(hX id hx).1, fun hh => by omega⟩) (fun _ _ _ hc => hc) (.inl hn) (fun p hp hpj => noPiece hn p hp hpj cur)) ((he.mono hl.ext).put hv _) put_defers
  | alloc hw hkd hbs σ hop hn hp =>
    rw [hw]
    have hx : evX P (S j) 0 e o ⟨(D j).n, .lf⟩ = some (v, σ) := by unfold evX; rw [evOp_congr hev.1, hop]
    refine evX_ok (N := (D (j + 1)).n) (hS j) (hC j) (hm j) hx (by omega) hF (h.mid.toGn.inv (fun id o hs => by cases hs) (fun id h1 h2 => hFr id h1 h2) (fun _ _ => rfl)) he fun u w' ι' hv hi' hl => ?_
    have hmid := h.mid.step hf0 (fun id o hs => by cases hs) (fun id h1 h2 => ⟨Nat.le_trans hn0j h1, by omega⟩) (fun id _ hs => by cases hs) (fun _ _ => rfl) hi' hl
    have hmk : Made ops D ⟨j, (D j).n, σ.n, σ.t⟩ := ⟨hj, rfl, hn.symm, hp⟩
    refine hK m _ ι' _ w' _ (h.next ht hm hk hj hnA hb (by rw [hkd]; simp) henv hmid (fun id hx => ⟨(hX id hx).1, fun hh => (hX id hx).2 (by rw [hn]; exact hh)⟩) (fun id o hr hc => ?_) (.inr ⟨_, hmk, rfl⟩) (fun p hp1 hpj id o h1 h2 h3 => ?_)) ((he.mono hl.ext).put hv _) put_defers
    · unfold upd
      rw [if_neg, hc]
      intro hx
      rcases hx with hx | hx
      · cases hx
      · exact hr (by rw [hn]; exact hx)
    · have hpe := made_inj hp1 hmk hpj
      subst hpe
      unfold upd
      rw [if_pos (.inr ⟨h1, h2⟩)]
      exact h3
  | load hw hkd hn hp hbs i0 b rest hbs1 σ hop hσ hlb =>
    rw [hw]
    obtain ⟨pcs, n', u', σ', hop', hσ', hps, hnm, hput⟩ := h.loads ht ho hm hk h0 hj hnA hb hoj hw hkd hej hbs1 hop hσ hlb
    obtain ⟨hsub, hwf⟩ := h.see hb hps hnm
    have hx : evX P (S j) n' e o ⟨n', seen pcs (pl.bef.getD j 0) (headB (D m).bs)⟩ = some (u', σ') := by unfold evX; rw [hop']
    refine evX_ok (N := n') (hS j) (hC j) (hm j) hx (by omega) hF (h.mid.toGn.inv hsub (fun id h1 h2 => by dsimp only at h1; omega) hwf) he fun u w' ι' hv hi' hl => ?_
    have hmid := h.mid.step (σ := ⟨n', seen pcs (pl.bef.getD j 0) (headB (D m).bs)⟩) hf0 hsub (fun id h1 h2 => by dsimp only at h1; omega) (fun id _ hs => ?_) hwf hi' hl
    · have hup : upd cur ⟨n', seen pcs (pl.bef.getD j 0) (headB (D m).bs)⟩ σ' = cur := by
        funext id
        unfold upd
        split
        · rename_i hc
          have hs : ((⟨n', seen pcs (pl.bef.getD j 0) (headB (D m).bs)⟩ : St).at id).isSome := hc.resolve_right (by dsimp only; omega)
          obtain ⟨x, hx⟩ := Option.isSome_iff_exists.1 hs
          have hlt : id < n' := Nat.lt_of_not_le fun hle => by have := hwf id hle; rw [show (⟨n', seen pcs (pl.bef.getD j 0) (headB (D m).bs)⟩ : St).at id = _ from this] at hx; cases hx
          rw [hl.prot id hlt hlt, hx]
          exact (hsub id x hx).symm
        · rfl
      rw [hup] at hmid
      have hev' : EnvR ι' (e.put o.dst v) (a.put o.dst u).tmps := by rw [← hput]; exact (he.mono hl.ext).put hv _
      exact hK m _ ι' cur w' _ (h.next ht hm hk hj hnA hb (by rw [hkd]; simp) henv hmid (fun id hx => ⟨(hX id hx).1, fun hh => by dsimp only at hh; omega⟩) (fun _ _ _ hc => hc) (.inl hn) (fun p hp hpj => noPiece hn p hp hpj cur)) hev' put_defers
    · exact Nat.lt_of_not_le fun hle => by
        have := hwf id hle
        rw [show (⟨n', seen pcs (pl.bef.getD j 0) (headB (D m).bs)⟩ : St).at id = _ from this] at hs
        cases hs
  | call hw hkd hbs i0 b rest hbs1 σ hop hn hp =>
    rw [hw]
    obtain ⟨heff, hmj, hbm⟩ := h.order ht ho hj hnA hb (.inr hkd)
    have hB := hbB hbs1 hbm
    have hnm := ht.n_mono hm hk hmj (by omega : j ≤ ops.size)
    obtain ⟨hsub, hwf⟩ := h.see hb (hpcs heff) hnm
    rw [hB] at hsub hwf
    have hx : evX P (S j) (D j).n e o ⟨(D j).n, seen (D j).pcs (pl.bef.getD j 0) b⟩ = some (v, σ) := by
      rw [← hop]; unfold evX; rw [evOp_congr hev.1]
    have hlt : ∀ id, ((⟨(D j).n, seen (D j).pcs (pl.bef.getD j 0) b⟩ : St).at id).isSome = true → id < (D j).n := fun id hs => Nat.lt_of_not_le fun hle => by
      have := hwf id hle
      rw [show (⟨(D j).n, seen (D j).pcs (pl.bef.getD j 0) b⟩ : St).at id = _ from this] at hs
      cases hs
    refine evX_ok (N := (D (j + 1)).n) (hS j) (hC j) (hm j) hx (by omega) hF (h.mid.toGn.inv hsub (fun id h1 h2 => hFr id h1 h2) hwf) he fun u w' ι' hv hi' hl => ?_
    have hmid := h.mid.step (σ := ⟨(D j).n, seen (D j).pcs (pl.bef.getD j 0) b⟩) hf0 hsub (fun id h1 h2 => ⟨Nat.le_trans hn0j h1, by omega⟩) (fun id _ hs => hlt id hs) hwf hi' hl
    have hmk : Made ops D ⟨j, (D j).n, σ.n, σ.t⟩ := ⟨hj, rfl, hn.symm, hp⟩
    refine hK m _ ι' _ w' _ (h.next ht hm hk hj hnA hb (by rw [hkd]; simp) henv hmid (fun id hx => ⟨(hX id hx).1, fun hh => (hX id hx).2 (by rw [hn]; exact hh)⟩) (fun id o hr hc => ?_) (.inr ⟨_, hmk, rfl⟩) (fun p hp1 hpj id o h1 h2 h3 => ?_)) ((he.mono hl.ext).put hv _) put_defers
    · unfold upd
      split
      · rename_i hcc
        have hs := hcc.resolve_right (fun hx => hr (by rw [hn]; exact hx))
        obtain ⟨x, hx⟩ := Option.isSome_iff_exists.1 hs
        rw [hl.prot id (hlt id hs) (hlt id hs), hx, ← hsub id x hx]
        exact hc
      · exact hc
    · have hpe := made_inj hp1 hmk hpj
      subst hpe
      unfold upd
      rw [if_pos (.inr ⟨h1, h2⟩)]
      exact h3
  | effect hw hkd i0 b rest hbs1 σ hop hn hb1 hp hr =>
    rw [hw]
    obtain ⟨heff, hmj, hbm⟩ := h.order ht ho hj hnA hb (.inl hkd)
    have hB := hbB hbs1 hbm
    have hB' : headB (D (j + 1)).bs = σ.t := by rw [hb1]; rfl
    have hnm := ht.n_mono hm hk hmj (by omega : j ≤ ops.size)
    obtain ⟨hsub, hwf⟩ := h.see hb (hpcs heff) hnm
    rw [hB] at hsub hwf
    have hx : evX P (S j) ro e o ⟨(D j).n, seen (D j).pcs (pl.bef.getD j 0) b⟩ = some (v, σ) := by
      rw [← hop]; unfold evX; rw [evOp_congr hev.1]
    have hwj : Wef ops pl D j := ⟨hkd, o, hoj, hw⟩
    have hseen : ∀ p, Made ops D p → Unab ops pl D (fun i => A i ∨ i = j) p.j → ∀ id, p.lo ≤ id → id < p.hi → (seen (D j).pcs (pl.bef.getD j 0) b).get id = none := by
      intro p hp1 hu id h1 h2
      cases hsn : (seen (D j).pcs (pl.bef.getD j 0) b).get id with
      | none => rfl
      | some x =>
        rcases seen_get hsn with ⟨q, hq, hbit, g1, g2, g3⟩ | hsn
        · obtain ⟨hq1, _, _⟩ := hpcs heff q hq
          have : q.j = p.j := by
            rw [hq1.lo] at g1; rw [hq1.hi] at g2; rw [hp1.lo] at h1; rw [hp1.hi] at h2
            exact ht.apart hm hk hq1.lt hp1.lt ⟨g1, g2⟩ ⟨h1, h2⟩
          exact absurd (show bitOf pl j p.j by rw [← this]; exact hbit) (hu j (.inr rfl) hwj)
        · rw [← hB, h.away p hp1 (hu.less fun _ x => .inl x) id h1 h2] at hsn
          cases hsn
    have hne : ∀ p, Made ops D p → p.j ≠ j := fun p hp1 hpj => made_eff ht hp1 (by rw [hpj]; exact hkd)
    have hout : ∀ p, Made ops D p → ∀ id, p.lo ≤ id → id < p.hi → ¬ ((D j).n ≤ id ∧ id < σ.n) := fun p hp1 id h1 h2 hx => by
      rw [hp1.lo] at h1; rw [hp1.hi] at h2
      exact hne p hp1 (ht.apart hm hk hp1.lt hj ⟨h1, h2⟩ (by rw [hn]; exact hx))
    refine evX_ok (N := (D (j + 1)).n) (hS j) (hC j) (hm j) hx (by omega) hF (h.mid.toGn.inv hsub (fun id h1 h2 => hFr id h1 h2) hwf) he fun u w' ι' hv hi' hl => ?_
    have hmid := h.mid.step (σ := ⟨(D j).n, seen (D j).pcs (pl.bef.getD j 0) b⟩) hf0 hsub (fun id h1 h2 => ⟨Nat.le_trans hn0j h1, by omega⟩) (fun id hr _ => hr) hwf hi' hl
    refine hK (j + 1) _ ι' _ w' _ (h.nextE hj hb hkd heff henv hmid (fun id hx => ⟨(hX id hx).1, fun hh => (hX id hx).2 (by rw [hn]; exact hh)⟩) (fun p hp1 hpj hA hu id o h1 h2 hc => ?_) hne ?_ ?_ ?_ ?_) ((he.mono hl.ext).put hv _) put_defers
    · unfold upd
      rw [if_neg]
      · exact hc
      · intro hx
        rcases hx with hx | hx
        · rw [show (⟨(D j).n, seen (D j).pcs (pl.bef.getD j 0) b⟩ : St).at id = _ from hseen p hp1 hu id h1 h2] at hx
          cases hx
        · exact hout p hp1 id h1 h2 hx
    · rw [hB']
      intro id o hg
      unfold upd
      split
      · exact hg
      · rename_i hx
        have hnone : (⟨(D j).n, seen (D j).pcs (pl.bef.getD j 0) b⟩ : St).at id = none := by
          cases hs : (⟨(D j).n, seen (D j).pcs (pl.bef.getD j 0) b⟩ : St).at id with
          | none => rfl
          | some y => exact absurd (.inl (by rw [hs]; rfl)) hx
        have hout' : ¬ ((D j).n ≤ id ∧ id < σ.n) := fun hh => hx (.inr hh)
        have := hl.dead id hnone (by dsimp only; omega)
        rw [show σ.at id = _ from hg] at this; cases this
    · rw [hB']
      intro p hp1 hu id h1 h2
      have := hout p hp1 id h1 h2
      exact hl.dead id (hseen p hp1 hu id h1 h2) (by dsimp only; omega)
    · rw [hB']
      intro id hid
      exact hl.dead id (hwf id (by omega)) (.inr (by omega))
    · rw [hB']
      intro id hr0 hlt
      rw [show σ.t.get id = σ.at id from rfl, hl.prot id hr0 (by dsimp only; omega)]
      show (seen (D j).pcs (pl.bef.getD j 0) b).get id = _
      rw [seen_low, ← hB]
      · exact h.low id hr0 hlt
      · intro p hp1
        obtain ⟨c1, c2, _⟩ := ht.pcs ho h0 j (by omega) p hp1
        rw [c1.lo]
        have := ht.n_mono hm hk (Nat.zero_le p.j) (by have := c1.lt; omega)
        omega
end step
end Go.Ev
namespace Go.Ev
variable {P : Program} {S : Nat → Self} {ro nn : Nat} {ops : Array Oper} {pl : Plan} {D : Nat → DS} {N : Nat} {F : Fence} {rd : Option Nat} {Q : Exit → Act → World → Prop} [Sm]
def Lst (listed : Array Bool) (i : Nat) : Prop := listed[i]? = some true
theorem lst_set {listed : Array Bool} {j : Nat} (hj : j < listed.size) : Lst (listed.setIfInBounds j true) = fun i => Lst listed i ∨ i = j := by
  funext i
  refine propext ?_
  unfold Lst
  rw [Array.getElem?_setIfInBounds]
  by_cases hij : j = i
  · subst hij; simp [hj]
  · simp [hij, Ne.symm hij]
theorem ready_mem {listed : Array Bool} {j : Nat} (h : j ∈ Region.ready .any ops listed) : j < ops.size ∧ listed[j]? = some false ∧ ∃ o, ops[j]? = some o ∧ ∀ e ∈ o.after.toList, Region.binds .any e = true → Lst listed e.on := by
  unfold Region.ready at h
  rw [List.mem_filter, List.mem_range] at h
  obtain ⟨hlt, h⟩ := h
  rw [Bool.and_eq_true] at h
  refine ⟨hlt, ?_, ops[j], Array.getElem?_eq_getElem hlt, fun e he hb => ?_⟩
  · have h1 := h.1
    rw [Array.getD_eq_getD_getElem?] at h1
    cases hx : listed[j]? with
    | none => rw [hx] at h1; cases h1
    | some b => rw [hx] at h1; cases b with
      | false => rfl
      | true => cases h1
  · have h2 := h.2
    rw [Array.getElem?_eq_getElem hlt] at h2
    simp only [Option.map_some, Option.getD_some] at h2
    rw [Array.all_eq_true'] at h2
    have := h2 e (by simpa using he)
    rw [hb, Bool.not_true, Bool.false_or, Array.getD_eq_getD_getElem?] at this
    unfold Lst
    cases hx : listed[e.on]? with
    | none => rw [hx] at this; cases this
    | some b => rw [hx] at this; cases b with
      | false => cases this
      | true => rfl
theorem ready_nil (ho : PlanOk ops pl) {listed : Array Bool} (hsz : listed.size = ops.size) (h : Region.ready .any ops listed = []) : ∀ i, i < ops.size → Lst listed i := by
  intro i
  induction i using Nat.strongRecOn with
  | _ i ih =>
    intro hi
    refine Classical.byContradiction fun hn => ?_
    have hf : listed[i]? = some false := by
      rw [Array.getElem?_eq_getElem (by omega)]
      cases hx : listed[i]'(by omega) with
      | false => rfl
      | true => exact absurd (by unfold Lst; rw [Array.getElem?_eq_getElem (by omega), hx]) hn
    have hm : i ∈ Region.ready .any ops listed := by
      unfold Region.ready
      rw [List.mem_filter, List.mem_range]
      refine ⟨hi, ?_⟩
      rw [Array.getD_eq_getD_getElem?, hf, Array.getElem?_eq_getElem hi]
      simp only [Option.getD_some, Bool.not_false, Bool.true_and, Option.map_some]
      rw [Array.all_eq_true']
      intro e he
      cases hb : Region.binds .any e with
      | false => rfl
      | true =>
        have hlt := ho.back i _ (Array.getElem?_eq_getElem hi) e (by simpa using he) hb
        have := ih e.on hlt (by omega)
        unfold Lst at this
        rw [Array.getD_eq_getD_getElem?, this]; rfl
    rw [h] at hm; cases hm
section any
variable {ι0 : Io} {w0 : World} {σ0 : St} {a0 : Act}
theorem any_ok (hS : ∀ j, CodeOk P (S j) nn) (hC : ∀ j, CallOk P (S j)) (hm : ∀ j, CodeMono (S j)) (hk : ∀ j, CallMono (S j)) (ho : PlanOk ops pl) (ht : Tr P S pl ro ops D) (h0 : (D 0).pcs = []) (hn0 : (D 0).n = σ0.n) (hnk : (D ops.size).n ≤ N) (hi0 : Inv N ι0 σ0 w0)
    (hF0 : FOk F rd ι0) (hfin : ∀ m e ι cur w a, Phi ops pl D N ro ι0 w0 σ0 (fun i => i < ops.size) m e ι cur w → EnvR ι e a.tmps → a.defers = a0.defers → Q .normal a w) :
    ∀ (fuel : Nat) (listed : Array Bool) (m : Nat) (e : Env) (ι : Io) (cur : Nat → Option Ob) (w : World) (a : Act), listed.size = ops.size → listed.toList.count false ≤ fuel → Phi ops pl D N ro ι0 w0 σ0 (Lst listed) m e ι cur w →
      EnvR ι e a.tmps → a.defers = a0.defers → wpAnyIn F 0 P .any ops Q fuel listed a w := by
  have hall : ∀ (listed : Array Bool) (m : Nat) (e : Env) (ι : Io) (cur : Nat → Option Ob) (w : World) (a : Act), listed.size = ops.size → (∀ i, i < ops.size → Lst listed i) → Phi ops pl D N ro ι0 w0 σ0 (Lst listed) m e ι cur w →
      EnvR ι e a.tmps → a.defers = a0.defers → Q .normal a w := by
    intro listed m e ι cur w a hsz hl h he hd
    have : Lst listed = fun i => i < ops.size := by
      funext i
      refine propext ⟨fun hx => h.sub i hx, hl i⟩
    rw [this] at h
    exact hfin m e ι cur w a h he hd
  intro fuel
  induction fuel with
  | zero =>
    intro listed m e ι cur w a hsz hc h he hd
    have hl : ∀ i, i < ops.size → Lst listed i := by
      intro i hi
      have hlt : i < listed.size := by omega
      unfold Lst
      rw [Array.getElem?_eq_getElem hlt]
      cases hx : listed[i] with
      | true => rfl
      | false =>
        have hmem : false ∈ listed.toList := by
          rw [List.mem_iff_getElem?]
          exact ⟨i, by rw [Array.getElem?_toList, Array.getElem?_eq_getElem hlt, hx]⟩
        have := List.count_pos_iff.2 hmem
        omega
    refine ⟨?_, hall listed m e ι cur w a hsz hl h he hd⟩
    cases hr : Region.ready .any ops listed with
    | nil => rfl
    | cons x xs =>
      obtain ⟨h1, h2, _⟩ := ready_mem (show x ∈ Region.ready .any ops listed by rw [hr]; simp)
      have := hl x h1
      unfold Lst at this
      rw [this] at h2; cases h2
  | succ fuel ih =>
    intro listed m e ι cur w a hsz hc h he hd
    refine ⟨fun hr => hall listed m e ι cur w a hsz (ready_nil ho hsz hr) h he hd, fun j hj => ?_⟩
    obtain ⟨hjs, hlj, o, hoj, haft⟩ := ready_mem hj
    have hnA : ¬ Lst listed j := fun hx => by unfold Lst at hx; rw [hlj] at hx; cases hx
    have hb : ∀ i, bitOf pl j i → Lst listed i := by
      intro i hbit
      obtain ⟨e', he', hbd, hh⟩ := ho.bits j o hoj i hbit
      have := haft e' he' hbd
      rcases hh with rfl | hh
      · exact this
      · exact h.closed _ this i hh
    refine h.step hS hC hm hk ho ht h0 hn0 hnk hi0 hjs hnA hb hF0 he fun m' e' ι' cur' w' a' hP he' hd' => ?_
    rw [← lst_set (by omega)] at hP
    refine ih _ m' e' ι' cur' w' a' (by simp [hsz]) ?_ hP he' (hd'.trans hd)
    have hjl : j < listed.toList.length := by simp; omega
    have hjv : listed.toList[j] = false := by
      have : listed.toList[j]? = some false := by rw [Array.getElem?_toList]; exact hlj
      rw [List.getElem?_eq_getElem hjl] at this
      exact Option.some.inj this
    rw [Array.toList_setIfInBounds, List.count_set hjl, hjv]
    have e1 : (if (false == false) = true then 1 else 0) = 1 := rfl
    have e2 : (if (true == false) = true then 1 else 0) = 0 := rfl
    rw [e1, e2]
    omega
end any
theorem drawF_ok (hmix : P.follows .mixedOrders = true) (hS : ∀ j, CodeOk P (S j) nn) (hC : ∀ j, CallOk P (S j)) (hm : ∀ j, CodeMono (S j)) (hk : ∀ j, CallMono (S j)) :
    ∀ N ro rd ops e df σ cr, evDrawF P S ro ops e df σ = some cr → cr.σ.n ≤ N → ∀ F ι a w Q id, FOk F rd ι → Inv N ι σ w → EnvR ι e a.tmps → DfL ι df a.defers → Post N ro ι w σ cr Q → (Code.region id ops true).wpIn F 0 P Q a w := by
  intro N ro rd ops e df σ cr h hN F ι a w Q id hF hi he hd hQ
  unfold evDrawF at h
  dsimp only at h
  split at h
  · rename_i hok
    split at h
    · rename_i e' n i b rest pcs hdr
      cases h
      obtain ⟨ht, hk'⟩ := trace_ok hdr
      generalize hDd : traceD P S (planOf ops) ro ops ⟨e, σ.n, [(0, σ.t)], []⟩ = D at ht hk'
      have hD0 : D 0 = ⟨e, σ.n, [(0, σ.t)], []⟩ := by rw [← hDd]; rfl
      have ho := planOk hok
      have hn : (D ops.size).n = n := by rw [← hk']
      have hi' : Inv N ι σ { w with drawn := w.drawn + 1 } := hi.same rfl
      have hle : Le ro ι w σ ι { w with drawn := w.drawn + 1 } σ := Le.same rfl rfl rfl rfl
      have hσN : σ.n ≤ N := by
        have := ht.n_mono hm hk (Nat.zero_le ops.size) (Nat.le_refl _)
        rw [hn, hD0] at this
        exact Nat.le_trans this hN
      have hQ' := hQ.from hi hle hσN
      refine wpIn_region_any hmix ?_
      have hB0 : headB (D 0).bs = σ.t := by rw [hD0]; rfl
      have hn0 : (D 0).n = σ.n := by rw [hD0]
      have hphi : Phi ops (planOf ops) D N ro ι { w with drawn := w.drawn + 1 } σ (Lst (Array.replicate ops.size false)) 0 e ι σ.at { w with drawn := w.drawn + 1 } := by
        have hno : ∀ i, ¬ Lst (Array.replicate ops.size false) i := by
          intro i hx
          unfold Lst at hx
          rw [Array.getElem?_replicate] at hx
          split at hx <;> cases hx
        refine ⟨fun i hx => absurd hx (hno i), fun j hx => absurd hx (hno j), ⟨by rw [hD0], fun j hx => absurd hx (hno j), fun t _ => by rw [hD0]⟩, Nat.zero_le _, fun i _ _ => ⟨fun hx => absurd hx (hno i), fun hx => absurd hx (Nat.not_lt_zero _)⟩, .inl rfl,
          (Mid.start hi' (by rw [hn]; exact hN)).fr ?_, fun p _ hx => absurd hx (hno _), ?_, ?_, ?_, ?_⟩
        · intro id hx
          rcases hx with ⟨j, hj, _, h1, h2⟩ | ⟨h1, h2⟩
          · have g1 := ht.n_mono hm hk (Nat.zero_le j) (by omega)
            have g2 := ht.n_mono hm hk (show j + 1 ≤ ops.size from hj) (Nat.le_refl _)
            exact ⟨by omega, by have : n ≤ N := hN; omega⟩
          · have g1 := ht.n_mono hm hk (Nat.zero_le ops.size) (Nat.le_refl _)
            exact ⟨by omega, h2⟩
        · rw [hB0]; exact fun _ _ h => h
        · rw [hB0]
          intro p hp _ id h1 _
          have g1 := ht.n_mono hm hk (Nat.zero_le p.j) (by have := hp.lt; omega)
          exact hi.wf id (by rw [hp.lo] at h1; omega)
        · rw [hB0, hn0]; exact hi.wf
        · rw [hB0]; exact fun _ _ _ => rfl
      refine any_ok (a0 := a) hS hC hm hk ho ht (by rw [hD0]) hn0 (by rw [hn]; exact hN) hi' hF ?_ ops.size _ 0 e ι σ.at _ a (by simp) ?_ hphi he rfl
      · intro m e1 ι1 cur w1 a1 hp he1 hd1
        have hbs : (D ops.size).bs = (D m).bs := ht.bs_const hp.mle (Nat.le_refl _) fun i h1 h2 hke => by
          have := (hp.eff i h2 hke).1 h2; omega
        have hB : headB (D m).bs = b := by rw [← hbs, ← hk']; rfl
        have hpc : (D ops.size).pcs = pcs := by rw [← hk']
        have hpcs : ∀ p ∈ pcs, Made ops D p ∧ Unab ops (planOf ops) D (fun i => i < ops.size) p.j ∧ p.hi ≤ n := by
          intro p hpm
          obtain ⟨c1, c2, c3⟩ := ht.pcs ho (by rw [hD0]) ops.size (Nat.le_refl _) p (by rw [hpc]; exact hpm)
          exact ⟨c1, fun i hA hwe => c3 i hA hwe, by rw [c1.hi, ← hn]; exact ht.n_mono hm hk c2 (Nat.le_refl _)⟩
        have hmid := hp.mid
        rw [hn] at hmid
        have hnm := ht.n_mono hm hk hp.mle (Nat.le_refl _)
        have h0n := ht.n_mono hm hk (Nat.zero_le ops.size) (Nat.le_refl _)
        obtain ⟨i1, l1⟩ := hmid.fin (N := N) (t := pcs.foldl overlay b) (by omega) (fun id h1 h2 => .inr ⟨h1, h2⟩) (fun id o hg => by
            rcases fold_get _ _ _ _ hg with ⟨p, hpm, g1, g2, g3⟩ | hg
            · obtain ⟨c1, c2, _⟩ := hpcs p hpm
              exact hp.piece p c1 c1.lt c2 id o g1 g2 g3
            · exact hp.base id o (by rw [hB]; exact hg))
          (fun id hid => by
            cases hg : (pcs.foldl overlay b).get id with
            | none => rfl
            | some o =>
              rcases fold_get _ _ _ _ hg with ⟨p, hpm, g1, g2, g3⟩ | hg
              · obtain ⟨_, _, c3⟩ := hpcs p hpm; omega
              · rw [← hB, hp.top id (by omega)] at hg; cases hg)
          (fun id hr hlt => by
            rw [fold_low, ← hB]
            · exact hp.low id hr hlt
            · intro p hpm
              obtain ⟨c1, _, _⟩ := hpcs p hpm
              rw [c1.lo]
              have := ht.n_mono hm hk (Nat.zero_le p.j) (by have := c1.lt; omega)
              omega)
        have henv : EnvR ι1 e' a1.tmps := by
          have hk2 := ht.env ho ops.size (Nat.le_refl _)
          have hee : (D ops.size).e = e' := by rw [← hk']
          refine ⟨by rw [← hee, hk2.n, ← hp.env.n]; exact he1.1, fun t => ?_⟩
          rw [← hee, ← reads_eq hp.env hk2 (t := t) fun i _ => Iff.rfl]
          exact he1.2 t
        exact hQ' a1 w1 ι1 [] i1 l1 henv (by rw [hd1]; exact hd.mono l1.ext) trivial
      · rw [Array.toList_replicate, List.count_replicate]
        simp
    · cases h
  · cases h
omit [Sm] in
theorem draw_ok {U : Self} (hmix : P.follows .mixedOrders = true) (hS : CodeOk P U nn) (hC : CallOk P U) (hm : CodeMono U) (hk : CallMono U) : DrawOk P U :=
  @drawF_ok _ _ _ sameSm hmix (fun _ => hS) (fun _ => hC) (fun _ => hm) (fun _ => hk)
end Go.Ev
namespace Go.Ev
open Go.RowKit
variable {P : Program}
def says (r : Option (IV × St)) : Bool :=
  match r with
  | some (.raw (.bool true), _) => true
  | _ => false
end Go.Ev
namespace Go.Ev
variable {P : Program} {N ro m : Nat} {ι : Io} {w : World} {σ : St} {e : Env} {a : Act} {F : Fence} {rd : Option Nat} {Q : Exit → Act → World → Prop} {fn : FuncId} {df : List Df} {cr : CR}
def SCode (P : Program) (ro : Nat) (rd : Option Nat) (fn : FuncId) (c : Code) (e : Env) (df : List Df) (σ : St) (cr : CR) : Prop :=
  σ.n ≤ cr.σ.n ∧ ∃ m0, ∀ m, m0 ≤ m → ∀ N, cr.σ.n ≤ N → ∀ F ι a w Q, FOk F rd ι → Inv N ι σ w → EnvR ι e a.tmps → DfL ι df a.defers → Post N ro ι w σ cr Q → Walk F P m c Q a w
def SCall (P : Program) (ro : Nat) (f : FuncId) (args : List IV) (σ : St) (v : IV) (σ' : St) : Prop :=
  σ.n ≤ σ'.n ∧ ∀ N, σ'.n ≤ N → ∀ ι us w, Inv N ι σ w → RvL ι args us → CallsIn Fence.wide 0 P f us.toArray w (RetOk N ro ι w σ v σ')
def SPan (P : Program) (ro : Nat) (f : FuncId) (args : List IV) (σ : St) (v : IV) (σ' : St) : Prop :=
  σ.n ≤ σ'.n ∧ ∀ N, σ'.n ≤ N → ∀ ι us w, Inv N ι σ w → RvL ι args us → CallsIn Fence.wide 0 P f us.toArray w (PanOk N ro ι w σ v σ')
def SOps (P : Program) (ro : Nat) (rd : Option Nat) (ops : Array Oper) (l : List Oper) (e : Env) (df : List Df) (σ : St) (cr : CR) : Prop :=
  σ.n ≤ cr.σ.n ∧ ∀ N, cr.σ.n ≤ N → ∀ F ι a w Q k, ops.toList.drop k = l → FOk F rd ι → Inv N ι σ w → EnvR ι e a.tmps → DfL ι df a.defers → Post N ro ι w σ cr Q →
    wpOpsIn F 0 P ops Q (List.range' k l.length) a w
theorem SCode.mk {c : Code} (hn : σ.n ≤ cr.σ.n) (hl : ∀ b, c ≠ .loop b) (h : ∀ N, cr.σ.n ≤ N → ∀ F ι a w Q, FOk F rd ι → Inv N ι σ w → EnvR ι e a.tmps → DfL ι df a.defers → Post N ro ι w σ cr Q → c.wpIn F 0 P Q a w) : SCode P ro rd fn c e df σ cr := by
  refine ⟨hn, 0, fun m _ N hN F ι a w Q hF hi he hd hQ => ?_⟩
  have := h N hN F ι a w Q hF hi he hd hQ
  cases c <;> first | exact this | exact absurd rfl (hl _)
theorem SCode.wp {c : Code} (h : SCode P ro rd fn c e df σ cr) (hN : cr.σ.n ≤ N) (hF : FOk F rd ι) (hi : Inv N ι σ w) (he : EnvR ι e a.tmps) (hd : DfL ι df a.defers) (hQ : Post N ro ι w σ cr Q) : c.wpIn F 0 P Q a w := by
  obtain ⟨_, m0, h⟩ := h
  exact (h m0 (Nat.le_refl _) N hN F ι a w Q hF hi he hd hQ).wp
theorem SCode.skip : SCode P ro rd fn .skip e df σ ⟨.normal, e, df, σ⟩ :=
  .mk (Nat.le_refl _) (by simp) fun _ _ _ ι a w _ _ hi he hd hQ => wpIn_skip (hQ a w ι [] hi (Le.refl _ _ _ _) he hd trivial)
theorem SCode.label {l : Nat} : SCode P ro rd fn (.label l) e df σ ⟨.normal, e, df, σ⟩ :=
  .mk (Nat.le_refl _) (by simp) fun _ _ _ ι a w _ _ hi he hd hQ => wpIn_label (hQ a w ι [] hi (Le.refl _ _ _ _) he hd trivial)
theorem SCode.exit {id : Nat} : SCode P ro rd fn (.exit id) e df σ ⟨.exit id, e, df, σ⟩ :=
  .mk (Nat.le_refl _) (by simp) fun _ _ _ ι a w _ _ hi he hd hQ => wpIn_exit (hQ a w ι [] hi (Le.refl _ _ _ _) he hd trivial)
theorem SCode.goto {id : Nat} : SCode P ro rd fn (.goto id) e df σ ⟨.goto id, e, df, σ⟩ :=
  .mk (Nat.le_refl _) (by simp) fun _ _ _ ι a w _ _ hi he hd hQ => wpIn_goto (hQ a w ι [] hi (Le.refl _ _ _ _) he hd trivial)
theorem SCode.ret : SCode P ro rd fn .ret e df σ ⟨.ret, e, df, σ⟩ :=
  .mk (Nat.le_refl _) (by simp) fun _ _ _ ι a w _ _ hi he hd hQ => wpIn_ret (hQ a w ι [] hi (Le.refl _ _ _ _) he hd trivial)
theorem SCode.seq {x y : Code} {e1 : Env} {df1 : List Df} {σ1 : St} (h : SCode P ro rd fn x e df σ ⟨.normal, e1, df1, σ1⟩) (k : SCode P ro rd fn y e1 df1 σ1 cr) : SCode P ro rd fn (.seq x y) e df σ cr := by
  refine .mk (Nat.le_trans h.1 k.1) (by simp) fun N hN F ι a w Q hF hi he hd hQ => wpIn_seq ?_
  have hn1 : σ1.n ≤ N := Nat.le_trans k.1 hN
  refine h.wp hn1 hF hi he hd ?_
  intro a1 w1 ι1 ch1 i1 l1 e1' d1 p1
  exact k.wp hN (hF.mono l1.ext) i1 e1' d1 (hQ.from hi l1 hn1)
theorem SCode.cond {c : Operand} {x y : Code} {t : Bool} (hc : evalI e c = .raw (.bool t)) (h : SCode P ro rd fn (if t then x else y) e df σ cr) : SCode P ro rd fn (.cond c x y) e df σ cr :=
  .mk h.1 (by simp) fun N hN F ι a w Q hF hi he hd hQ => wpIn_cond (rv_bool' hc (he.eval c)) (h.wp hN hF hi he hd hQ)
theorem SCode.block {id : Nat} {x : Code} {e1 : Env} {df1 : List Df} {σ1 : St} (h : SCode P ro rd fn x e df σ ⟨.exit id, e1, df1, σ1⟩) : SCode P ro rd fn (.block id x) e df σ ⟨.normal, e1, df1, σ1⟩ := by
  refine .mk h.1 (by simp) fun N hN F ι a w Q hF hi he hd hQ => wpIn_block (h.wp hN hF hi he hd ?_)
  intro a1 w1 ι1 ch1 i1 l1 e1' d1 p1
  simp only [exOf, Exit.inBlock, if_pos]
  exact hQ a1 w1 ι1 ch1 i1 l1 e1' d1 trivial
theorem SCode.loop {x : Code} {e1 : Env} {df1 : List Df} {σ1 : St} (h : SCode P ro rd fn x e df σ ⟨.normal, e1, df1, σ1⟩) (k : SCode P ro rd fn (.loop x) e1 df1 σ1 cr) : SCode P ro rd fn (.loop x) e df σ cr := by
  obtain ⟨hn, m0, k⟩ := k
  refine ⟨Nat.le_trans h.1 hn, m0 + 1, fun m hm N hN F ι a w Q hF hi he hd hQ => ?_⟩
  obtain ⟨m, rfl⟩ : ∃ q, m = q + 1 := ⟨m - 1, by omega⟩
  show Code.roundsIn F 0 P x Q (m + 1) a w
  rw [roundsIn_succ]
  have hn1 : σ1.n ≤ N := Nat.le_trans hn hN
  refine h.wp hn1 hF hi he hd ?_
  intro a1 w1 ι1 ch1 i1 l1 e1' d1 p1
  exact k m (by omega) N hN F ι1 a1 w1 Q (hF.mono l1.ext) i1 e1' d1 (hQ.from hi l1 hn1)
theorem SCode.scope {x : Code} (h : SCode P ro rd fn x e df σ cr) (hx : ∀ l, cr.ex ≠ .goto l) : SCode P ro rd fn (.scope x) e df σ cr := by
  refine .mk h.1 (by simp) fun N hN F ι a w Q hF hi he hd hQ => wpIn_scope (h.wp hN hF hi he hd ?_)
  intro a1 w1 ι1 ch1 i1 l1 e1' d1 p1
  have := hQ a1 w1 ι1 ch1 i1 l1 e1' d1 p1
  cases hc : cr.ex <;> rw [hc] at this <;> first | exact absurd hc (hx _) | exact this
theorem SCode.region {id : Nat} {ops : Array Oper} (h : SOps P ro rd ops ops.toList e df σ cr) : SCode P ro rd fn (.region id ops false) e df σ cr := by
  refine .mk h.1 (by simp) fun N hN F ι a w Q hF hi he hd hQ => wpIn_region ?_
  have := h.2 N hN F ι a w Q 0 (by simp) hF hi he hd hQ
  rw [List.range_eq_range']
  simpa using this
variable {ops : Array Oper} {o : Oper} {l : List Oper}
theorem SOps.nil : SOps P ro rd ops [] e df σ ⟨.normal, e, df, σ⟩ :=
  ⟨Nat.le_refl _, fun _ _ _ ι a w _ _ _ _ hi he hd hQ => hQ a w ι [] hi (Le.refl _ _ _ _) he hd trivial⟩
theorem SOps.cons (hn : σ.n ≤ cr.σ.n) (hw : wantedI o ops e = true)
    (h : ∀ N, cr.σ.n ≤ N → ∀ F ι a w Q k, ops.toList.drop (k + 1) = l → FOk F rd ι → Inv N ι σ w → EnvR ι e a.tmps → DfL ι df a.defers → Post N ro ι w σ cr Q →
      o.wpIn F 0 P a w (wpOpsIn F 0 P ops Q (List.range' (k + 1) l.length)) Q) : SOps P ro rd ops (o :: l) e df σ cr := by
  refine ⟨hn, fun N hN F ι a w Q k hl hF hi he hd hQ => ?_⟩
  have hrest : ops.toList.drop (k + 1) = l := by
    rw [← List.drop_drop (i := 1) (j := k), hl]; rfl
  have hok : ops[k]? = some o := by
    have : (ops.toList.drop k)[0]? = some o := by rw [hl]; rfl
    simpa using this
  simp only [List.length_cons, List.range'_succ]
  rw [wpOpsIn_cons]
  unfold wpOpIn
  rw [hok]
  simp only
  rw [wanted_eq he, if_pos hw]
  exact h N hN F ι a w Q k hrest hF hi he hd hQ
theorem SOps.skip (hw : wantedI o ops e = false) (h : SOps P ro rd ops l (e.put o.dst .undef) df σ cr) : SOps P ro rd ops (o :: l) e df σ cr := by
  refine ⟨h.1, fun N hN F ι a w Q k hl hF hi he hd hQ => ?_⟩
  have hrest : ops.toList.drop (k + 1) = l := by
    rw [← List.drop_drop (i := 1) (j := k), hl]; rfl
  have hok : ops[k]? = some o := by
    have : (ops.toList.drop k)[0]? = some o := by rw [hl]; rfl
    simpa using this
  simp only [List.length_cons, List.range'_succ]
  rw [wpOpsIn_cons]
  unfold wpOpIn
  rw [hok]
  simp only
  rw [wanted_eq he, hw, if_neg (by simp)]
  exact ⟨fun f _ => hF.fn f, h.2 N hN F ι _ w Q (k + 1) hrest hF hi (he.put rv_undef _) (by cases o.dst <;> exact hd) hQ⟩
theorem SOps.val {v : IV} {σ1 : St} (hw : wantedI o ops e = true) (hv : evOp P ro (evalI e) o σ = some (.val v σ1)) (h : SOps P ro rd ops l (e.put o.dst v) df σ1 cr) : SOps P ro rd ops (o :: l) e df σ cr := by
  refine .cons (Nat.le_trans (op_grown hv) h.1) hw fun N hN F ι a w Q k hl hF hi he hd hQ => ?_
  have hn1 : σ1.n ≤ N := Nat.le_trans h.1 hN
  refine ⟨fun f _ => hF.fn f, ?_⟩
  rw [Oper.semAt_eq _ _ _ (op_noDefer hv (by simp))]
  obtain ⟨u, w', ι', hr, h2, h3, h4⟩ := op_ok hi he.eval hv hn1
  have key : wpOpsIn F 0 P ops Q (List.range' (k + 1) l.length) (a.put o.dst u) w' :=
    h.2 N hN F ι' _ w' Q (k + 1) hl (hF.mono h4.ext) h3 ((he.mono h4.ext).put h2 _) (hd.mono h4.ext |> fun x => by cases o.dst <;> exact x) (hQ.from hi h4 hn1)
  rcases hr with hr | ⟨hr, rfl⟩
  · rw [hr, Oper.uponIn_value]; exact key
  · rw [hr, Oper.uponIn_skip]; exact key
theorem SOps.call {f : FuncId} {args : List IV} {v : IV} {σ1 : St} (hw : wantedI o ops e = true) (hv : evOp P ro (evalI e) o σ = some (.enter f args)) (hc : SCall P ro f args σ v σ1)
    (h : SOps P ro rd ops l (e.put o.dst v) df σ1 cr) : SOps P ro rd ops (o :: l) e df σ cr := by
  refine .cons (Nat.le_trans hc.1 h.1) hw fun N hN F ι a w Q k hl hF hi he hd hQ => ?_
  have hn1 : σ1.n ≤ N := Nat.le_trans h.1 hN
  refine ⟨fun f _ => hF.fn f, ?_⟩
  rw [Oper.semAt_eq _ _ _ (op_noDefer hv (by simp))]
  obtain ⟨us, hr, h3⟩ := op_ok hi he.eval hv
  rw [hr, Oper.uponIn_enter]
  refine ⟨hF.depth, (hF.calls (hc.2 N hn1 ι us w hi h3)).mono fun ed w' hR => ?_⟩
  cases ed with
  | returned u =>
    obtain ⟨ι', h2, h3, h4⟩ := hR
    exact h.2 N hN F ι' _ w' Q (k + 1) hl (hF.mono h4.ext) h3 ((he.mono h4.ext).put h2 _) (hd.mono h4.ext |> fun x => by cases o.dst <;> exact x) (hQ.from hi h4 hn1)
  | outgrown => exact hR.elim
  | panicked chain => exact hR.elim
theorem SOps.pan {f : FuncId} {args : List IV} {v : IV} {σ1 : St} (hw : wantedI o ops e = true) (hv : evOp P ro (evalI e) o σ = some (.enter f args)) (hc : SPan P ro f args σ v σ1) :
    SOps P ro rd ops (o :: l) e df σ ⟨.pan v, e, df, σ1⟩ := by
  refine .cons hc.1 hw fun N hN F ι a w Q k hl hF hi he hd hQ => ?_
  refine ⟨fun f _ => hF.fn f, ?_⟩
  rw [Oper.semAt_eq _ _ _ (op_noDefer hv (by simp))]
  obtain ⟨us, hr, h3⟩ := op_ok hi he.eval hv
  rw [hr, Oper.uponIn_enter]
  refine ⟨hF.depth, (hF.calls (hc.2 N hN ι us w hi h3)).mono fun ed w' hR => ?_⟩
  cases ed with
  | returned u => exact hR.elim
  | outgrown => exact hR.elim
  | panicked chain =>
    obtain ⟨ι', h4, h5, h6⟩ := hR
    exact hQ a w' ι' chain h5 h6 (he.mono h6.ext) (hd.mono h6.ext) h4
theorem SOps.panic {v : IV} (hw : wantedI o ops e = true) (hv : evOp P ro (evalI e) o σ = some (.pan v)) : SOps P ro rd ops (o :: l) e df σ ⟨.pan v, e, df, σ⟩ := by
  refine .cons (Nat.le_refl _) hw fun N hN F ι a w Q k hl hF hi he hd hQ => ?_
  refine ⟨fun f _ => hF.fn f, ?_⟩
  rw [Oper.semAt_eq _ _ _ (op_noDefer hv (by simp))]
  obtain ⟨u, hr, h3⟩ := op_ok hi he.eval hv
  rw [hr, Oper.uponIn_panic]
  exact hQ a w ι [{ v := u, recovered := false }] hi (Le.refl _ _ _ _) he hd ⟨u, rfl, h3⟩
theorem SOps.defer {d : Df} (hw : wantedI o ops e = true) (hv : evOp P ro (evalI e) o σ = some (.dfr d)) (h : SOps P ro none ops l (e.put o.dst .undef) (d :: df) σ cr) : SOps P ro none ops (o :: l) e df σ cr := by
  refine .cons h.1 hw fun N hN F ι a w Q k hl hF hi he hd hQ => ?_
  have hFe : F = Fence.wide := by
    rcases hF with ⟨_, h2⟩ | ⟨_, _, h2, _⟩
    · exact h2
    · cases h2
  refine ⟨fun f _ => hF.fn f, ?_⟩
  obtain ⟨dd, hr, hdd, c, hc⟩ := op_ok hi he.eval hv
  have hsem : (o.semAt F.round a.eval) = execOp a.eval o := by rw [hFe]; rfl
  rw [hsem, hr, Oper.uponIn_defer]
  refine h.2 N hN F ι _ w Q (k + 1) hl hF hi ?_ ?_ hQ
  · cases hdst : o.dst with
    | none => exact he
    | some t => exact he.set rv_undef t
  · cases o.dst <;> exact ⟨hdd, hd⟩
end Go.Ev
