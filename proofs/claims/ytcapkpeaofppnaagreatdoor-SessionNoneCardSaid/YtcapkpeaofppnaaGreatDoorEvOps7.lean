/- A part of the verified evaluator of closed runs (EvOps7): lemmas and definitions over the model, without conditions of their own. -/
import Derived.Test.YtcapkpeaofppnaaGreatDoorEvOps6
namespace Go.Ev
variable {P : Program} {N ro : Nat} {ι : Io} {w : World} {σ : St} {ρ : Operand → IV} {r : Operand → Value} {o : Oper} {out : OpOut}

/-- A bound as the model has it. -/
def Bd : Option Nat → Option Value → Prop
  | none, v => v = none
  | some n, v => ∃ k i, v = some (.int k i) ∧ 0 ≤ i ∧ i.toNat = n

theorem numI_ok {x : Option Operand} {q : Option Nat} (h : numI (x.map ρ) = some q) (hr : ∀ y, x = some y → Rv ι (ρ y) (r y)) : Bd q (x.map r) := by
  cases x with
  | none => simp [numI] at h; subst h; rfl
  | some y =>
    have hy := hr y rfl
    simp only [Option.map_some, numI] at h
    split at h
    · rename_i he; cases he
    · rename_i k i he
      simp only [Option.some.injEq] at he
      split at h
      · rename_i h0
        cases h
        exact ⟨k, i, by simp [rv_raw he hy], h0, rfl⟩
      · cases h
    · cases h

theorem run_bound {v : Value} {n y : Nat} {code : BoundsCode} (h : ∃ k i, v = .int k i ∧ 0 ≤ i ∧ i.toNat = n) (hle : n ≤ y) (w : World) : (Instr.sliceBound v y code).run P w = .ok n w := by
  obtain ⟨k, i, rfl, h0, h1⟩ := h
  have : i ≤ (y : Int) := by omega
  simp [Instr.sliceBound, asIntOf, h0, this, h1]

theorem run_bounds {isSlice : Bool} {len cap : Nat} {lo hi mx : Option Value} {ql qh qm : Option Nat} (hl : Bd ql lo) (hh : Bd qh hi) (hm : Bd qm mx) (hmh : ¬ (qm.isSome = true ∧ qh.isSome = false))
    (h1 : qm.getD cap ≤ cap) (h2 : ∀ h, qh = some h → h ≤ qm.getD cap) (h3 : ql.getD 0 ≤ qh.getD len) (w : World) :
    (Instr.sliceBounds isSlice len cap lo hi mx).run P w = .ok (ql.getD 0, qh.getD len, qm.getD cap) w := by
  have fin : ∀ (h m : Nat) (code : BoundsCode), ql.getD 0 ≤ h → Sem.run P (match lo with
      | some v => do
        let l ← Instr.sliceBound v h code
        pure (l, h, m)
      | none => do
        let l ← pure 0
        pure (l, h, m)) w = .ok (ql.getD 0, h, m) w := by
    intro h m code hle
    cases ql with
    | none => cases hl; rfl
    | some l =>
      obtain ⟨k, i, rfl, h0, h1⟩ := hl
      simp only [Sem.run_bind, run_bound (P := P) (v := .int k i) (n := l) (y := h) (code := code) ⟨k, i, rfl, h0, h1⟩ hle w, Result.andThen_ok, Sem.run_pure, Option.getD_some]
  unfold Instr.sliceBounds
  cases qm with
  | none =>
    cases hm
    cases qh with
    | none =>
      cases hh
      simp only [Sem.run_bind, Sem.run_pure, Result.andThen_ok, Option.getD_none]
      exact fin len cap _ h3
    | some h =>
      obtain ⟨k, i, rfl, h0, h4⟩ := hh
      have hb := run_bound (P := P) (v := .int k i) (n := h) (y := cap) (code := if isSlice then .sliceAcap else .sliceAlen) ⟨k, i, rfl, h0, h4⟩ (h2 h rfl) w
      simp only [Sem.run_bind, Sem.run_pure, Result.andThen_ok, hb, Option.getD_none, Option.getD_some]
      exact fin h cap _ h3
  | some m =>
    obtain ⟨km, im, rfl, hm0, hm1⟩ := hm
    have hbm := run_bound (P := P) (v := .int km im) (n := m) (y := cap) (code := if isSlice then .slice3Acap else .slice3Alen) ⟨km, im, rfl, hm0, hm1⟩ h1 w
    cases qh with
    | none => exact absurd ⟨rfl, rfl⟩ hmh
    | some h =>
      obtain ⟨k, i, rfl, h0, h4⟩ := hh
      have hb := run_bound (P := P) (v := .int k i) (n := h) (y := m) (code := .slice3B) ⟨k, i, rfl, h0, h4⟩ (h2 h rfl) w
      simp only [Sem.run_bind, Result.andThen_ok, hbm, hb, Option.getD_some]
      exact fin h m _ h3

theorem run_slice {t elem : TypeId} {sz len cap : Nat} {a : Option Addr} {lo hi mx : Option Value} {ql qh qm : Option Nat} (hu : P.underlying t = some (.slice elem)) (hs : sizeOf? P elem = some sz)
    (hl : Bd ql lo) (hh : Bd qh hi) (hm : Bd qm mx) (hmh : ¬ (qm.isSome = true ∧ qh.isSome = false)) (h1 : qm.getD cap ≤ cap) (h2 : ∀ h, qh = some h → h ≤ qm.getD cap) (h3 : ql.getD 0 ≤ qh.getD len) (w : World) :
    (Instr.sliceAt t (.slice a len cap) lo hi mx).run P w =
      .ok (.slice (if qm.getD cap = ql.getD 0 then a else a.map (·.add (ql.getD 0 * sz))) (qh.getD len - ql.getD 0) (qm.getD cap - ql.getD 0)) w := by
  have hb := run_bounds (P := P) (isSlice := true) hl hh hm hmh h1 h2 h3 w
  simp only [Instr.sliceAt, Sem.run_bind, run_und hu, Result.andThen_ok, Instr.slice, hb, run_size hs, Sem.run_pure]

theorem extract_eq (s : ByteArray) (l h : Nat) : (⟨((s.data.toList.drop l).take (h - l)).toArray⟩ : ByteArray) = s.extract l h := by
  apply ByteArray.ext
  apply Array.ext'
  simp [ByteArray.data_extract, List.extract_eq_take_drop]

theorem op_slice {t : TypeId} {x : Operand} {lo hi mx : Option Operand} (hi' : Inv N ι σ w) (hr : Rv ι (ρ x) (r x)) (hlo : ∀ y, lo = some y → Rv ι (ρ y) (r y)) (hhi : ∀ y, hi = some y → Rv ι (ρ y) (r y))
    (hmx : ∀ y, mx = some y → Rv ι (ρ y) (r y)) (ho : o.op = .slice t x lo hi mx) (h : evOp P ro ρ o σ = some out) : OutOk P ro N ι w σ r o out := by
  unfold evOp at h; rw [ho] at h; simp only at h
  split at h
  · rename_i v hv
    obtain rfl := ret_val h
    suffices hs : ∃ u, (Instr.sliceAt t (r x) (lo.map r) (hi.map r) (mx.map r)).run P w = .ok u w ∧ Rv ι v u by
      obtain ⟨u, h1, h2⟩ := hs
      exact OutOk.same hi' (u := u) (by simp [execOp, ho, h1]) h2
    generalize hq : r x = q at hr
    generalize hiq : ρ x = iq at hr hv
    unfold sliceI at hv
    split at hv
    · rename_i _ _ _ ql qh qm e1 e2 e3
      have bl := numI_ok e1 hlo
      have bh := numI_ok e2 hhi
      have bm := numI_ok e3 hmx
      clear e1 e2 e3
      split at hv
      · cases hv
      · rename_i hmh
        split at hv
        · rename_i hu
          split at hv
          · rename_i s
            split at hv
            · rename_i hc
              obtain ⟨rfl, h1, h2⟩ := hc
              cases hv; cases hr
              refine ⟨.string (s.extract (ql.getD 0) (qh.getD s.size)), ?_, by rw [extract_eq]; exact .raw _⟩
              have hb := run_bounds (P := P) (isSlice := false) (len := s.size) (cap := s.size) (mx := none) bl bh (qm := none) rfl (by simp) (Nat.le_refl _) (fun h hh => by subst hh; simpa using h2) h1 w
              have hmn : mx.map r = none := bm
              simp only [Instr.sliceAt, Sem.run_bind, run_und hu, Result.andThen_ok, Instr.slice, hmn, Option.isSome_none, Bool.false_eq_true, if_false, Sem.run_pure, hb]
            · cases hv
          · cases hv
        · rename_i elem hu
          split at hv
          · cases hv
          · rename_i sz hsz
            split at hv
            · split at hv
              · rename_i hc
                obtain ⟨h1, h2, h3⟩ := hc
                cases hv; cases hr
                have hb := run_slice (P := P) (a := none) (len := 0) (cap := 0) hu hsz bl bh bm hmh (by omega) (fun h hh => by subst hh; simp at h2; omega) (by omega) w
                rw [h1, h2, h3] at hb
                exact ⟨_, by simpa using hb, .raw _⟩
              · cases hv
            · split at hv
              · rename_i hc
                obtain ⟨h1, h2, h3⟩ := hc
                cases hv
                cases hr with
                | emp a =>
                  have hb := run_slice (P := P) (a := some a) (len := 0) (cap := 0) hu hsz bl bh bm hmh (by omega) (fun h hh => by subst hh; simp at h2; omega) (by omega) w
                  rw [h1, h2, h3] at hb
                  exact ⟨_, by simpa using hb, .emp a⟩
              · cases hv
            · rename_i id off len cap ep s
              split at hv
              · cases hv
              · rename_i hss
                have hss : sz = s := Classical.byContradiction hss
                subst hss
                cases hr with
                | sl _ _ _ _ _ _ l c a hl hn hlim hs0 hle hcap ha =>
                  have known : ∀ m : Nat, qm.getD c = m → m ≤ c → (off + m * sz ≤ l.n) → ql.getD 0 ≤ qh.getD len → qh.getD len ≤ m →
                      some v = some (if m = ql.getD 0 then .emp else .sl id (off + ql.getD 0 * sz) (qh.getD len - ql.getD 0) (some (m - ql.getD 0)) ep sz) →
                      ∃ u, (Instr.sliceAt t (.slice (some a) len c) (lo.map r) (hi.map r) (mx.map r)).run P w = .ok u w ∧ Rv ι v u := by
                    intro m e1 e2 e3 e4 e5 e6
                    have hb := run_slice (P := P) (a := some a) (len := len) (cap := c) hu hsz bl bh bm hmh (by omega) (fun h hh => by subst hh; simp only [Option.getD_some] at e5; omega) e4 w
                    rw [e1] at hb
                    refine ⟨_, hb, ?_⟩
                    by_cases hml : m = ql.getD 0
                    · rw [if_pos hml] at e6
                      cases e6
                      rw [if_pos hml, show qh.getD len - ql.getD 0 = 0 by omega, show m - ql.getD 0 = 0 by omega]
                      exact .emp a
                    · rw [if_neg hml] at e6
                      cases e6
                      rw [if_neg hml]
                      have hea := ha (by omega)
                      subst hea
                      simp only [Option.map_some, add_none]
                      have hm1 : ql.getD 0 * sz + (m - ql.getD 0) * sz = m * sz := by rw [← Nat.add_mul]; congr 1; omega
                      have hm2 : ql.getD 0 * sz + (qh.getD len - ql.getD 0) * sz = qh.getD len * sz := by rw [← Nat.add_mul]; congr 1; omega
                      have hm3 : qh.getD len * sz ≤ m * sz := Nat.mul_le_mul_right sz e5
                      have hm4 : m * sz ≤ c * sz := Nat.mul_le_mul_right sz e2
                      exact .sl _ _ _ _ _ _ l _ _ hl (by omega) (by omega) hs0 (by omega) (fun k hk => by cases hk; exact ⟨rfl, by omega⟩) (fun _ => rfl)
                  split at hv
                  · rename_i _ m
                    split at hv
                    · rename_i hc
                      obtain ⟨h1, h2, h3⟩ := hc
                      have hmn : m ≤ c ∧ off + m * sz ≤ l.n := by
                        cases cap with
                        | none =>
                          simp only [Option.getD_none] at h3
                          have : m * sz ≤ len * sz := Nat.mul_le_mul_right sz h3
                          exact ⟨by omega, by omega⟩
                        | some k =>
                          simp only [Option.getD_some] at h3
                          obtain ⟨hk, hk2⟩ := hcap k rfl
                          subst hk
                          have : m * sz ≤ c * sz := Nat.mul_le_mul_right sz h3
                          exact ⟨h3, by omega⟩
                      refine known m rfl hmn.1 hmn.2 h1 h2 ?_
                      rw [← hv]; split <;> rfl
                    · cases hv
                  · rename_i m
                    split at hv
                    · rename_i hc
                      obtain ⟨h1, h2⟩ := hc
                      obtain ⟨hk, hk2⟩ := hcap m rfl
                      subst hk
                      refine known c rfl (Nat.le_refl _) hk2 h1 h2 ?_
                      rw [← hv]; split <;> rfl
                    · cases hv
                  · split at hv
                    · rename_i hc
                      obtain ⟨h1, h2⟩ := hc
                      cases hv
                      have hb := run_slice (P := P) (a := some a) (len := len) (cap := c) hu hsz bl bh bm hmh (Nat.le_refl _) (fun h hh => by subst hh; simp only [Option.getD_some, Option.getD_none] at h2 ⊢; omega) h1 w
                      simp only [Option.getD_none] at hb
                      have hm1 : ql.getD 0 * sz + (c - ql.getD 0) * sz = c * sz := by rw [← Nat.add_mul]; congr 1; omega
                      have hm2 : ql.getD 0 * sz + (qh.getD len - ql.getD 0) * sz = qh.getD len * sz := by rw [← Nat.add_mul]; congr 1; omega
                      have hm3 : qh.getD len * sz ≤ len * sz := Nat.mul_le_mul_right sz h2
                      by_cases hcl : c = ql.getD 0
                      · rw [if_pos hcl] at hb
                        exact ⟨_, hb, .sl _ _ _ _ _ _ l _ _ hl (by omega) (by omega) hs0 (by omega) (fun k hk => by cases hk) (fun h0 => by omega)⟩
                      · rw [if_neg hcl] at hb
                        have hea := ha (by omega)
                        subst hea
                        simp only [Option.map_some, add_none] at hb
                        exact ⟨_, hb, .sl _ _ _ _ _ _ l _ _ hl (by omega) (by omega) hs0 (by omega) (fun k hk => by cases hk) (fun _ => rfl)⟩
                    · cases hv
            · rename_i s es
              split at hv
              · cases hv
              · rename_i hss
                have hss : sz = s := Classical.byContradiction hss
                subst hss
                cases hr with
                | tree _ _ b off c us hs0 hce hcs hu' hh =>
                  split at hv
                  · split at hv
                    · rename_i hc
                      obtain ⟨h1, h2⟩ := hc
                      cases hv
                      have hb := run_slice (P := P) (a := some ⟨b, off, none⟩) (len := es.length) (cap := c) hu hsz bl bh bm hmh (Nat.le_refl _) (fun h hh => by subst hh; simp only [Option.getD_some, Option.getD_none] at h2 ⊢; omega) h1 w
                      simp only [Option.getD_none] at hb
                      have hlen : ((es.take (qh.getD es.length)).drop (ql.getD 0)).length = qh.getD es.length - ql.getD 0 := by simp; omega
                      have hgen : ∀ bb oo, (c ≠ ql.getD 0 → bb = b ∧ oo = off + ql.getD 0 * sz) → Rv ι (.tree sz ((es.take (qh.getD es.length)).drop (ql.getD 0))) (.slice (some ⟨bb, oo, none⟩) (qh.getD es.length - ql.getD 0) (c - ql.getD 0)) := by
                        intro bb oo hbo
                        rw [← hlen]
                        refine .tree _ _ _ _ _ (fun k => us (ql.getD 0 * sz + k)) hs0 (by omega) (fun e he => hcs e (List.mem_of_mem_take (List.mem_of_mem_drop he))) (fun k hk => ?_) (fun i e j x he hx => ?_)
                        · rw [hlen] at hk
                          have hm1 : ql.getD 0 * sz + (qh.getD es.length - ql.getD 0) * sz = qh.getD es.length * sz := by rw [← Nat.add_mul]; congr 1; omega
                          have hm2 : qh.getD es.length * sz ≤ es.length * sz := Nat.mul_le_mul_right sz h2
                          have hne : c ≠ ql.getD 0 := by
                            intro hcl
                            have : qh.getD es.length - ql.getD 0 = 0 := by omega
                            rw [this] at hk; omega
                          obtain ⟨rfl, rfl⟩ := hbo hne
                          rw [show off + ql.getD 0 * sz + k = off + (ql.getD 0 * sz + k) by omega]
                          exact hu' _ (by omega)
                        · rw [List.getElem?_drop, List.getElem?_take] at he
                          split at he
                          · have := hh _ _ _ _ he hx
                            rwa [Nat.add_mul, Nat.add_assoc] at this
                          · cases he
                      by_cases hcl : c = ql.getD 0
                      · rw [if_pos hcl] at hb
                        exact ⟨_, hb, hgen b off (fun h => absurd hcl h)⟩
                      · rw [if_neg hcl] at hb
                        simp only [Option.map_some, add_none] at hb
                        exact ⟨_, hb, hgen b _ (fun _ => ⟨rfl, rfl⟩)⟩
                    · cases hv
                  · rename_i m
                    split at hv
                    · rename_i hc
                      obtain ⟨rfl, h1, h2⟩ := hc
                      cases hv
                      have hb := run_slice (P := P) (a := some ⟨b, off, none⟩) (len := es.length) (cap := c) hu hsz bl bh bm hmh (Nat.zero_le _) (fun h hh => by subst hh; simp only [Option.getD_some] at h2 ⊢; omega) (by omega) w
                      rw [h1, h2] at hb
                      exact ⟨_, by simpa using hb, .treeE _ _ _ hs0 (by simp)⟩
                    · cases hv
                | treeE _ a c hs0 hn =>
                  split at hv
                  · split at hv
                    · rename_i hc
                      obtain ⟨h1, h2⟩ := hc
                      cases hv
                      simp only [List.length_nil] at h1 h2
                      have hl0 : ql.getD 0 = 0 := by omega
                      have hh0 : qh.getD 0 = 0 := by omega
                      have hb := run_slice (P := P) (a := a) (len := 0) (cap := c) hu hsz bl bh bm hmh (Nat.le_refl _) (fun h hh => by subst hh; simp only [Option.getD_some, Option.getD_none] at hh0 ⊢; omega) (by omega) w
                      simp only [Option.getD_none, hl0, hh0] at hb
                      refine ⟨_, hb, ?_⟩
                      simp only [List.take_nil, List.drop_nil]
                      exact .treeE _ _ _ hs0 (fun hx => by
                        cases a with
                        | none => have := hn rfl; omega
                        | some a => split at hx <;> simp at hx)
                    · cases hv
                  · rename_i m
                    split at hv
                    · rename_i hc
                      obtain ⟨rfl, h1, h2⟩ := hc
                      cases hv
                      have hb := run_slice (P := P) (a := a) (len := 0) (cap := c) hu hsz bl bh bm hmh (Nat.zero_le _) (fun h hh => by subst hh; simp only [Option.getD_some] at h2 ⊢; omega) (by omega) w
                      simp only [List.length_nil] at h2
                      rw [h1, h2] at hb
                      exact ⟨_, by simpa using hb, .treeE _ _ _ hs0 (by simp)⟩
                    · cases hv
            · cases hv
        · rename_i n elem hu
          split at hv
          · rename_i id off ep ext s hs
            split at hv
            · rename_i hc
              obtain ⟨hs0, hne, rfl, h1, h2⟩ := hc
              cases hr with
              | ptr _ _ _ _ l hl hx =>
                have hb := run_bounds (P := P) (isSlice := false) (len := n) (cap := n) bl bh bm hmh (Nat.le_refl _) (fun h hh => by subst hh; simpa using h2) h1 w
                simp only [Option.getD_none] at hb
                have hrun : (Instr.sliceAt t (.pointer (some ⟨l.b, off, none⟩)) (lo.map r) (hi.map r) (mx.map r)).run P w =
                    .ok (.slice (some (if n = ql.getD 0 then ⟨l.b, off, none⟩ else (⟨l.b, off, none⟩ : Addr).add (ql.getD 0 * s))) (qh.getD n - ql.getD 0) (n - ql.getD 0)) w := by
                  simp only [Instr.sliceAt, Sem.run_bind, run_und hu, Result.andThen_ok, Instr.sureAddr, Sem.run_pure, hb, run_size hs]
                refine ⟨_, hrun, ?_⟩
                split at hv
                · rename_i hnl
                  cases hv
                  rw [if_pos hnl, show qh.getD n - ql.getD 0 = 0 by omega, show n - ql.getD 0 = 0 by omega]
                  exact .emp _
                · rename_i hnl
                  cases hv
                  rw [if_neg hnl, add_none]
                  have hm1 : ql.getD 0 * s + (n - ql.getD 0) * s = n * s := by rw [← Nat.add_mul]; congr 1; omega
                  have hm2 : ql.getD 0 * s + (qh.getD n - ql.getD 0) * s = qh.getD n * s := by rw [← Nat.add_mul]; congr 1; omega
                  have hm3 : qh.getD n * s ≤ n * s := Nat.mul_le_mul_right s h2
                  exact .sl _ _ _ _ _ _ l _ _ hl (by omega) (by omega) (by omega) (by omega) (fun k hk => by cases hk; exact ⟨rfl, by omega⟩) (fun _ => rfl)
            · cases hv
          · cases hv
        · cases hv
    · cases hv
  · cases h
end Go.Ev
