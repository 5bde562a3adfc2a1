/- A part of the verified evaluator of closed runs (EvOps8): lemmas and definitions over the model, without conditions of their own. -/
import Derived.Test.YtcapkpeaofppnaaGreatDoorEvOps7
namespace Go.Ev
variable {P : Program} {N ro : Nat} {ι : Io} {w : World} {σ : St} {ρ : Operand → IV} {r : Operand → Value} {o : Oper} {out : OpOut}

theorem exec_builtin {c : Call} {b : Builtin} (ho : o.op = .call c) (hb : c.callee = .builtin b) :
    execOp r o = builtin b c.argTypes o.type (c.args.map fun | .const _ => true | _ => false) (c.args.map r) := by
  simp only [execOp, ho, resolve, hb]
  rfl

/-- A builtin's outcome. -/
def BOk (P : Program) (ro : Nat) (N : Nat) (ι : Io) (w : World) (σ : St) (s : Sem Next) (out : OpOut) : Prop :=
  ∃ v σ', out = .val v σ' ∧ (σ'.n ≤ N → Gives ro N ι w σ (s.run P w) v σ')

theorem BOk.ofV {s : Sem Value} {v : IV} {σ' : St} (h : σ'.n ≤ N → GivesV P ro N ι w σ s v σ') : BOk P ro N ι w σ (do pure (.value (← s))) (.val v σ') := by
  refine ⟨v, σ', rfl, fun hN => ?_⟩
  obtain ⟨u, w', ι', h1, h2, h3, h4⟩ := h hN
  exact ⟨u, w', ι', .inl (by simp only [Sem.run_bind, h1, Result.andThen_ok, Sem.run_pure]), h2, h3, h4⟩
theorem BOk.same {s : Sem Value} {v : IV} {u : Value} (hi : Inv N ι σ w) (h : s.run P w = .ok u w) (hr : Rv ι v u) : BOk P ro N ι w σ (do pure (.value (← s))) (.val v σ) :=
  BOk.ofV fun _ => ⟨u, w, ι, h, hr, hi, Le.refl _ _ _ _⟩

theorem rvl_one {x : IV} {vs : List Value} (h : RvL ι [x] vs) : ∃ v, vs = [v] ∧ Rv ι x v := by
  obtain ⟨v, vs', rfl, h1, h2⟩ := h.uncons
  exact ⟨v, by rw [h2.of_nil], h1⟩
theorem rvl_two {x y : IV} {vs : List Value} (h : RvL ι [x, y] vs) : ∃ v u, vs = [v, u] ∧ Rv ι x v ∧ Rv ι y u := by
  obtain ⟨v, vs', rfl, h1, h2⟩ := h.uncons
  obtain ⟨u, rfl, h3⟩ := rvl_one h2
  exact ⟨v, u, rfl, h1, h3⟩

theorem lenB_ok {argTypes : Array TypeId} {ty : TypeId} {x v : IV} {u : Value} (hi : Inv N ι σ w) (hr : Rv ι x u) (h : lenB P argTypes x σ = some v) : ∃ z, (Builtin.len_ argTypes ty #[u]).run P w = .ok z w ∧ Rv ι v z := by
  unfold lenB at h
  cases hta : argTypes[0]? with
  | none => simp [hta] at h
  | some t =>
    rw [hta, Option.bind_some] at h
    have e1 : (#[u] : Array Value)[0]? = some u := rfl
    unfold Builtin.len_
    rw [hta, e1]
    split at h
    · rename_i hu; cases h; cases hr
      exact ⟨_, by simp only [Sem.run_bind, run_und hu, Result.andThen_ok, Sem.run_pure, goInt], .raw _⟩
    · rename_i hu; cases h; cases hr
      exact ⟨_, by simp only [Sem.run_bind, run_und hu, Result.andThen_ok, Sem.run_pure, goInt]; rfl, .raw _⟩
    · rename_i hu; cases h; cases hr <;>
      exact ⟨_, by simp only [Sem.run_bind, run_und hu, Result.andThen_ok, Sem.run_pure, goInt] <;> rfl, .raw _⟩
    · rename_i hu; cases h; cases hr
      exact ⟨_, by simp only [Sem.run_bind, run_und hu, Result.andThen_ok, Sem.run_pure, goInt], .raw _⟩
    · rename_i hu; cases h; cases hr
      exact ⟨_, by simp only [Sem.run_bind, run_und hu, Result.andThen_ok, Sem.run_pure, goInt], .raw _⟩
    · rename_i hu; cases h; cases hr
      exact ⟨_, by simp only [Sem.run_bind, run_und hu, Result.andThen_ok, Sem.run_pure, goInt], .raw _⟩
    · rename_i id hu
      split at h
      · rename_i es clock hat
        cases h
        cases hr with
        | map _ l hl =>
          obtain ⟨l', res, hl', hh, he⟩ := hi.obj id _ hat
          rw [hl] at hl'; cases hl'
          have : (getObj l.b).run P w = .ok (.map res clock) w := by simp [getObj, Sem.run, hh]
          refine ⟨.int .i64 res.size, ?_, ?_⟩
          · simp only [Sem.run_bind, run_und hu, Result.andThen_ok, this, Sem.run_pure, goInt]
          · rw [← he.1]; exact .raw _
      · cases h
    · rename_i n e hu; cases h
      exact ⟨.int .i64 n, by simp only [Sem.run_bind, run_und hu, Result.andThen_ok]; rfl, .raw _⟩
    · cases h

theorem capB_ok {argTypes : Array TypeId} {ty : TypeId} {x v : IV} {u : Value} (hr : Rv ι x u) (h : capB P argTypes x = some v) : ∃ z, (Builtin.cap_ argTypes ty #[u]).run P w = .ok z w ∧ Rv ι v z := by
  unfold capB at h
  cases hta : argTypes[0]? with
  | none => simp [hta] at h
  | some t =>
    rw [hta, Option.bind_some] at h
    have e1 : (#[u] : Array Value)[0]? = some u := rfl
    unfold Builtin.cap_
    rw [hta, e1]
    split at h
    · rename_i c _ _ hu; cases h
      cases hr with
      | sl _ _ _ _ _ _ l c' a hl hn hlim hs0 hle hcap ha =>
        obtain ⟨rfl, _⟩ := hcap _ rfl
        exact ⟨_, by simp only [Sem.run_bind, run_und hu, Result.andThen_ok, Sem.run_pure, goInt], .raw _⟩
    · rename_i hu; cases h; cases hr
      exact ⟨_, by simp only [Sem.run_bind, run_und hu, Result.andThen_ok, Sem.run_pure, goInt]; rfl, .raw _⟩
    · rename_i hu; cases h; cases hr
      exact ⟨_, by simp only [Sem.run_bind, run_und hu, Result.andThen_ok, Sem.run_pure, goInt], .raw _⟩
    · rename_i n e hu; cases h
      exact ⟨.int .i64 n, by simp only [Sem.run_bind, run_und hu, Result.andThen_ok]; rfl, .raw _⟩
    · cases h

theorem run_getObj {b : Nat} {ob : Go.Obj} (h : w.heap[b]? = some ob) (hc : ∀ c e f, ob ≠ .cells c e f) : (getObj b).run P w = .ok ob w := by
  simp only [getObj, Sem.run, h]
theorem run_setObj {b : Nat} {ob ob' : Go.Obj} (h : w.heap[b]? = some ob) (hc : ∀ c e f, ob ≠ .cells c e f) : (setObj b ob').run P w = .ok () { w with heap := w.heap.setIfInBounds b ob' } := by
  simp only [setObj, Sem.run, h]

/-- An object that is no row of cells is laid anew in its place. -/
theorem Inv.setObj' (hi : Inv N ι σ w) {id : Nat} {ob ob' : Ob} {l : Loc} {go : Go.Obj} (hat : σ.at id = some ob) (hro : ro ≤ id) (hl : ι id 0 = some l) (hob : ObjRel ι { w with heap := w.heap.setIfInBounds l.b go } id ob') :
    Inv N ι (σ.put id ob') { w with heap := w.heap.setIfInBounds l.b go } ∧ Le ro ι w σ ι { w with heap := w.heap.setIfInBounds l.b go } (σ.put id ob') := by
  refine hi.put hat hro ⟨_, _, hl⟩ (Ext.refl _) (fun _ _ _ => rfl) (fun b hb => .inl hb) (by simp) (fun b _ hno => ?_) rfl rfl rfl hob
  have : l.b ≠ b := fun e => hno ⟨0, l, hl, e⟩
  simp [this]

theorem clearB_ok {argTypes : Array TypeId} {ty : TypeId} {x : IV} {u : Value} (hi : Inv N ι σ w) (hr : Rv ι x u) (h : clearB P ro argTypes x σ = some out) :
    ∃ v σ', out = .val v σ' ∧ (σ'.n ≤ N → GivesV P ro N ι w σ (Builtin.clear_ argTypes ty #[u]) v σ') := by
  unfold clearB at h
  cases hta : argTypes[0]? with
  | none => simp [hta] at h
  | some t =>
    rw [hta, Option.bind_some] at h
    have e1 : (#[u] : Array Value)[0]? = some u := rfl
    have idle : ∀ {d : TypeDesc}, P.underlying t = some d → (∃ l c, u = .slice none l c) ∨ u = .map none ∨ (∃ a c, u = .slice a 0 c) →
        GivesV P ro N ι w σ (Builtin.clear_ argTypes ty #[u]) .undef σ := by
      intro d hu hc
      unfold Builtin.clear_
      rw [hta, e1]
      refine ⟨.tuple #[], w, ι, ?_, .raw _, hi, Le.refl _ _ _ _⟩
      rcases hc with ⟨l, c, rfl⟩ | rfl | ⟨a, c, rfl⟩
      · simp only [Sem.run_bind, run_und hu, Result.andThen_ok]
        cases d <;> rfl
      · simp only [Sem.run_bind, run_und hu, Result.andThen_ok]
        cases d <;> rfl
      · cases a <;> (simp only [Sem.run_bind, run_und hu, Result.andThen_ok]; cases d <;> rfl)
    split at h
    · rename_i hu; obtain rfl := ret_val h; cases hr
      exact ⟨_, _, rfl, fun _ => idle hu (.inl ⟨_, _, rfl⟩)⟩
    · rename_i hu; obtain rfl := ret_val h; cases hr
      exact ⟨_, _, rfl, fun _ => idle hu (.inr (.inl rfl))⟩
    · rename_i hu; obtain rfl := ret_val h; cases hr
      exact ⟨_, _, rfl, fun _ => idle hu (.inr (.inr ⟨_, _, rfl⟩))⟩
    · rename_i id hu
      split at h
      · rename_i es clock hat
        split at h
        · rename_i hro
          obtain rfl := ret_val h
          refine ⟨_, _, rfl, fun hN => ?_⟩
          unfold Builtin.clear_
          rw [hta, e1]
          cases hr with
          | map _ l hl =>
            obtain ⟨l', res, hl', hh, he⟩ := hi.obj id _ hat
            rw [hl] at hl'; cases hl'
            have hlt : l.b < w.heap.size := hi.bnd id _ ⟨_, _, hl, rfl⟩
            obtain ⟨h1, h2⟩ := hi.setObj' (ro := ro) (ob' := .map [] clock) (go := .map #[] clock) hat hro hl ⟨l, #[], hl, by simp [hlt], by simp, fun i e r h => by simp at h⟩
            refine ⟨.tuple #[], _, ι, ?_, .raw _, h1, h2⟩
            simp only [Sem.run_bind, run_und hu, Result.andThen_ok, run_getObj (P := P) hh (by simp), run_setObj (P := P) hh (by simp), Sem.run_pure]
        · cases h
      · cases h
    · rename_i elem id off len cap ep s hu
      split at h
      · rename_i h0
        obtain rfl := ret_val h
        subst h0
        cases hr with
        | sl _ _ _ _ _ _ l c' a hl hn hlim hs0 hle hcap ha => exact ⟨_, _, rfl, fun _ => idle hu (.inr (.inr ⟨_, _, rfl⟩))⟩
      · rename_i h0
        split at h
        · rename_i cs cep mn hat
          split at h
          · rename_i z hz
            split at h
            · rename_i hc
              obtain ⟨hs, hzs, hok, hro, rfl, hoff⟩ := hc
              obtain rfl := ret_val h
              refine ⟨_, _, rfl, fun hN => ?_⟩
              unfold Builtin.clear_
              rw [hta, e1]
              cases hr with
              | sl _ _ _ _ _ _ l c' a hl hn hlim hs0 hle hcap ha =>
                have hrc := rvl_cycle (ι := ι) z s len hzs hs
                have hlc := len_cycle z s len hzs
                obtain ⟨l2, cc, el, hl2, hcb, hlt, r1, r2⟩ := hi.write (ro := ro) (off := off) hat hro (by rw [hrc.1, hlc]; exact hoff) hrc
                rw [hl] at hl2; cases hl2
                have hea := ha (by omega)
                subst hea
                refine ⟨.tuple #[], _, ι, ?_, .raw _, r1, r2⟩
                have hzc : Builtin.zeroCells z.cells len = ((List.replicate len z.cells.toList).flatten).toArray := by
                  unfold Builtin.zeroCells
                  have := zero_row z.cells s len hzs hs
                  rwa [← hzs] at this
                simp only [Sem.run_bind, run_und hu, Result.andThen_ok]
                simp only [run_zero hz, Result.andThen_ok, hzc, run_store_cells (P := P) hcb hlt (oneCell_ok hrc hok), Sem.run_pure]
            · cases h
          · cases h
        · cases h
    · cases h

theorem copyB_ok {argTypes : Array TypeId} {ty : TypeId} {d s : IV} {vd vs : Value} (hi : Inv N ι σ w) (hd : Rv ι d vd) (hs : Rv ι s vs) (h : copyB P ro argTypes d s σ = some out) :
    ∃ v σ', out = .val v σ' ∧ (σ'.n ≤ N → GivesV P ro N ι w σ (Builtin.copy_ argTypes ty #[vd, vs]) v σ') := by
  unfold copyB at h
  cases hta : argTypes[0]? with
  | none => simp [hta] at h
  | some t =>
    rw [hta, Option.bind_some] at h
    split at h
    · rename_i elem hu
      split at h
      · rename_i size dl sl hsz hdl hsl
        split at h
        · rename_i new hnew
          split at h
          · cases h
          · rename_i hc
            have hlen : new.length = Nat.min sl dl * size := Classical.byContradiction fun e => hc (.inl e)
            have hok : new.all cellOk = true := by cases hb : new.all cellOk with | true => rfl | false => exact absurd (.inr hb) hc
            obtain ⟨vals, hfc, hrv⟩ := firstC_ok (P := P) hi hnew hs
            have hlv := lenI_ok (P := P) hsl hs w
            have e0 : (#[vd, vs] : Array Value)[0]? = some vd := rfl
            have e1 : (#[vd, vs] : Array Value)[1]? = some vs := rfl
            have run : ∀ {base : Option Addr} {cap : Nat}, vd = .slice base dl cap → (Builtin.copy_ argTypes ty #[vd, vs]).run P w =
                ((match base with | some a => (storeCells a vals).run P w | none => .ok () w).andThen fun _ w' => .ok (.int .i64 (Nat.min sl dl)) w') := by
              intro base cap hv
              unfold Builtin.copy_
              rw [hta, e0, e1]
              subst hv
              simp only [Sem.run_bind, run_und hu, Result.andThen_ok, hlv, run_size hsz, hfc w rfl]
              cases base <;> simp [goInt]
            split at h
            · obtain rfl := ret_val h
              refine ⟨_, _, rfl, fun _ => ?_⟩
              have h0 : dl = 0 := by simp [lenI] at hdl; exact hdl.symm
              subst h0
              cases hd
              exact ⟨_, w, ι, run rfl, .raw _, hi, Le.refl _ _ _ _⟩
            · obtain rfl := ret_val h
              refine ⟨_, _, rfl, fun _ => ?_⟩
              have h0 : dl = 0 := by simp [lenI] at hdl; exact hdl.symm
              subst h0
              cases hd with
              | emp a =>
                have hv0 : vals = [] := List.eq_nil_of_length_eq_zero (by have := hrv.1; have : Nat.min sl 0 = 0 := Nat.min_zero sl; rw [this] at hlen; omega)
                subst hv0
                exact ⟨_, w, ι, (run rfl).trans (by simp [storeCells]), .raw _, hi, Le.refl _ _ _ _⟩
            · rename_i id off len cap ep st
              have h0 : len = dl := by simp [lenI] at hdl; exact hdl
              subst h0
              cases hd with
              | sl _ _ _ _ _ _ l c' a hl hn hlim hs0 hle hcap ha =>
                split at h
                · rename_i hz
                  obtain rfl := ret_val h
                  refine ⟨_, _, rfl, fun _ => ?_⟩
                  have hv0 : vals = [] := List.eq_nil_of_length_eq_zero (by have := hrv.1; rw [hz] at hlen; omega)
                  subst hv0
                  refine ⟨.int .i64 (Nat.min sl len), w, ι, (run rfl).trans (by simp [storeCells]), ?_, hi, Le.refl _ _ _ _⟩
                  rw [hz]; exact .raw _
                · rename_i hz
                  split at h
                  · rename_i cs cep mn hat
                    split at h
                    · rename_i hcc
                      obtain ⟨rfl, hro, rfl, hoff⟩ := hcc
                      obtain rfl := ret_val h
                      refine ⟨_, _, rfl, fun _ => ?_⟩
                      obtain ⟨l2, cc, el, hl2, hcb, hlt, r1, r2⟩ := hi.write (ro := ro) (off := off) hat hro (by rw [hlen]; exact hoff) hrv
                      rw [hl] at hl2; cases hl2
                      have hpos : 0 < len := by
                        rcases Nat.eq_zero_or_pos len with h | h
                        · subst h; exact absurd (Nat.min_zero sl) hz
                        · exact h
                      have hea := ha (by omega)
                      subst hea
                      refine ⟨_, _, ι, (run rfl).trans ?_, .raw _, r1, r2⟩
                      simp only [run_store_cells (P := P) hcb hlt (oneCell_ok hrv hok), Result.andThen_ok]
                    · cases h
                  · cases h
            · cases h
        · cases h
      · cases h
    · cases h
end Go.Ev
