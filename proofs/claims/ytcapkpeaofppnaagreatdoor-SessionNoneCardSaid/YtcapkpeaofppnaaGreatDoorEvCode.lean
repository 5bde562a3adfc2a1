/- A part of the verified evaluator of closed runs (EvCode): lemmas and definitions over the model, without conditions of their own. -/
import Derived.Test.YtcapkpeaofppnaaGreatDoorEvMono
namespace Go.Ev
variable {P : Program} {N ro : Nat} {ι : Io} {w : World} {σ : St} {e : Env} {a : Act}

def EnvR (ι : Io) (e : Env) (ts : Array Value) : Prop := e.n = ts.size ∧ ∀ t, Rv ι (e.at t) (ts.getD t Go.undef)
def DfL (ι : Io) : List Df → List Deferred → Prop
  | [], [] => True
  | d :: ds, x :: xs => DfRel ι d x ∧ DfL ι ds xs
  | _, _ => False

theorem RvL.mono' {ι' : Io} (hι : Ext ι ι') {cs : List IV} {vs : List Value} (h : RvL ι cs vs) : RvL ι' cs vs := RvL.mono hι h
theorem EnvR.mono {ι' : Io} (hι : Ext ι ι') {ts : Array Value} (h : EnvR ι e ts) : EnvR ι' e ts := ⟨h.1, fun t => (h.2 t).mono hι⟩
theorem DfRel.mono {ι' : Io} (hι : Ext ι ι') {d : Df} {x : Deferred} (h : DfRel ι d x) : DfRel ι' d x := by
  cases d with
  | coll id => obtain ⟨l, h1, h2⟩ := h; exact ⟨l, hι _ _ _ h1, h2⟩
  | call f as => obtain ⟨cap, us, vs, h1, h2, h3⟩ := h; exact ⟨cap, us, vs, h1, h2.mono hι, h3⟩
theorem DfL.mono {ι' : Io} (hι : Ext ι ι') : ∀ {ds : List Df} {xs : List Deferred}, DfL ι ds xs → DfL ι' ds xs
  | [], [], _ => trivial
  | _ :: _, _ :: _, h => ⟨DfRel.mono hι h.1, DfL.mono hι h.2⟩
  | [], _ :: _, h => h.elim
  | _ :: _, [], h => h.elim
theorem DfL.nil {xs : List Deferred} (h : DfL ι [] xs) : xs = [] := by cases xs with | nil => rfl | cons => exact h.elim

theorem rv_undef : Rv ι .undef Go.undef := .raw _

theorem Env.at_put (e : Env) (d : Nat) (v : IV) (t : Nat) : (e.put (some d) v).at t = if d < e.n ∧ d = t then v else e.at t := by
  unfold Env.put
  simp only
  by_cases h : d < e.n
  · have hb : Nat.blt d e.n = true := by simpa [Nat.blt_eq] using h
    rw [hb]
    simp only [if_true, Env.at, T.get_set]
    by_cases hd : d = t
    · simp [hd]; intro h2; omega
    · simp [hd]
  · have hb : Nat.blt d e.n = false := by
      cases hc : Nat.blt d e.n with
      | false => rfl
      | true => exact absurd (by simpa using hc) h
    rw [hb]
    simp [h]
theorem Env.n_put (e : Env) (d : Option Nat) (v : IV) : (e.put d v).n = e.n := by
  cases d with
  | none => rfl
  | some d => simp only [Env.put]; split <;> rfl

theorem EnvR.set {ts : Array Value} {v : IV} {u : Value} (h : EnvR ι e ts) (hv : Rv ι v u) (d : Nat) : EnvR ι (e.put (some d) v) (ts.setIfInBounds d u) := by
  refine ⟨by rw [Env.n_put, h.1]; simp, fun t => ?_⟩
  rw [Env.at_put]
  have hs : (ts.setIfInBounds d u).getD t Go.undef = if d < ts.size ∧ d = t then u else ts.getD t Go.undef := by
    simp only [Array.getD_eq_getD_getElem?, Array.getElem?_setIfInBounds]
    by_cases hd : d = t
    · subst hd
      by_cases hl : d < ts.size
      · simp [hl]
      · simp [hl]
    · simp [hd]
  rw [hs, ← h.1]
  split
  · exact hv
  · exact h.2 t
theorem EnvR.put {v : IV} {u : Value} (h : EnvR ι e a.tmps) (hv : Rv ι v u) (dst : Option Tmp) : EnvR ι (e.put dst v) (a.put dst u).tmps := by
  cases dst with
  | none => exact h
  | some d => exact h.set hv d

theorem EnvR.eval (h : EnvR ι e a.tmps) (x : Operand) : Rv ι (evalI e x) (a.eval x) := by
  cases x with
  | tmp t => exact h.2 t
  | const v => exact Rv.lift v
  | global g => exact .raw _
  | func f => exact .raw _

theorem rv_bool {x : IV} {b : Bool} (h : Rv ι x (.bool b)) : x = .raw (.bool b) := by
  generalize hu : Value.bool b = u at h
  cases h <;> first | (cases hu; done) | (cases hu; rfl)

theorem wanted_eq {o : Oper} {ops : Array Oper} (h : EnvR ι e a.tmps) : Region.wanted o (yielded ops a.tmps) = wantedI o ops e := by
  unfold Region.wanted wantedI
  cases hg : o.guard with
  | none => rfl
  | some g =>
    obtain ⟨j, want⟩ := g
    simp only [yielded]
    cases hd : (ops[j]?).bind (·.dst) with
    | none => rfl
    | some d =>
      simp only [Option.bind_some]
      by_cases hl : d < e.n
      · have hb : Nat.blt d e.n = true := by simpa [Nat.blt_eq] using hl
        rw [hb]
        have hl' : d < a.tmps.size := by rw [← h.1]; exact hl
        have hr := h.2 d
        rw [Array.getD_eq_getD_getElem?, Array.getElem?_eq_getElem hl', Option.getD_some] at hr
        rw [Array.getElem?_eq_getElem hl']
        simp only [if_true]
        generalize a.tmps[d] = u at hr
        cases u with
        | bool b => rw [rv_bool hr]; simp
        | _ =>
          generalize e.at d = x at hr
          cases hr <;> rfl
      · have hb : Nat.blt d e.n = false := by
          cases hc : Nat.blt d e.n with
          | false => rfl
          | true => exact absurd (by simpa using hc) hl
        rw [hb]
        have hl' : ¬ d < a.tmps.size := by rw [← h.1]; exact hl
        rw [Array.getElem?_eq_none (Nat.le_of_not_lt hl')]
        rfl

def noGoto (Q : Exit → Act → World → Prop) : Exit → Act → World → Prop
  | .goto _, _, _ => False
  | e, a, w => Q e a w
section scope
variable {F : Fence} {n : Nat} {b : Frame} {k : List Item} {cs : List Frame} {Q : Exit → Act → World → Prop}
theorem stepR_scope {c : Code} : step P (lone (b.atR a (.code (.scope c) :: k)) cs w) = .next (lone (b.atR a (.code c :: .inScope c :: k)) cs w) :=
  step_lone_go (by simp [stepG, stepG.exec, Frame.atR])
theorem stepR_inScope {c : Code} : step P (lone (b.atR a (.inScope c :: k)) cs w) = .next (lone (b.atR a k) cs w) :=
  step_lone_go (by simp [stepG, stepG.exec, Frame.atR])
theorem wpIn_scope {c : Code} (h : c.wpIn F n P (noGoto Q) a w) : (Code.scope c).wpIn F n P Q a w := by
  intro b k cs hro hb hr
  have h0 : (lone (b.atR a (.code (.scope c) :: k)) cs w).fenced P F := fenced_calm hb hr rfl
  obtain ⟨e, a₁, w₁, hq, harr⟩ := h b (.inScope c :: k) cs hro hb hr
  cases e with
  | normal => exact ⟨.normal, a₁, w₁, hq, .head h0 stepR_scope (StepsIn.trans harr (.one (fenced_calm hb hr rfl) stepR_inScope))⟩
  | exit id =>
    have hx : exitTo id (.inScope c :: k) = exitTo id k := by simp [exitTo]
    exact ⟨.exit id, a₁, w₁, hq, fun k' hk => .head h0 stepR_scope (harr.1 k' (by rw [hx]; exact hk)),
      fun hr' hk => let ⟨k₁, h1, h2⟩ := harr.2 hr' (by rw [hx]; exact hk); ⟨k₁, h1, .head h0 stepR_scope h2⟩⟩
  | goto l => exact hq.elim
  | ret => exact ⟨_, a₁, w₁, hq, .of_steps (.one h0 stepR_scope) harr⟩
  | panic ch => exact ⟨_, a₁, w₁, hq, .of_steps (.one h0 stepR_scope) harr⟩
  | outgrown => exact ⟨_, a₁, w₁, hq, .of_steps (.one h0 stepR_scope) harr⟩
end scope

/-! ### The store does not shrink -/
def CodeMono (S : Self) : Prop := ∀ ro rd fn c e df σ cr, S.code ro rd fn c e df σ = some cr → σ.n ≤ cr.σ.n
structure CallMono (S : Self) : Prop where
  call : ∀ ro f args σ v σ', S.call ro f args σ = some (v, σ') → σ.n ≤ σ'.n
  pan : ∀ ro f args σ v σ', S.pan ro f args σ = some (v, σ') → σ.n ≤ σ'.n
  dcl : ∀ ro f args m σ m' σ', S.dcl ro f args m σ = some (m', σ') → σ.n ≤ σ'.n
variable {S : Self}

theorem round_mono (hc : CodeMono S) {l : Nat} {args : List IV} {v : IV} {σ' : St} (h : evRound S ro l args σ = some (v, σ')) : σ.n ≤ σ'.n := by
  unfold evRound at h
  split at h
  · split at h
    · cases h
    · simp only at h
      split at h
      · rename_i e1 σ1 h1
        split at h
        · split at h
          · rename_i ex e2 σ2 h2
            split at h
            · cases h
            split at h
            · cases h
              have := hc _ _ _ _ _ _ _ _ h1
              have := hc _ _ _ _ _ _ _ _ h2
              simp only [St.n_put] at *
              omega
            · cases h
          · cases h
        · cases h
      · cases h
  · cases h

theorem evX_mono (hc : CodeMono S) (hk : CallMono S) {o : Oper} {v : IV} {σ' : St} (h : evX P S ro e o σ = some (v, σ')) : σ.n ≤ σ'.n := by
  unfold evX at h
  split at h
  · rename_i v1 σ1 h1
    cases h
    exact op_grown h1
  · exact hk.call _ _ _ _ _ _ h
  · exact round_mono hc h
  · cases h

theorem ops_mono (hc : CodeMono S) (hk : CallMono S) {rd : Option Nat} {ops : Array Oper} : ∀ {l : List Oper} {e : Env} {df : List Df} {σ : St} {cr : CR}, evOps P S ro rd ops l e df σ = some cr → σ.n ≤ cr.σ.n
  | [], e, df, σ, cr, h => by cases h; exact Nat.le_refl _
  | o :: rest, e, df, σ, cr, h => by
    unfold evOps at h
    split at h
    · split at h
      · rename_i v σ1 h1
        exact Nat.le_trans (evX_mono hc hk h1) (ops_mono hc hk h)
      · split at h
        · split at h
          · exact ops_mono hc hk h
          · cases h
        · split at h
          · rename_i h2
            cases h
            exact hk.pan _ _ _ _ _ _ h2
          · cases h
        · cases h; exact Nat.le_refl _
        · cases h
    · exact ops_mono hc hk h

theorem drawStep_mono (hc : CodeMono S) (hk : CallMono S) {pl : Plan} {ops : Array Oper} {o : Oper} {j : Nat} {d d' : DS} (h : drawStep P S pl ro ops o j d = some d') : d.n ≤ d'.n := by
  unfold drawStep at h
  simp only at h
  split at h
  · cases h
  · split at h
    · split at h
      · split at h
        · split at h
          · cases h; exact Nat.le_refl _
          · cases h
        · cases h
      · split at h
        · rename_i h1; cases h; exact op_grown h1
        · cases h
      · split at h
        · split at h
          · cases h; exact Nat.le_refl _
          · cases h
        · cases h
      · split at h
        · rename_i h1; cases h; exact evX_mono (P := P) hc hk h1
        · cases h
      · split at h
        · rename_i h1
          split at h
          · cases h; exact evX_mono (P := P) hc hk h1
          · cases h
        · cases h
    · split at h
      · split at h
        · cases h; exact Nat.le_refl _
        · cases h
      · cases h; exact Nat.le_refl _

theorem drawAll_mono (hc : CodeMono S) (hk : CallMono S) {pl : Plan} {ops : Array Oper} : ∀ {l : List (Oper × Nat)} {d d' : DS}, drawAll P S pl ro ops l d = some d' → d.n ≤ d'.n
  | [], d, d', h => by cases h; exact Nat.le_refl _
  | (o, j) :: rest, d, d', h => by
    unfold drawAll at h
    split at h
    · rename_i d1 h1
      exact Nat.le_trans (drawStep_mono hc hk h1) (drawAll_mono hc hk h)
    · cases h

theorem draw_mono (hc : CodeMono S) (hk : CallMono S) {ops : Array Oper} {df : List Df} {cr : CR} (h : evDraw P S ro ops e df σ = some cr) : σ.n ≤ cr.σ.n := by
  unfold evDraw at h
  simp only at h
  split at h
  · split at h
    · rename_i h1
      cases h
      exact drawAll_mono hc hk h1
    · cases h
  · cases h

theorem code_mono (hc : CodeMono S) (hk : CallMono S) : CodeMono (evStep P S) := by
  intro ro rd fn c e df σ cr h
  change evCode P S ro rd fn c e df σ = some cr at h
  cases c <;> unfold evCode at h <;> dsimp only at h
  case skip => cases h; exact Nat.le_refl _
  case label => cases h; exact Nat.le_refl _
  case exit => cases h; exact Nat.le_refl _
  case goto => cases h; exact Nat.le_refl _
  case ret => cases h; exact Nat.le_refl _
  case refuse => cases h
  case region =>
    split at h
    · exact draw_mono hc hk h
    · exact ops_mono hc hk h
  case seq =>
    split at h
    · rename_i h1
      exact Nat.le_trans (hc _ _ _ _ _ _ _ _ h1) (hc _ _ _ _ _ _ _ _ h)
    · exact hc _ _ _ _ _ _ _ _ h
  case cond =>
    split at h
    · exact hc _ _ _ _ _ _ _ _ h
    · cases h
  case block =>
    split at h
    · rename_i h1
      split at h
      · cases h; have := hc _ _ _ _ _ _ _ _ h1; exact this
      · cases h; have := hc _ _ _ _ _ _ _ _ h1; exact this
    · exact hc _ _ _ _ _ _ _ _ h
  case loop =>
    split at h
    · rename_i h1
      exact Nat.le_trans (hc _ _ _ _ _ _ _ _ h1) (hc _ _ _ _ _ _ _ _ h)
    · exact hc _ _ _ _ _ _ _ _ h
  case scope =>
    split at h
    · cases h
    · exact hc _ _ _ _ _ _ _ _ h
  case rangeFunc =>
    split at h
    · rename_i dfs σ1 mark hen
      have h1 : σ.n ≤ σ1.n := by
        split at hen
        · cases hen; simp
        · split at hen
          · cases hen; exact Nat.le_refl _
          · cases hen
      split at h
      · split at h
        · rename_i h2
          have h3 := hk.call _ _ _ _ _ _ h2
          simp only [St.n_add] at h3
          split at h
          · split at h
            · cases h
            · split at h
              · cases h; simp only [St.n_put]; omega
              · have h4 := hc _ _ _ _ _ _ _ _ h
                simp only [St.n_put] at h4
                omega
          · cases h
        · cases h
      · cases h
    · cases h

theorem leave_mono (hk : CallMono S) : ∀ {df : List Df} {m m' : Option IV} {σ σ' : St}, evLeave S ro df m σ = some (m', σ') → σ.n ≤ σ'.n
  | [], m, m', σ, σ', h => by cases h; exact Nat.le_refl _
  | .coll id :: ds, m, m', σ, σ', h => by
    unfold evLeave at h
    split at h
    · split at h
      · exact leave_mono hk (σ := σ.put id (.dfd true)) h
      · cases h
    · cases h
  | .call f args :: ds, m, m', σ, σ', h => by
    unfold evLeave at h
    split at h
    · rename_i h1
      exact Nat.le_trans (hk.dcl _ _ _ _ _ _ _ h1) (leave_mono hk h)
    · cases h

theorem body_mono (hc : CodeMono S) (hk : CallMono S) {f : FuncId} {args : List IV} {r : Func × Env × Option IV × St} (h : evBody P S ro f args σ = some r) : σ.n ≤ r.2.2.2.n := by
  unfold evBody at h
  split at h
  · split at h
    · split at h
      · cases h
      · simp only at h
        split at h
        · rename_i h1
          split at h
          · rename_i h2
            cases h
            exact Nat.le_trans (hc _ _ _ _ _ _ _ _ h1) (leave_mono hk h2)
          · cases h
        · rename_i h1
          split at h
          · rename_i h2
            cases h
            exact Nat.le_trans (hc _ _ _ _ _ _ _ _ h1) (leave_mono hk h2)
          · cases h
        · rename_i h1
          split at h
          · rename_i h2
            cases h
            exact Nat.le_trans (hc _ _ _ _ _ _ _ _ h1) (leave_mono hk h2)
          · cases h
        · cases h
    · cases h
  · cases h

theorem dops_mono {ops : Array Oper} : ∀ {l : List Oper} {e : Env} {m : Option IV} {σ : St} {r : Env × Option IV × St}, evDOps P ro ops l e m σ = some r → σ.n ≤ r.2.2.n
  | [], e, m, σ, r, h => by cases h; exact Nat.le_refl _
  | o :: rest, e, m, σ, r, h => by
    unfold evDOps at h
    split at h
    · split at h
      · split at h
        · exact dops_mono h
        · exact dops_mono h
      · split at h
        · rename_i h1
          exact Nat.le_trans (op_grown h1) (dops_mono h)
        · cases h
    · exact dops_mono h

theorem evD_mono (hc : CodeMono S) {fn : FuncId} : ∀ {c : Code} {e : Env} {m : Option IV} {σ : St} {r : CR × Option IV}, evD P S ro fn c e m σ = some r → σ.n ≤ r.1.σ.n := by
  intro c
  have other : ∀ {c : Code} {e : Env} {m : Option IV} {σ : St} {r : CR × Option IV}, (match S.code ro none fn c e [] σ with | some r => some (r, m) | none => none) = some r → σ.n ≤ r.1.σ.n := by
    intro c e m σ r h
    split at h
    · rename_i h1; cases h; exact hc _ _ _ _ _ _ _ _ h1
    · cases h
  induction c with
  | seq a b iha ihb =>
    intro e m σ r h
    unfold evD at h
    split at h
    · rename_i h1
      exact Nat.le_trans (iha h1) (ihb h)
    · cases h
    · exact iha h
  | region id ops draw =>
    intro e m σ r h
    unfold evD at h
    split at h
    · split at h
      · rename_i h1
        cases h
        exact dops_mono h1
      · cases h
    · exact other h
  | _ => intro e m σ r h; unfold evD at h; exact other h

theorem call_mono (hc : CodeMono S) (hk : CallMono S) : CallMono (evStep P S) where
  call := by
    intro ro f args σ v σ' h
    simp only [evStep, evCall] at h
    split at h
    · rename_i h1
      split at h
      · cases h; exact body_mono hc hk h1
      · cases h
    · cases h
  pan := by
    intro ro f args σ v σ' h
    simp only [evStep, evPan] at h
    split at h
    · rename_i h1
      cases h; exact body_mono hc hk h1
    · cases h
  dcl := by
    intro ro f args m σ m' σ' h
    simp only [evStep, evDcl] at h
    split at h
    · split at h
      · cases h
      · split at h
        · split at h
          · cases h
          · split at h
            · rename_i h1
              split at h
              · cases h; exact evD_mono hc h1
              · cases h
            · rename_i h1
              split at h
              · cases h; exact evD_mono hc h1
              · cases h
            · cases h
        · cases h
    · cases h
end Go.Ev
