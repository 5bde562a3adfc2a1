/- A part of the verified evaluator of closed runs (EvSem): lemmas and definitions over the model, without conditions of their own. -/
import Derived.Test.YtcapkpeaofppnaaGreatDoorEvDraw7
/-
What code, operations and calls do, said of the ideal machine: facts that are composed one by one.
-/
namespace Go.Ev
variable {P : Program} {N ro m : Nat} {ι : Io} {w : World} {σ : St} {e : Env} {a : Act} {F : Fence} {rd : Option Nat} {Q : Exit → Act → World → Prop} {fn : FuncId} {df : List Df} {cr : CR}

def SCode (P : Program) (ro : Nat) (rd : Option Nat) (fn : FuncId) (c : Code) (e : Env) (df : List Df) (σ : St) (cr : CR) : Prop :=
  σ.n ≤ cr.σ.n ∧ ∃ m0, ∀ m, m0 ≤ m → ∀ N, cr.σ.n ≤ N → ∀ F ι a w Q, FOk F rd ι → Inv N ι σ w → EnvR ι e a.tmps → DfL ι df a.defers → Post N ro ι w σ cr Q → Walk F P m c Q a w
def SCall (P : Program) (ro : Nat) (f : FuncId) (args : List IV) (σ : St) (v : IV) (σ' : St) : Prop :=
  σ.n ≤ σ'.n ∧ ∀ N, σ'.n ≤ N → ∀ ι us w, Inv N ι σ w → RvL ι args us → CallsIn Fence.wide 0 P f us.toArray w (RetOk N ro ι w σ v σ')
def SPan (P : Program) (ro : Nat) (f : FuncId) (args : List IV) (σ : St) (v : IV) (σ' : St) : Prop :=
  σ.n ≤ σ'.n ∧ ∀ N, σ'.n ≤ N → ∀ ι us w, Inv N ι σ w → RvL ι args us → CallsIn Fence.wide 0 P f us.toArray w (PanOk N ro ι w σ v σ')
def SOps (P : Program) (ro : Nat) (rd : Option Nat) (ops : Array Oper) (l : List Oper) (e : Env) (df : List Df) (σ : St) (cr : CR) : Prop :=
  σ.n ≤ cr.σ.n ∧ ∀ N, cr.σ.n ≤ N → ∀ F ι a w Q k, ops.toList.drop k = l → FOk F rd ι → Inv N ι σ w → EnvR ι e a.tmps → DfL ι df a.defers → Post N ro ι w σ cr Q →
    wpOpsIn F 0 P ops Q (List.range' k l.length) a w

/-- Out of weak walks. -/
theorem SCode.mk {c : Code} (hn : σ.n ≤ cr.σ.n) (hl : ∀ b, c ≠ .loop b) (h : ∀ N, cr.σ.n ≤ N → ∀ F ι a w Q, FOk F rd ι → Inv N ι σ w → EnvR ι e a.tmps → DfL ι df a.defers → Post N ro ι w σ cr Q → c.wpIn F 0 P Q a w) : SCode P ro rd fn c e df σ cr := by
  refine ⟨hn, 0, fun m _ N hN F ι a w Q hF hi he hd hQ => ?_⟩
  have := h N hN F ι a w Q hF hi he hd hQ
  cases c <;> first | exact this | exact absurd rfl (hl _)
theorem SCode.wp {c : Code} (h : SCode P ro rd fn c e df σ cr) (hN : cr.σ.n ≤ N) (hF : FOk F rd ι) (hi : Inv N ι σ w) (he : EnvR ι e a.tmps) (hd : DfL ι df a.defers) (hQ : Post N ro ι w σ cr Q) : c.wpIn F 0 P Q a w := by
  obtain ⟨_, m0, h⟩ := h
  exact (h m0 (Nat.le_refl _) N hN F ι a w Q hF hi he hd hQ).wp

theorem SCode.skip : SCode P ro rd fn .skip e df σ ⟨.normal, e, df, σ⟩ :=
  .mk (Nat.le_refl _) (by simp) fun _ _ _ ι a w _ _ hi he hd hQ => wpIn_skip (hQ a w ι [] hi (Le.refl _ _ _ _) he hd trivial)
theorem SCode.label {l : Nat} : SCode P ro rd fn (.label l) e df σ ⟨.normal, e, df, σ⟩ :=
  .mk (Nat.le_refl _) (by simp) fun _ _ _ ι a w _ _ hi he hd hQ => wpIn_label (hQ a w ι [] hi (Le.refl _ _ _ _) he hd trivial)
theorem SCode.exit {id : Nat} : SCode P ro rd fn (.exit id) e df σ ⟨.exit id, e, df, σ⟩ :=
  .mk (Nat.le_refl _) (by simp) fun _ _ _ ι a w _ _ hi he hd hQ => wpIn_exit (hQ a w ι [] hi (Le.refl _ _ _ _) he hd trivial)
theorem SCode.goto {id : Nat} : SCode P ro rd fn (.goto id) e df σ ⟨.goto id, e, df, σ⟩ :=
  .mk (Nat.le_refl _) (by simp) fun _ _ _ ι a w _ _ hi he hd hQ => wpIn_goto (hQ a w ι [] hi (Le.refl _ _ _ _) he hd trivial)
theorem SCode.ret : SCode P ro rd fn .ret e df σ ⟨.ret, e, df, σ⟩ :=
  .mk (Nat.le_refl _) (by simp) fun _ _ _ ι a w _ _ hi he hd hQ => wpIn_ret (hQ a w ι [] hi (Le.refl _ _ _ _) he hd trivial)

theorem SCode.seq {x y : Code} {e1 : Env} {df1 : List Df} {σ1 : St} (h : SCode P ro rd fn x e df σ ⟨.normal, e1, df1, σ1⟩) (k : SCode P ro rd fn y e1 df1 σ1 cr) : SCode P ro rd fn (.seq x y) e df σ cr := by
  refine .mk (Nat.le_trans h.1 k.1) (by simp) fun N hN F ι a w Q hF hi he hd hQ => wpIn_seq ?_
  have hn1 : σ1.n ≤ N := Nat.le_trans k.1 hN
  refine h.wp hn1 hF hi he hd ?_
  intro a1 w1 ι1 ch1 i1 l1 e1' d1 p1
  exact k.wp hN (hF.mono l1.ext) i1 e1' d1 (hQ.from hi l1 hn1)
theorem SCode.seq_out {x y : Code} (h : SCode P ro rd fn x e df σ cr) (hx : cr.ex ≠ .normal) : SCode P ro rd fn (.seq x y) e df σ cr := by
  refine .mk h.1 (by simp) fun N hN F ι a w Q hF hi he hd hQ => wpIn_seq (h.wp hN hF hi he hd ?_)
  intro a1 w1 ι1 ch1 i1 l1 e1' d1 p1
  have := hQ a1 w1 ι1 ch1 i1 l1 e1' d1 p1
  cases hc : cr.ex <;> rw [hc] at this <;> first | exact absurd hc hx | exact this
theorem SCode.cond {c : Operand} {x y : Code} {t : Bool} (hc : evalI e c = .raw (.bool t)) (h : SCode P ro rd fn (if t then x else y) e df σ cr) : SCode P ro rd fn (.cond c x y) e df σ cr :=
  .mk h.1 (by simp) fun N hN F ι a w Q hF hi he hd hQ => wpIn_cond (rv_bool' hc (he.eval c)) (h.wp hN hF hi he hd hQ)
theorem SCode.block {id : Nat} {x : Code} {e1 : Env} {df1 : List Df} {σ1 : St} (h : SCode P ro rd fn x e df σ ⟨.exit id, e1, df1, σ1⟩) : SCode P ro rd fn (.block id x) e df σ ⟨.normal, e1, df1, σ1⟩ := by
  refine .mk h.1 (by simp) fun N hN F ι a w Q hF hi he hd hQ => wpIn_block (h.wp hN hF hi he hd ?_)
  intro a1 w1 ι1 ch1 i1 l1 e1' d1 p1
  simp only [exOf, Exit.inBlock, if_pos]
  exact hQ a1 w1 ι1 ch1 i1 l1 e1' d1 trivial
theorem SCode.block_out {id : Nat} {x : Code} (h : SCode P ro rd fn x e df σ cr) (hx : cr.ex ≠ .exit id) : SCode P ro rd fn (.block id x) e df σ cr := by
  refine .mk h.1 (by simp) fun N hN F ι a w Q hF hi he hd hQ => wpIn_block (h.wp hN hF hi he hd ?_)
  intro a1 w1 ι1 ch1 i1 l1 e1' d1 p1
  have := hQ a1 w1 ι1 ch1 i1 l1 e1' d1 p1
  cases hc : cr.ex with
  | exit id' =>
    have hne : id' ≠ id := fun h => hx (by rw [hc, h])
    rw [hc] at this
    simp only [exOf, Exit.inBlock, if_neg hne]
    exact this
  | _ => rw [hc] at this; exact this
theorem SCode.loop {x : Code} {e1 : Env} {df1 : List Df} {σ1 : St} (h : SCode P ro rd fn x e df σ ⟨.normal, e1, df1, σ1⟩) (k : SCode P ro rd fn (.loop x) e1 df1 σ1 cr) : SCode P ro rd fn (.loop x) e df σ cr := by
  obtain ⟨hn, m0, k⟩ := k
  refine ⟨Nat.le_trans h.1 hn, m0 + 1, fun m hm N hN F ι a w Q hF hi he hd hQ => ?_⟩
  obtain ⟨m, rfl⟩ : ∃ q, m = q + 1 := ⟨m - 1, by omega⟩
  show Code.roundsIn F 0 P x Q (m + 1) a w
  rw [roundsIn_succ]
  have hn1 : σ1.n ≤ N := Nat.le_trans hn hN
  refine h.wp hn1 hF hi he hd ?_
  intro a1 w1 ι1 ch1 i1 l1 e1' d1 p1
  exact k m (by omega) N hN F ι1 a1 w1 Q (hF.mono l1.ext) i1 e1' d1 (hQ.from hi l1 hn1)
theorem SCode.loop_out {x : Code} (h : SCode P ro rd fn x e df σ cr) (hx : cr.ex ≠ .normal) : SCode P ro rd fn (.loop x) e df σ cr := by
  refine ⟨h.1, 1, fun m hm N hN F ι a w Q hF hi he hd hQ => ?_⟩
  obtain ⟨m, rfl⟩ : ∃ q, m = q + 1 := ⟨m - 1, by omega⟩
  show Code.roundsIn F 0 P x Q (m + 1) a w
  rw [roundsIn_succ]
  refine h.wp hN hF hi he hd ?_
  intro a1 w1 ι1 ch1 i1 l1 e1' d1 p1
  have := hQ a1 w1 ι1 ch1 i1 l1 e1' d1 p1
  cases hc : cr.ex <;> rw [hc] at this <;> first | exact absurd hc hx | exact this
theorem SCode.scope {x : Code} (h : SCode P ro rd fn x e df σ cr) (hx : ∀ l, cr.ex ≠ .goto l) : SCode P ro rd fn (.scope x) e df σ cr := by
  refine .mk h.1 (by simp) fun N hN F ι a w Q hF hi he hd hQ => wpIn_scope (h.wp hN hF hi he hd ?_)
  intro a1 w1 ι1 ch1 i1 l1 e1' d1 p1
  have := hQ a1 w1 ι1 ch1 i1 l1 e1' d1 p1
  cases hc : cr.ex <;> rw [hc] at this <;> first | exact absurd hc (hx _) | exact this
theorem SCode.region {id : Nat} {ops : Array Oper} (h : SOps P ro rd ops ops.toList e df σ cr) : SCode P ro rd fn (.region id ops false) e df σ cr := by
  refine .mk h.1 (by simp) fun N hN F ι a w Q hF hi he hd hQ => wpIn_region ?_
  have := h.2 N hN F ι a w Q 0 (by simp) hF hi he hd hQ
  rw [List.range_eq_range']
  simpa using this

/-! ### Operations -/
variable {ops : Array Oper} {o : Oper} {l : List Oper}
theorem SOps.nil : SOps P ro rd ops [] e df σ ⟨.normal, e, df, σ⟩ :=
  ⟨Nat.le_refl _, fun _ _ _ ι a w _ _ _ _ hi he hd hQ => hQ a w ι [] hi (Le.refl _ _ _ _) he hd trivial⟩

theorem SOps.cons (hn : σ.n ≤ cr.σ.n) (hw : wantedI o ops e = true)
    (h : ∀ N, cr.σ.n ≤ N → ∀ F ι a w Q k, ops.toList.drop (k + 1) = l → FOk F rd ι → Inv N ι σ w → EnvR ι e a.tmps → DfL ι df a.defers → Post N ro ι w σ cr Q →
      o.wpIn F 0 P a w (wpOpsIn F 0 P ops Q (List.range' (k + 1) l.length)) Q) : SOps P ro rd ops (o :: l) e df σ cr := by
  refine ⟨hn, fun N hN F ι a w Q k hl hF hi he hd hQ => ?_⟩
  have hrest : ops.toList.drop (k + 1) = l := by
    rw [← List.drop_drop (i := 1) (j := k), hl]; rfl
  have hok : ops[k]? = some o := by
    have : (ops.toList.drop k)[0]? = some o := by rw [hl]; rfl
    simpa using this
  simp only [List.length_cons, List.range'_succ]
  rw [wpOpsIn_cons]
  unfold wpOpIn
  rw [hok]
  simp only
  rw [wanted_eq he, if_pos hw]
  exact h N hN F ι a w Q k hrest hF hi he hd hQ
theorem SOps.skip (hw : wantedI o ops e = false) (h : SOps P ro rd ops l (e.put o.dst .undef) df σ cr) : SOps P ro rd ops (o :: l) e df σ cr := by
  refine ⟨h.1, fun N hN F ι a w Q k hl hF hi he hd hQ => ?_⟩
  have hrest : ops.toList.drop (k + 1) = l := by
    rw [← List.drop_drop (i := 1) (j := k), hl]; rfl
  have hok : ops[k]? = some o := by
    have : (ops.toList.drop k)[0]? = some o := by rw [hl]; rfl
    simpa using this
  simp only [List.length_cons, List.range'_succ]
  rw [wpOpsIn_cons]
  unfold wpOpIn
  rw [hok]
  simp only
  rw [wanted_eq he, hw, if_neg (by simp)]
  exact ⟨fun f _ => hF.fn f, h.2 N hN F ι _ w Q (k + 1) hrest hF hi (he.put rv_undef _) (by cases o.dst <;> exact hd) hQ⟩

theorem SOps.val {v : IV} {σ1 : St} (hw : wantedI o ops e = true) (hv : evOp P ro (evalI e) o σ = some (.val v σ1)) (h : SOps P ro rd ops l (e.put o.dst v) df σ1 cr) : SOps P ro rd ops (o :: l) e df σ cr := by
  refine .cons (Nat.le_trans (op_grown hv) h.1) hw fun N hN F ι a w Q k hl hF hi he hd hQ => ?_
  have hn1 : σ1.n ≤ N := Nat.le_trans h.1 hN
  refine ⟨fun f _ => hF.fn f, ?_⟩
  rw [Oper.semAt_eq _ _ _ (op_noDefer hv (by simp))]
  obtain ⟨u, w', ι', hr, h2, h3, h4⟩ := op_ok hi he.eval hv hn1
  have key : wpOpsIn F 0 P ops Q (List.range' (k + 1) l.length) (a.put o.dst u) w' :=
    h.2 N hN F ι' _ w' Q (k + 1) hl (hF.mono h4.ext) h3 ((he.mono h4.ext).put h2 _) (hd.mono h4.ext |> fun x => by cases o.dst <;> exact x) (hQ.from hi h4 hn1)
  rcases hr with hr | ⟨hr, rfl⟩
  · rw [hr, Oper.uponIn_value]; exact key
  · rw [hr, Oper.uponIn_skip]; exact key

theorem SOps.call {f : FuncId} {args : List IV} {v : IV} {σ1 : St} (hw : wantedI o ops e = true) (hv : evOp P ro (evalI e) o σ = some (.enter f args)) (hc : SCall P ro f args σ v σ1)
    (h : SOps P ro rd ops l (e.put o.dst v) df σ1 cr) : SOps P ro rd ops (o :: l) e df σ cr := by
  refine .cons (Nat.le_trans hc.1 h.1) hw fun N hN F ι a w Q k hl hF hi he hd hQ => ?_
  have hn1 : σ1.n ≤ N := Nat.le_trans h.1 hN
  refine ⟨fun f _ => hF.fn f, ?_⟩
  rw [Oper.semAt_eq _ _ _ (op_noDefer hv (by simp))]
  obtain ⟨us, hr, h3⟩ := op_ok hi he.eval hv
  rw [hr, Oper.uponIn_enter]
  refine ⟨hF.depth, (hF.calls (hc.2 N hn1 ι us w hi h3)).mono fun ed w' hR => ?_⟩
  cases ed with
  | returned u =>
    obtain ⟨ι', h2, h3, h4⟩ := hR
    exact h.2 N hN F ι' _ w' Q (k + 1) hl (hF.mono h4.ext) h3 ((he.mono h4.ext).put h2 _) (hd.mono h4.ext |> fun x => by cases o.dst <;> exact x) (hQ.from hi h4 hn1)
  | outgrown => exact hR.elim
  | panicked chain => exact hR.elim

theorem SOps.pan {f : FuncId} {args : List IV} {v : IV} {σ1 : St} (hw : wantedI o ops e = true) (hv : evOp P ro (evalI e) o σ = some (.enter f args)) (hc : SPan P ro f args σ v σ1) :
    SOps P ro rd ops (o :: l) e df σ ⟨.pan v, e, df, σ1⟩ := by
  refine .cons hc.1 hw fun N hN F ι a w Q k hl hF hi he hd hQ => ?_
  refine ⟨fun f _ => hF.fn f, ?_⟩
  rw [Oper.semAt_eq _ _ _ (op_noDefer hv (by simp))]
  obtain ⟨us, hr, h3⟩ := op_ok hi he.eval hv
  rw [hr, Oper.uponIn_enter]
  refine ⟨hF.depth, (hF.calls (hc.2 N hN ι us w hi h3)).mono fun ed w' hR => ?_⟩
  cases ed with
  | returned u => exact hR.elim
  | outgrown => exact hR.elim
  | panicked chain =>
    obtain ⟨ι', h4, h5, h6⟩ := hR
    exact hQ a w' ι' chain h5 h6 (he.mono h6.ext) (hd.mono h6.ext) h4
theorem SOps.panic {v : IV} (hw : wantedI o ops e = true) (hv : evOp P ro (evalI e) o σ = some (.pan v)) : SOps P ro rd ops (o :: l) e df σ ⟨.pan v, e, df, σ⟩ := by
  refine .cons (Nat.le_refl _) hw fun N hN F ι a w Q k hl hF hi he hd hQ => ?_
  refine ⟨fun f _ => hF.fn f, ?_⟩
  rw [Oper.semAt_eq _ _ _ (op_noDefer hv (by simp))]
  obtain ⟨u, hr, h3⟩ := op_ok hi he.eval hv
  rw [hr, Oper.uponIn_panic]
  exact hQ a w ι [{ v := u, recovered := false }] hi (Le.refl _ _ _ _) he hd ⟨u, rfl, h3⟩
theorem SOps.defer {d : Df} (hw : wantedI o ops e = true) (hv : evOp P ro (evalI e) o σ = some (.dfr d)) (h : SOps P ro none ops l (e.put o.dst .undef) (d :: df) σ cr) : SOps P ro none ops (o :: l) e df σ cr := by
  refine .cons h.1 hw fun N hN F ι a w Q k hl hF hi he hd hQ => ?_
  have hFe : F = Fence.wide := by
    rcases hF with ⟨_, h2⟩ | ⟨_, _, h2, _⟩
    · exact h2
    · cases h2
  refine ⟨fun f _ => hF.fn f, ?_⟩
  obtain ⟨dd, hr, hdd, c, hc⟩ := op_ok hi he.eval hv
  have hsem : (o.semAt F.round a.eval) = execOp a.eval o := by rw [hFe]; rfl
  rw [hsem, hr, Oper.uponIn_defer]
  refine h.2 N hN F ι _ w Q (k + 1) hl hF hi ?_ ?_ hQ
  · cases hdst : o.dst with
    | none => exact he
    | some t => exact he.set rv_undef t
  · cases o.dst <;> exact ⟨hdd, hd⟩
end Go.Ev
