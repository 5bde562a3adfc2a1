/- A part of the verified evaluator of closed runs (EvWalk3): lemmas and definitions over the model, without conditions of their own. -/
import Derived.Test.YtcapkpeaofppnaaGreatDoorEvWalk2
namespace Go.Ev
variable {P : Program} {N ro m : Nat} {ι : Io} {w : World} {σ : St} {e : Env} {a : Act} {S : Self} {F : Fence} {rd : Option Nat} {Q : Exit → Act → World → Prop}

theorem mode_ne {m : Option IV} {u : FrameMode} (h : ModeR ι m u) : u ≠ .run := by
  cases m with
  | none => rw [show u = _ from h]; simp
  | some v => obtain ⟨x, rfl, _⟩ := h; simp

/-- A function's way out. -/
theorem leave_ok (hC : CallOk P S) (hk : CallMono S) {fn : Func} {ts : Array Value} {R : Ending → World → Prop} : ∀ {df : List Df} {ds : List Deferred} {σ σ' : St} {m m' : Option IV} {u : FrameMode} {ι : Io} {w : World}, evLeave S ro df m σ = some (m', σ') →
    DfL ι df ds → ModeR ι m u → Inv N ι σ w → σ'.n ≤ N →
    (∀ w' ι' u', Inv N ι' σ' w' → Le ro ι w σ ι' w' σ' → ModeR ι' m' u' → LeavesIn Fence.wide 0 P fn ts R [] u' w') → LeavesInM Fence.wide 0 P fn ts R ds u w
  | [], [], σ, σ', m, m', u, ι, w, h, _, hu, hi, _, hQ => by
    cases h
    exact hQ w ι u hi (Le.refl _ _ _ _) hu
  | .coll id :: df, d :: ds, σ, σ', m, m', u, ι, w, h, hd, hu, hi, hn, hQ => by
    unfold evLeave at h
    obtain ⟨⟨l, hl, rfl⟩, hd'⟩ := hd
    split at h
    · rename_i hat
      split at h
      · rename_i hro
        obtain ⟨l', hl', hh⟩ := hi.obj id _ hat
        rw [hl] at hl'; cases hl'
        have hlt := hi.bnd id _ ⟨0, l, hl, rfl⟩
        obtain ⟨i1, l1⟩ := hi.setObj' (ro := ro) (go := .deferred none) (ob' := .dfd true) hat hro hl ⟨l, hl, heap_set hlt⟩
        have hnm := leave_mono hk h
        simp only [St.n_put] at hnm
        refine ⟨mode_ne hu, .inl ⟨l.b, _, rfl, ?_, leave_ok hC hk h hd' hu i1 hn fun w' ι' u' i2 l2 hu' => hQ w' ι' u' i2 (Le.then hi (by simp only [St.n_put]; omega) l1 l2) hu'⟩⟩
        simp only [Instr.takeDeferred, Sem.run_bind, run_getObj (P := P) hh (by simp), Result.andThen_ok, Bool.false_eq_true, if_false, run_setObj (P := P) hh (by simp), Sem.run_pure]
      · cases h
    · cases h
  | .call f args :: df, d :: ds, σ, σ', m, m', u, ι, w, h, hd, hu, hi, hn, hQ => by
    unfold evLeave at h
    obtain ⟨⟨cap, us, vs, rfl, hvs, hcap⟩, hd'⟩ := hd
    split at h
    · rename_i m1 σ1 h1
      have hnm := leave_mono hk h
      have hc := hC.dcl N ro f args m σ m1 σ1 h1 (by omega) ι vs u w hu hi hvs
      refine ⟨mode_ne hu, .inr ⟨by simp [Fence.wide], .func f, cap.toArray, f, vs.toArray, rfl, ?_, fun g _ => trivial, ?_⟩⟩
      · obtain ⟨fn', hfn, hb⟩ := hC.ent ro f args m σ m1 σ1 h1
        simp only [invoke]
        rw [callFunc_ok hfn hb, hcap]
        simp
      · refine hc.mono fun e u' w' hR => ?_
        cases e with
        | returned v =>
          obtain ⟨ι1, hu1, i1, l1⟩ := hR
          exact leave_ok hC hk h (hd'.mono l1.ext) hu1 i1 hn fun w2 ι2 u2 i2 l2 hu2 => hQ w2 ι2 u2 i2 (Le.then hi (by omega) l1 l2) hu2
        | panicked chain => exact hR.elim
        | outgrown => exact hR.elim
    · cases h
  | [], _ :: _, _, _, _, _, _, _, _, _, h, _, _, _, _ => h.elim
  | .coll _ :: _, [], _, _, _, _, _, _, _, _, h, _, _, _, _ => h.elim
  | .call _ _ :: _, [], _, _, _, _, _, _, _, _, h, _, _, _, _ => h.elim

/-- One result. -/
def oneI (P : Program) (e : Env) (σ : St) (r : ResultVar) : Option IV :=
  match r with
  | .tmp t => some (e.at t)
  | .cell a t => match e.at a with
    | .ptr id off ep ext => match sizeOf? P t, σ.at id with
      | some s, some (.cells cs cep mn) => if s ≤ ext ∧ mn ≤ ep ∧ ep ≤ cep then partOf P t cs off else none
      | _, _ => none
    | _ => none
def oneM (ts : Array Value) (r : ResultVar) : Sem Value :=
  match r with
  | .tmp t => pure (ts.getD t Go.undef)
  | .cell a t => do loadVar t (← asAddr (ts.getD a Go.undef))

theorem one_ok {ts : Array Value} {r : ResultVar} {v : IV} (h : oneI P e σ r = some v) (hi : Inv N ι σ w) (he : EnvR ι e ts) : ∃ u, (oneM ts r).run P w = .ok u w ∧ Rv ι v u := by
  unfold oneI at h
  unfold oneM
  cases r with
  | tmp t => cases h; exact ⟨_, by simp only [Sem.run_pure], he.2 t⟩
  | cell a t =>
    simp only at h ⊢
    have hr := he.2 a
    split at h
    · rename_i id off ep ext hx
      rw [hx] at hr
      split at h
      · rename_i s cs cep mn hs hat
        split at h
        · rename_i hc
          obtain ⟨ad, x, hu, h1, h2⟩ := run_load_ptr hi hs hat hc.1 hc.2.1 hc.2.2 h hr
          refine ⟨x, ?_, h2⟩
          rw [hu]
          simp only [asAddr, Sem.run_bind, Sem.run_pure, Result.andThen_ok, h1]
        · cases h
      · cases h
    · cases h

theorem ones_ok {ts : Array Value} (hi : Inv N ι σ w) (he : EnvR ι e ts) : ∀ {rs : List ResultVar} {vs : List IV}, rs.mapM (oneI P e σ) = some vs → ∃ us, (rs.mapM (oneM ts)).run P w = .ok us w ∧ RvL ι vs us
  | [], vs, h => by
    simp only [List.mapM_nil] at h
    cases h
    exact ⟨[], by simp only [List.mapM_nil, Sem.run_pure], RvL.nil⟩
  | r :: rs, vs, h => by
    rw [List.mapM_cons] at h
    cases h1 : oneI P e σ r with
    | none => rw [h1] at h; cases h
    | some v =>
      rw [h1] at h
      cases h2 : rs.mapM (oneI P e σ) with
      | none => rw [h2] at h; cases h
      | some vs' =>
        rw [h2] at h
        cases h
        obtain ⟨u, k1, k2⟩ := one_ok h1 hi he
        obtain ⟨us, k3, k4⟩ := ones_ok hi he h2
        exact ⟨u :: us, by simp only [List.mapM_cons, Sem.run_bind, k1, Result.andThen_ok, k3, Sem.run_pure], RvL.cons k2 k4⟩

theorem results_eq (fn : Func) (ts : Array Value) : results fn ts = (do
    let vs ← fn.results.mapM (oneM ts)
    pure (if h : vs.size = 1 then vs[0] else .tuple vs)) := by
  unfold results
  have : (fun r : ResultVar => (match r with | .tmp t => pure (ts.getD t Go.undef) | .cell a t => do loadVar t (← asAddr (ts.getD a Go.undef)) : Sem Value)) = oneM ts := by
    funext r
    cases r <;> rfl
  rw [← this]
  rfl

theorem resultOf_eq {fn : Func} {v : IV} (h : resultOf P fn e σ = some v) : ∃ vs, fn.results.toList.mapM (oneI P e σ) = some vs ∧ ((∃ x, vs = [x] ∧ v = x) ∨ (vs.length ≠ 1 ∧ v = .tup vs)) := by
  unfold resultOf at h
  dsimp only at h
  change (match fn.results.toList with
    | [r] => oneI P e σ r
    | l => match l.mapM (oneI P e σ) with
      | some vs => some (.tup vs)
      | none => none) = some v at h
  split at h
  · rename_i r hl
    exact ⟨[v], by rw [hl, List.mapM_cons, h]; rfl, .inl ⟨v, rfl, rfl⟩⟩
  · rename_i hl
    split at h
    · rename_i vs hvs
      cases h
      refine ⟨vs, hvs, .inr ⟨fun hlen => ?_, rfl⟩⟩
      have hl1 : fn.results.toList.length = vs.length := by
        clear hl hlen
        generalize fn.results.toList = l at hvs
        induction l generalizing vs with
        | nil => cases hvs; rfl
        | cons r rs ih =>
          rw [List.mapM_cons] at hvs
          cases h1 : oneI P e σ r with
          | none => rw [h1] at hvs; cases hvs
          | some v =>
            rw [h1] at hvs
            cases h2 : rs.mapM (oneI P e σ) with
            | none => rw [h2] at hvs; cases hvs
            | some vs' =>
              rw [h2] at hvs
              cases hvs
              simp [ih _ h2]
      cases hc : fn.results.toList with
      | nil => rw [hc] at hl1; simp at hl1; omega
      | cons r rs =>
        cases rs with
        | nil => exact hl r hc
        | cons r2 rs2 => rw [hc] at hl1; simp at hl1; omega
    · cases h

theorem results_ok {fn : Func} {ts : Array Value} {v : IV} (h : resultOf P fn e σ = some v) (hi : Inv N ι σ w) (he : EnvR ι e ts) : ∃ u, (results fn ts).run P w = .ok u w ∧ Rv ι v u := by
  obtain ⟨vs, hvs, h⟩ := resultOf_eq h
  obtain ⟨us, h1, h2⟩ := ones_ok hi he hvs
  have hm : (fn.results.mapM (oneM ts)).run P w = .ok us.toArray w := by
    rw [Array.mapM_eq_mapM_toList, Sem.run_map, h1]
    rfl
  rw [results_eq]
  simp only [Sem.run_bind, hm, Result.andThen_ok, Sem.run_pure]
  refine ⟨_, rfl, ?_⟩
  rcases h with ⟨x, rfl, rfl⟩ | ⟨hlen, rfl⟩
  · obtain ⟨u, rfl, hu⟩ := rvl_one h2
    simpa using hu
  · have : ¬ us.toArray.size = 1 := by rw [List.size_toArray, ← h2.1]; exact hlen
    rw [dif_neg this]
    exact rvtup h2

theorem args_env : ∀ {args : List IV} {us : List Value} {k : Nat} {e : Env} {ts : Array Value}, EnvR ι e ts → RvL ι args us →
    EnvR ι ((args.zipIdx k).foldl (fun e (v, i) => e.put (some i) v) e) ((us.zipIdx k).foldl (fun ts (u, i) => ts.setIfInBounds i u) ts)
  | [], us, k, e, ts, h, hr => by rw [hr.of_nil]; exact h
  | v :: args, us, k, e, ts, h, hr => by
    obtain ⟨u, us', rfl, h1, h2⟩ := hr.uncons
    simp only [List.zipIdx_cons, List.foldl_cons]
    exact args_env (h.set h1 k) h2

theorem zipIdx_set : ∀ (us : List Value) (k : Nat) (ts : Array Value), k + us.length ≤ ts.size → (us.zipIdx k).foldl (fun ts (u, i) => ts.setIfInBounds i u) ts = (ts.toList.take k ++ us ++ ts.toList.drop (k + us.length)).toArray
  | [], k, ts, _ => by simp
  | u :: us, k, ts, h => by
    simp only [List.zipIdx_cons, List.foldl_cons]
    simp only [List.length_cons] at h
    rw [zipIdx_set us (k + 1) _ (by simp; omega)]
    congr 1
    simp only [Array.toList_setIfInBounds, List.length_cons]
    have h1 : (ts.toList.set k u).take (k + 1) = ts.toList.take k ++ [u] := by
      have hk : k < ts.toList.length := by simp; omega
      rw [List.take_add_one, List.getElem?_set_self hk]
      simp [List.take_set_of_le]
    have h2 : (ts.toList.set k u).drop (k + 1 + us.length) = ts.toList.drop (k + (us.length + 1)) := by
      rw [List.drop_set_of_lt (by omega)]
      congr 1
      omega
    rw [h1, h2]
    simp

theorem env_new (n : Nat) : EnvR ι ⟨n, .lf⟩ (Array.replicate n Go.undef) := by
  refine ⟨by simp, fun t => ?_⟩
  have : (Array.replicate n Go.undef).getD t Go.undef = Go.undef := by
    rw [Array.getD_eq_getD_getElem?, Array.getElem?_replicate]
    split <;> rfl
  rw [this]
  exact .raw _

theorem env_args {args : List IV} {us : List Value} {n : Nat} (hr : RvL ι args us) (hn : args.length ≤ n) :
    EnvR ι (args.zipIdx.foldl (fun e (v, i) => e.put (some i) v) ⟨n, .lf⟩) (us.toArray ++ Array.replicate (n - us.toArray.size) Go.undef) := by
  have h := args_env (k := 0) (env_new (ι := ι) n) hr
  have hl := hr.1
  rw [zipIdx_set us 0 _ (by simp; omega)] at h
  have : (us.toArray ++ Array.replicate (n - us.toArray.size) Go.undef) = ((Array.replicate n Go.undef).toList.take 0 ++ us ++ (Array.replicate n Go.undef).toList.drop (0 + us.length)).toArray := by
    simp
  rw [this]
  exact h

/-- A function's body, and its way out. -/
theorem body_ok (hS : CodeOk P S m) (hC : CallOk P S) (hm : CodeMono S) (hk : CallMono S) {f : FuncId} {args : List IV} {fn1 : Func} {e' : Env} {mo : Option IV} {σ' : St} {us : List Value} {R : Ending → World → Prop}
    (h : evBody P S ro f args σ = some (fn1, e', mo, σ')) (hN : σ'.n ≤ N) (hi : Inv N ι σ w) (hr : RvL ι args us)
    (hQ : ∀ ts w' ι' u', Inv N ι' σ' w' → Le ro ι w σ ι' w' σ' → EnvR ι' e' ts → ModeR ι' mo u' → LeavesIn Fence.wide 0 P fn1 ts R [] u' w') : CallsIn Fence.wide 0 P f us.toArray w R := by
  unfold evBody at h
  split at h
  · rename_i fn hfn
    split at h
    · rename_i c hb
      split at h
      · cases h
      · rename_i hlen
        simp only at h
        have key : ∀ {ex : Ex} {e1 : Env} {df : List Df} {σ1 : St} {mi : Option IV}, S.code ro none f c (args.zipIdx.foldl (fun e (v, i) => e.put (some i) v) ⟨fn.ntmps, .lf⟩) [] σ = some ⟨ex, e1, df, σ1⟩ →
            (((ex = .normal ∨ ex = .ret) ∧ mi = none) ∨ ∃ v, ex = .pan v ∧ mi = some v) →
            (match evLeave S ro df mi σ1 with
              | some (m, σ) => some (fn, e1, m, σ)
              | none => none) = some (fn1, e', mo, σ') → CallsIn Fence.wide 0 P f us.toArray w R := by
          intro ex e1 df σ1 mi h1 hex h
          split at h
          · rename_i m2 σ2 h2
            obtain ⟨rfl, rfl, rfl, rfl⟩ : fn = fn1 ∧ e1 = e' ∧ m2 = mo ∧ σ2 = σ' := by cases h; exact ⟨rfl, rfl, rfl, rfl⟩
            clear h
            have hnm := leave_mono hk h2
            have hn1 : σ1.n ≤ N := by omega
            refine callsIn_of_wp_marks hfn hb trivial ?_
            refine (hS N ro none f c _ [] σ _ h1 hn1 Fence.wide ι { tmps := us.toArray ++ Array.replicate (fn.ntmps - us.toArray.size) Go.undef, defers := [] } w _ (.inl ⟨rfl, rfl⟩) hi (env_args hr (by omega)) trivial ?_).wp
            intro a1 w1 ι1 ch1 i1 l1 e1' d1 p1
            have : ∀ u, ModeR ι1 mi u → LeavesInM Fence.wide 0 P fn a1.tmps R a1.defers u w1 := fun u hu =>
              leave_ok hC hk h2 d1 hu i1 hN fun w2 ι2 u2 i2 l2 hu2 => hQ a1.tmps w2 ι2 u2 i2 (Le.then hi hn1 l1 l2) (e1'.mono l2.ext) hu2
            rcases hex with ⟨rfl | rfl, rfl⟩ | ⟨v, rfl, rfl⟩
            · exact this _ rfl
            · exact this _ rfl
            · obtain ⟨u, rfl, hu⟩ := p1
              exact this _ ⟨u, rfl, hu⟩
          · cases h
        split at h
        · rename_i h1; exact key h1 (.inl ⟨.inl rfl, rfl⟩) h
        · rename_i h1; exact key h1 (.inl ⟨.inr rfl, rfl⟩) h
        · rename_i h1; exact key h1 (.inr ⟨_, rfl, rfl⟩) h
        · cases h
    · cases h
  · cases h

/-- A mode while a deferred call is under way: the panic may have been recovered. -/
def ModeD (ι : Io) : Option IV → FrameMode → Prop
  | none, u => u = .returning ∨ ∃ x, u = .panicking [{ v := x, recovered := true }]
  | some v, u => ∃ x, u = .panicking [{ v := x, recovered := false }] ∧ Rv ι v x
theorem ModeD.of {m : Option IV} {u : FrameMode} (h : ModeR ι m u) : ModeD ι m u := by
  cases m with
  | none => exact .inl h
  | some v => exact h
theorem ModeD.mono {ι' : Io} (hι : Ext ι ι') {m : Option IV} {u : FrameMode} (h : ModeD ι m u) : ModeD ι' m u := by
  cases m with
  | none => exact h
  | some v => obtain ⟨x, h1, h2⟩ := h; exact ⟨x, h1, h2.mono hι⟩
theorem ModeD.settle {m : Option IV} {u : FrameMode} (h : ModeD ι m u) : ModeR ι m (Go.settle u) := by
  cases m with
  | none =>
    rcases h with rfl | ⟨x, rfl⟩
    · rfl
    · rfl
  | some v => obtain ⟨x, rfl, h2⟩ := h; exact ⟨x, rfl, h2⟩

/-- What the code of a deferred function comes to. -/
def PostD (N ro : Nat) (ι : Io) (w : World) (σ : St) (cr : CR) (m : Option IV) (c0 : Frame) (cs0 : List Frame) (Q : Exit → Act → List Frame → World → Prop) : Prop :=
  ∀ a' w' ι' u' ch, Inv N ι' cr.σ w' → Le ro ι w σ ι' w' cr.σ → EnvR ι' cr.e a'.tmps → DfL ι' cr.df a'.defers → PanR ι' ch cr.ex → ModeD ι' m u' → Q (exOf ch cr.ex) a' ({ c0 with mode := u' } :: cs0) w'

theorem dops_ok {ops : Array Oper} {Q : Exit → Act → List Frame → World → Prop} {c0 : Frame} {cs0 : List Frame} : ∀ {l : List Oper} {k : Nat} {e : Env} {σ : St} {e' : Env} {mo mo' : Option IV} {σ' : St} {ι : Io} {a : Act} {u : FrameMode} {w : World},
    ops.toList.drop k = l → evDOps P ro ops l e mo σ = some (e', mo', σ') → σ'.n ≤ N → Inv N ι σ w → EnvR ι e a.tmps → a.defers = [] → ModeD ι mo u → PostD N ro ι w σ ⟨.normal, e', [], σ'⟩ mo' c0 cs0 Q →
    wpOpsSIn Fence.wide 0 P ops Q (List.range' k l.length) a ({ c0 with mode := u } :: cs0) w
  | [], k, e, σ, e', mo, mo', σ', ι, a, u, w, hl, h, hN, hi, he, hd, hu, hQ => by
    cases h
    exact hQ a w ι u [] hi (Le.refl _ _ _ _) he (by rw [hd]; trivial) trivial hu
  | o :: rest, k, e, σ, e', mo, mo', σ', ι, a, u, w, hl, h, hN, hi, he, hd, hu, hQ => by
    have hrest : ops.toList.drop (k + 1) = rest := by
      rw [← List.drop_drop (i := 1) (j := k), hl]; rfl
    have hok : ops[k]? = some o := by
      have : (ops.toList.drop k)[0]? = some o := by rw [hl]; rfl
      simpa using this
    simp only [List.length_cons, List.range'_succ]
    unfold wpOpsSIn
    rw [hok]
    simp only
    refine ⟨fun f _ => trivial, ?_⟩
    have hput : ∀ v, (a.put o.dst v).defers = [] := fun v => by cases o.dst <;> exact hd
    unfold evDOps at h
    rw [wanted_eq he]
    split at h
    · rename_i hw
      rw [if_pos hw]
      split at h
      · rename_i hrec
        have hex : (execOp a.eval o).run P w = .ok .recover w := by
          unfold isRecover at hrec
          split at hrec
          · rename_i hop
            simp only [execOp, hop, resolve, Sem.run_bind, Sem.run_pure, Result.andThen_ok, invoke, builtin]
          · cases hrec
        rw [hex]
        simp only
        split at h
        · rename_i v
          obtain ⟨x, rfl, hx⟩ := hu
          simp only [recoverD]
          exact dops_ok hrest h hN hi (he.put hx _) (hput _) (.inr ⟨x, rfl⟩) hQ
        · have hnone : recoverD ({ c0 with mode := u } :: cs0) = none := by
            rcases hu with rfl | ⟨x, rfl⟩ <;> rfl
          rw [hnone]
          simp only
          exact dops_ok hrest h hN hi (he.put (.raw _) _) (hput _) hu hQ
      · split at h
        · rename_i v σ1 h1
          have hn1 : σ1.n ≤ N := Nat.le_trans (dops_mono h) hN
          obtain ⟨u1, w1, ι1, hr, h2, h3, h4⟩ := op_ok hi he.eval h1 hn1
          have hQ' : PostD N ro ι1 w1 σ1 ⟨.normal, e', [], σ'⟩ mo' c0 cs0 Q := fun a' w' ι' u' ch g1 g2 g3 g4 g5 g6 => hQ a' w' ι' u' ch g1 (Le.then hi hn1 h4 g2) g3 g4 g5 g6
          rcases hr with hr | ⟨hr, rfl⟩
          · rw [hr]
            simp only
            exact dops_ok hrest h hN h3 ((he.mono h4.ext).put h2 _) (hput _) (hu.mono h4.ext) hQ'
          · rw [hr]
            simp only
            exact dops_ok hrest h hN h3 ((he.mono h4.ext).put h2 _) (hput _) (hu.mono h4.ext) hQ'
        · cases h
    · rename_i hw
      rw [if_neg hw]
      exact dops_ok hrest h hN hi (he.put rv_undef _) (hput _) hu hQ

theorem d_ok (hS : CodeOk P S m) (hm : CodeMono S) {fn : FuncId} {c0 : Frame} {cs0 : List Frame} : ∀ {c : Code} {Q : Exit → Act → List Frame → World → Prop} {e : Env} {mo mo' : Option IV} {σ : St} {cr : CR} {ι : Io} {a : Act} {u : FrameMode} {w : World},
    evD P S ro fn c e mo σ = some (cr, mo') → cr.σ.n ≤ N → Inv N ι σ w → EnvR ι e a.tmps → a.defers = [] → ModeD ι mo u → PostD N ro ι w σ cr mo' c0 cs0 Q → c.wpSIn Fence.wide 0 P Q a ({ c0 with mode := u } :: cs0) w := by
  intro c
  have other : ∀ {c : Code} {Q : Exit → Act → List Frame → World → Prop} {e : Env} {mo mo' : Option IV} {σ : St} {cr : CR} {ι : Io} {a : Act} {u : FrameMode} {w : World}, (match S.code ro none fn c e [] σ with | some r => some (r, mo) | none => none) = some (cr, mo') →
      cr.σ.n ≤ N → Inv N ι σ w → EnvR ι e a.tmps → a.defers = [] → ModeD ι mo u → PostD N ro ι w σ cr mo' c0 cs0 Q → c.wpSIn Fence.wide 0 P Q a ({ c0 with mode := u } :: cs0) w := by
    intro c Q e mo mo' σ cr ι a u w h hN hi he hd hu hQ
    split at h
    · rename_i h1
      cases h
      refine wpSIn_of_wpIn rfl ?_
      refine (hS N ro none fn c e [] σ _ h1 hN Fence.wide ι a w _ (.inl ⟨rfl, rfl⟩) hi he (by rw [hd]; trivial) ?_).wp
      intro a1 w1 ι1 ch1 i1 l1 e1 d1 p1
      exact hQ a1 w1 ι1 u ch1 i1 l1 e1 d1 p1 (hu.mono l1.ext)
    · cases h
  induction c with
  | seq x y ihx ihy =>
    intro Q e mo mo' σ cr ι a u w h hN hi he hd hu hQ
    unfold evD at h
    refine wpSIn_seq ?_
    split at h
    · rename_i e1 σ1 m1 h1
      have hn1 : σ1.n ≤ N := Nat.le_trans (evD_mono hm h) hN
      refine ihx h1 hn1 hi he hd hu ?_
      intro a1 w1 ι1 u1 ch1 i1 l1 e1' d1 p1 hu1
      exact ihy h hN i1 e1' d1.nil hu1 fun a' w' ι' u' ch g1 g2 g3 g4 g5 g6 => hQ a' w' ι' u' ch g1 (Le.then hi hn1 l1 g2) g3 g4 g5 g6
    · cases h
    · rename_i hno1 hno2
      refine ihx h hN hi he hd hu ?_
      intro a1 w1 ι1 u1 ch1 i1 l1 e1' d1 p1 hu1
      have := hQ a1 w1 ι1 u1 ch1 i1 l1 e1' d1 p1 hu1
      cases hx : cr.ex with
      | normal => exact absurd (by rw [h]; cases cr; cases hx; rfl) (hno2 cr.e cr.df cr.σ mo')
      | exit id => rw [hx] at this; exact this
      | goto l => rw [hx] at this; exact this
      | ret => rw [hx] at this; exact this
      | pan v => rw [hx] at this; exact this
  | region id ops draw =>
    intro Q e mo mo' σ cr ι a u w h hN hi he hd hu hQ
    unfold evD at h
    split at h
    · rename_i hc
      have hdr : draw = false := by
        cases draw with
        | false => rfl
        | true => simp at hc
      subst hdr
      split at h
      · rename_i h1
        cases h
        refine wpSIn_region ?_
        have := dops_ok (k := 0) (by simp) h1 hN hi he hd hu hQ
        rw [List.range_eq_range']
        simpa using this
      · cases h
    · exact other h hN hi he hd hu hQ
  | _ =>
    intro Q e mo mo' σ cr ι a u w h hN hi he hd hu hQ
    unfold evD at h
    exact other h hN hi he hd hu hQ

theorem dcl_ok (hS : CodeOk P S m) (hm : CodeMono S) {f : FuncId} {args : List IV} {mo mo' : Option IV} {σ' : St} (h : evDcl P S ro f args mo σ = some (mo', σ')) (hN : σ'.n ≤ N) {us : List Value} {u : FrameMode} (hu : ModeR ι mo u) (hi : Inv N ι σ w) (hr : RvL ι args us) :
    CallsDIn Fence.wide 0 P f us.toArray u w (DclOk N ro ι w σ mo' σ') := by
  unfold evDcl at h
  split at h
  · rename_i fn hfn
    split at h
    · cases h
    split at h
    · rename_i c hb
      split at h
      · cases h
      · rename_i hlen
        simp only at h
        have key : ∀ {ex : Ex} {e1 : Env} {σ1 : St} {m1 : Option IV}, evD P S ro f c (args.zipIdx.foldl (fun e (v, i) => e.put (some i) v) ⟨fn.ntmps, .lf⟩) mo σ = some (⟨ex, e1, [], σ1⟩, m1) → (ex = .normal ∨ ex = .ret) →
            (match resultOf P fn e1 σ1 with
              | some _ => some (m1, σ1)
              | none => none) = some (mo', σ') → CallsDIn Fence.wide 0 P f us.toArray u w (DclOk N ro ι w σ mo' σ') := by
          intro ex e1 σ1 m1 h1 hex h
          split at h
          · rename_i v hv
            cases h
            refine callsDIn_of_wpSIn hfn hb trivial fun c0 cs hc0 => ?_
            have hc1 : c0 = { c0 with mode := u } := by rw [← hc0]
            have := d_ok hS hm (c0 := c0) (cs0 := cs) (Q := bodyPostS P fn c0 cs (DclOk N ro ι w σ mo' σ')) (a := { tmps := us.toArray ++ Array.replicate (fn.ntmps - us.toArray.size) Go.undef, defers := [] }) h1 hN hi (env_args hr (by omega)) rfl (ModeD.of hu) ?_
            · rw [← hc1] at this; exact this
            · intro a1 w1 ι1 u1 ch1 i1 l1 e1' d1 p1 hu1
              obtain ⟨x, k1, k2⟩ := results_ok hv i1 e1'
              have : bodyPostS P fn c0 cs (DclOk N ro ι w σ mo' σ') .ret a1 ({ c0 with mode := u1 } :: cs) w1 := ⟨d1.nil, u1, rfl, x, k1, ι1, hu1.settle, i1, l1⟩
              rcases hex with rfl | rfl <;> exact this
          · cases h
        split at h
        · rename_i h1; exact key h1 (.inl rfl) h
        · rename_i h1; exact key h1 (.inr rfl) h
        · cases h
    · cases h
  · cases h

theorem call_ok (hS : CodeOk P S m) (hC : CallOk P S) (hm : CodeMono S) (hk : CallMono S) : CallOk P (evStep P S) where
  call := by
    intro N ro f args σ v σ' h hN ι us w hi hr
    simp only [evStep, evCall] at h
    split at h
    · rename_i fn1 e1 σ1 h1
      split at h
      · rename_i v' h2
        cases h
        refine body_ok hS hC hm hk h1 hN hi hr fun ts w' ι' u' i1 l1 e1' hu => ?_
        rw [show u' = _ from hu]
        obtain ⟨u, k1, k2⟩ := results_ok h2 i1 e1'
        exact ⟨u, k1, ι', k2, i1, l1⟩
      · cases h
    · cases h
  pan := by
    intro N ro f args σ v σ' h hN ι us w hi hr
    simp only [evStep, evPan] at h
    split at h
    · rename_i h1
      cases h
      refine body_ok hS hC hm hk h1 hN hi hr fun ts w' ι' u' i1 l1 e1' hu => ?_
      obtain ⟨x, rfl, hx⟩ := hu
      exact ⟨ι', ⟨x, rfl, hx⟩, i1, l1⟩
    · cases h
  dcl := by
    intro N ro f args mo σ mo' σ' h hN ι us u w hu hi hr
    exact dcl_ok hS hm h hN hu hi hr
  ent := by
    intro ro f args mo σ mo' σ' h
    simp only [evStep, evDcl] at h
    split at h
    · rename_i fn hfn
      split at h
      · cases h
      · rename_i hbn
        exact ⟨fn, hfn, by simpa only [Bool.not_eq_true', Bool.not_eq_false] using hbn⟩
    · cases h

/-- The evaluator is sound, where regions that draw are. -/
theorem ev_ok (hD : ∀ m S, CodeOk P S m → CallOk P S → CodeMono S → CallMono S → DrawOk P S) : ∀ n, CodeOk P (ev P n) n ∧ CallOk P (ev P n) ∧ CodeMono (ev P n) ∧ CallMono (ev P n)
  | 0 => by
    refine ⟨?_, ⟨?_, ?_, ?_, ?_⟩, ?_, ⟨?_, ?_, ?_⟩⟩
    · intro N ro rd fn c e df σ cr h; cases h
    · intro N ro f args σ v σ' h; cases h
    · intro N ro f args σ v σ' h; cases h
    · intro N ro f args m σ m' σ' h; cases h
    · intro ro f args m σ m' σ' h; cases h
    · intro ro rd fn c e df σ cr h; cases h
    · intro ro f args σ v σ' h; cases h
    · intro ro f args σ v σ' h; cases h
    · intro ro f args m σ m' σ' h; cases h
  | n + 1 => by
    obtain ⟨h1, h2, h3, h4⟩ := ev_ok hD n
    exact ⟨code_ok h1 h2 h3 h4 (hD n _ h1 h2 h3 h4), call_ok h1 h2 h3 h4, code_mono h3 h4, call_mono h3 h4⟩
end Go.Ev
