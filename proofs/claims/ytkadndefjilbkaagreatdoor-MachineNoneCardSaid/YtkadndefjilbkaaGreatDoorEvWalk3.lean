/- A part of the verified evaluator of closed runs (EvWalk3): lemmas and definitions over the model, without conditions of their own. -/
import Derived.Test.YtkadndefjilbkaaGreatDoorEvWalk2
namespace Go.Ev
variable {P : Program} {M : Fz} {N ro m : Nat} {ι : Io} {w : World} {σ : St} {e : Env} {a : Act} {S : Self} {F : Fence} {rd : Option Nat} {Q : Exit → Act → World → Prop}

/-- A function's way out. -/
theorem out_ok {fn : Func} {ts : Array Value} {R : Ending → World → Prop} : ∀ {df : List Df} {ds : List Deferred} {σ σ' : St} {w : World}, evOut ro df σ = some σ' → DfL M ι df ds → Inv M N ι σ w → σ.n ≤ N →
    (∀ w', Inv M N ι σ' w' → Le ro ι w σ ι w' σ' → LeavesIn Fence.wide 0 P fn ts R [] .returning w') → LeavesInM Fence.wide 0 P fn ts R ds .returning w
  | [], [], σ, σ', w, h, _, hi, _, hQ => by
    cases h
    exact hQ w hi (Le.refl _ _ _ _)
  | .coll id :: df, d :: ds, σ, σ', w, h, hd, hi, hn, hQ => by
    unfold evOut at h
    obtain ⟨⟨l, hl, rfl⟩, hd'⟩ := hd
    split at h
    · rename_i hat
      split at h
      · rename_i hro
        obtain ⟨l', hl', hh⟩ := hi.obj id _ hat
        rw [hl] at hl'; cases hl'
        have hlt := hi.bnd id _ ⟨0, l, hl, rfl⟩
        obtain ⟨i1, l1⟩ := hi.setObj' (ro := ro) (go := .deferred none) (ob' := .dfd true) hat hro hl ⟨l, hl, heap_set hlt⟩
        refine ⟨by simp, .inl ⟨l.b, _, rfl, ?_, out_ok h hd' i1 hn fun w' i2 l2 => hQ w' i2 (Le.then hi (by simp only [St.n_put]; exact hn) l1 l2)⟩⟩
        simp only [Instr.takeDeferred, Sem.run_bind, run_getObj (P := P) hh (by simp), Result.andThen_ok, Bool.false_eq_true, if_false, run_setObj (P := P) hh (by simp), Sem.run_pure]
      · cases h
    · cases h
  | .call _ _ :: _, _, _, _, _, h, _, _, _, _ => by cases h
  | [], _ :: _, _, _, _, _, h, _, _, _ => h.elim
  | .coll _ :: _, [], _, _, _, _, h, _, _, _ => h.elim

/-- One result. -/
def oneI (P : Program) (e : Env) (σ : St) (r : ResultVar) : Option IV :=
  match r with
  | .tmp t => some (e.at t)
  | .cell a t => match e.at a with
    | .ptr id off ep ext => match sizeOf? P t, σ.at id with
      | some s, some (.cells cs cep mn) => if s ≤ ext ∧ mn ≤ ep ∧ ep ≤ cep then partOf P t cs off else none
      | _, _ => none
    | _ => none
def oneM (ts : Array Value) (r : ResultVar) : Sem Value :=
  match r with
  | .tmp t => pure (ts.getD t Go.undef)
  | .cell a t => do loadVar t (← asAddr (ts.getD a Go.undef))

theorem one_ok {ts : Array Value} {r : ResultVar} {v : IV} (h : oneI P e σ r = some v) (hi : Inv M N ι σ w) (he : EnvR M ι e ts) : ∃ u, (oneM ts r).run P w = .ok u w ∧ Rv M ι v u := by
  unfold oneI at h
  unfold oneM
  cases r with
  | tmp t => cases h; exact ⟨_, by simp only [Sem.run_pure], he.2 t⟩
  | cell a t =>
    simp only at h ⊢
    have hr := he.2 a
    split at h
    · rename_i id off ep ext hx
      rw [hx] at hr
      split at h
      · rename_i s cs cep mn hs hat
        split at h
        · rename_i hc
          obtain ⟨ad, x, hu, h1, h2⟩ := run_load_ptr hi hs hat hc.1 hc.2.1 hc.2.2 h hr
          refine ⟨x, ?_, h2⟩
          rw [hu]
          simp only [asAddr, Sem.run_bind, Sem.run_pure, Result.andThen_ok, h1]
        · cases h
      · cases h
    · cases h

theorem ones_ok {ts : Array Value} (hi : Inv M N ι σ w) (he : EnvR M ι e ts) : ∀ {rs : List ResultVar} {vs : List IV}, rs.mapM (oneI P e σ) = some vs → ∃ us, (rs.mapM (oneM ts)).run P w = .ok us w ∧ RvL M ι vs us
  | [], vs, h => by
    simp only [List.mapM_nil] at h
    cases h
    exact ⟨[], by simp only [List.mapM_nil, Sem.run_pure], RvL.nil⟩
  | r :: rs, vs, h => by
    rw [List.mapM_cons] at h
    cases h1 : oneI P e σ r with
    | none => rw [h1] at h; cases h
    | some v =>
      rw [h1] at h
      cases h2 : rs.mapM (oneI P e σ) with
      | none => rw [h2] at h; cases h
      | some vs' =>
        rw [h2] at h
        cases h
        obtain ⟨u, k1, k2⟩ := one_ok h1 hi he
        obtain ⟨us, k3, k4⟩ := ones_ok hi he h2
        exact ⟨u :: us, by simp only [List.mapM_cons, Sem.run_bind, k1, Result.andThen_ok, k3, Sem.run_pure], RvL.cons k2 k4⟩

theorem results_eq (fn : Func) (ts : Array Value) : results fn ts = (do
    let vs ← fn.results.mapM (oneM ts)
    pure (if h : vs.size = 1 then vs[0] else .tuple vs)) := by
  unfold results
  have : (fun r : ResultVar => (match r with | .tmp t => pure (ts.getD t Go.undef) | .cell a t => do loadVar t (← asAddr (ts.getD a Go.undef)) : Sem Value)) = oneM ts := by
    funext r
    cases r <;> rfl
  rw [← this]
  rfl

theorem resultOf_eq {fn : Func} {v : IV} (h : resultOf P fn e σ = some v) : ∃ vs, fn.results.toList.mapM (oneI P e σ) = some vs ∧ ((∃ x, vs = [x] ∧ v = x) ∨ (vs.length ≠ 1 ∧ v = .tup vs)) := by
  unfold resultOf at h
  dsimp only at h
  change (match fn.results.toList with
    | [r] => oneI P e σ r
    | l => match l.mapM (oneI P e σ) with
      | some vs => some (.tup vs)
      | none => none) = some v at h
  split at h
  · rename_i r hl
    exact ⟨[v], by rw [hl, List.mapM_cons, h]; rfl, .inl ⟨v, rfl, rfl⟩⟩
  · rename_i hl
    split at h
    · rename_i vs hvs
      cases h
      refine ⟨vs, hvs, .inr ⟨fun hlen => ?_, rfl⟩⟩
      have hl1 : fn.results.toList.length = vs.length := by
        clear hl hlen
        generalize fn.results.toList = l at hvs
        induction l generalizing vs with
        | nil => cases hvs; rfl
        | cons r rs ih =>
          rw [List.mapM_cons] at hvs
          cases h1 : oneI P e σ r with
          | none => rw [h1] at hvs; cases hvs
          | some v =>
            rw [h1] at hvs
            cases h2 : rs.mapM (oneI P e σ) with
            | none => rw [h2] at hvs; cases hvs
            | some vs' =>
              rw [h2] at hvs
              cases hvs
              simp [ih _ h2]
      cases hc : fn.results.toList with
      | nil => rw [hc] at hl1; simp at hl1; omega
      | cons r rs =>
        cases rs with
        | nil => exact hl r hc
        | cons r2 rs2 => rw [hc] at hl1; simp at hl1; omega
    · cases h

theorem results_ok {fn : Func} {ts : Array Value} {v : IV} (h : resultOf P fn e σ = some v) (hi : Inv M N ι σ w) (he : EnvR M ι e ts) : ∃ u, (results fn ts).run P w = .ok u w ∧ Rv M ι v u := by
  obtain ⟨vs, hvs, h⟩ := resultOf_eq h
  obtain ⟨us, h1, h2⟩ := ones_ok hi he hvs
  have hm : (fn.results.mapM (oneM ts)).run P w = .ok us.toArray w := by
    rw [Array.mapM_eq_mapM_toList, Sem.run_map, h1]
    rfl
  rw [results_eq]
  simp only [Sem.run_bind, hm, Result.andThen_ok, Sem.run_pure]
  refine ⟨_, rfl, ?_⟩
  rcases h with ⟨x, rfl, rfl⟩ | ⟨hlen, rfl⟩
  · obtain ⟨u, rfl, hu⟩ := rvl_one h2
    simpa using hu
  · have : ¬ us.toArray.size = 1 := by rw [List.size_toArray, ← h2.1]; exact hlen
    rw [dif_neg this]
    exact rvtup h2

theorem args_env : ∀ {args : List IV} {us : List Value} {k : Nat} {e : Env} {ts : Array Value}, EnvR M ι e ts → RvL M ι args us →
    EnvR M ι ((args.zipIdx k).foldl (fun e (v, i) => e.put (some i) v) e) ((us.zipIdx k).foldl (fun ts (u, i) => ts.setIfInBounds i u) ts)
  | [], us, k, e, ts, h, hr => by rw [hr.of_nil]; exact h
  | v :: args, us, k, e, ts, h, hr => by
    obtain ⟨u, us', rfl, h1, h2⟩ := hr.uncons
    simp only [List.zipIdx_cons, List.foldl_cons]
    exact args_env (h.set h1 k) h2

theorem zipIdx_set : ∀ (us : List Value) (k : Nat) (ts : Array Value), k + us.length ≤ ts.size → (us.zipIdx k).foldl (fun ts (u, i) => ts.setIfInBounds i u) ts = (ts.toList.take k ++ us ++ ts.toList.drop (k + us.length)).toArray
  | [], k, ts, _ => by simp
  | u :: us, k, ts, h => by
    simp only [List.zipIdx_cons, List.foldl_cons]
    simp only [List.length_cons] at h
    rw [zipIdx_set us (k + 1) _ (by simp; omega)]
    congr 1
    simp only [Array.toList_setIfInBounds, List.length_cons]
    have h1 : (ts.toList.set k u).take (k + 1) = ts.toList.take k ++ [u] := by
      have hk : k < ts.toList.length := by simp; omega
      rw [List.take_add_one, List.getElem?_set_self hk]
      simp [List.take_set_of_le]
    have h2 : (ts.toList.set k u).drop (k + 1 + us.length) = ts.toList.drop (k + (us.length + 1)) := by
      rw [List.drop_set_of_lt (by omega)]
      congr 1
      omega
    rw [h1, h2]
    simp

theorem env_new (n : Nat) : EnvR M ι ⟨n, .lf⟩ (Array.replicate n Go.undef) := by
  refine ⟨by simp, fun t => ?_⟩
  have : (Array.replicate n Go.undef).getD t Go.undef = Go.undef := by
    rw [Array.getD_eq_getD_getElem?, Array.getElem?_replicate]
    split <;> rfl
  rw [this]
  exact .raw _

theorem env_args {args : List IV} {us : List Value} {n : Nat} (hr : RvL M ι args us) (hn : args.length ≤ n) :
    EnvR M ι (args.zipIdx.foldl (fun e (v, i) => e.put (some i) v) ⟨n, .lf⟩) (us.toArray ++ Array.replicate (n - us.toArray.size) Go.undef) := by
  have h := args_env (k := 0) (env_new (M := M) (ι := ι) n) hr
  have hl := hr.1
  rw [zipIdx_set us 0 _ (by simp; omega)] at h
  have : (us.toArray ++ Array.replicate (n - us.toArray.size) Go.undef) = ((Array.replicate n Go.undef).toList.take 0 ++ us ++ (Array.replicate n Go.undef).toList.drop (0 + us.length)).toArray := by
    simp
  rw [this]
  exact h

theorem call_ok (hS : CodeOk P S m) (hm : CodeMono S) : CallOk P ⟨evCode P S, evCall P S⟩ := by
  intro M N ro f args σ v σ' h hN ι us w hi hr
  simp only at h
  unfold evCall at h
  split at h
  · rename_i fn hfn
    split at h
    · rename_i c hb
      split at h
      · cases h
      · rename_i hlen
        simp only at h
        have key : ∀ {ex : Ex} {e1 : Env} {df : List Df} {σ1 : St}, S.code ro none f c (args.zipIdx.foldl (fun e (v, i) => e.put (some i) v) ⟨fn.ntmps, .lf⟩) [] σ = some ⟨ex, e1, df, σ1⟩ → (ex = .normal ∨ ex = .ret) →
            (match evOut ro df σ1 with
              | some σ => match resultOf P fn e1 σ with
                | some v => some (v, σ)
                | none => none
              | none => none) = some (v, σ') → CallsIn Fence.wide 0 P f us.toArray w (RetOk M N ro ι w σ v σ') := by
          intro ex e1 df σ1 h1 hex h
          split at h
          · rename_i σ2 h2
            split at h
            · rename_i v' h3
              cases h
              have hn1 : σ1.n ≤ N := by rw [← out_mono h2]; exact hN
              refine callsIn_of_wp_marks hfn hb trivial ?_
              refine (hS M N ro none f c _ [] σ _ h1 hn1 Fence.wide ι { tmps := us.toArray ++ Array.replicate (fn.ntmps - us.toArray.size) Go.undef, defers := [] } w _ (.inl ⟨rfl, rfl⟩) hi (env_args hr (by omega)) trivial ?_).wp
              intro a1 w1 ι1 i1 l1 e1' d1
              have : LeavesInM Fence.wide 0 P fn a1.tmps (RetOk M N ro ι w σ v σ') a1.defers .returning w1 := by
                refine out_ok h2 d1 i1 hn1 fun w2 i2 l2 => ?_
                obtain ⟨u, k1, k2⟩ := results_ok h3 i2 e1'
                exact ⟨u, k1, ι1, k2, i2, Le.then hi hn1 l1 l2⟩
              rcases hex with rfl | rfl <;> exact this
            · cases h
          · cases h
        split at h
        · rename_i h1; exact key h1 (.inl rfl) h
        · rename_i h1; exact key h1 (.inr rfl) h
        · cases h
    · cases h
  · cases h

/-- The evaluator is sound, where regions that draw are. -/
theorem ev_ok (hD : ∀ m S, CodeOk P S m → CallOk P S → CodeMono S → CallMono S → DrawOk P S) : ∀ n, CodeOk P (ev P n) n ∧ CallOk P (ev P n) ∧ CodeMono (ev P n) ∧ CallMono (ev P n)
  | 0 => by
    refine ⟨?_, ?_, ?_, ?_⟩
    · intro M N ro rd fn c e df σ cr h; cases h
    · intro M N ro f args σ v σ' h; cases h
    · intro ro rd fn c e df σ cr h; cases h
    · intro ro f args σ v σ' h; cases h
  | n + 1 => by
    obtain ⟨h1, h2, h3, h4⟩ := ev_ok hD n
    exact ⟨code_ok h1 h2 h3 h4 (hD n _ h1 h2 h3 h4), call_ok h1 h3, code_mono h3 h4, call_mono h3⟩
end Go.Ev
