/- Lemmas over the model, without conditions of their own: code and calls of the ideal machine are sound. -/
import Derived.Test.YtggffkaadeagbaaGreatEvD
set_option linter.all false
namespace Go.Ev
variable {P : Program} {N ro m : Nat} {ι : Io} {w : World} {σ : St} {e : Env} {a : Act} {S : Self} {F : Fence} {rd : Option Nat} {Q : Exit → Act → World → Prop}
def exOf (ch : List PanicEntry) : Ex → Exit
  | .normal => .normal
  | .exit id => .exit id
  | .goto l => .goto l
  | .ret => .ret
  | .pan _ => .panic ch
def PanR (ι : Io) (ch : List PanicEntry) : Ex → Prop
  | .pan v => ∃ u, ch = [{ v := u, recovered := false }] ∧ Rv ι v u
  | _ => True
def ModeR (ι : Io) : Option IV → FrameMode → Prop
  | none, u => u = .returning
  | some v, u => ∃ x, u = .panicking [{ v := x, recovered := false }] ∧ Rv ι v x
def FOk (F : Fence) (rd : Option Nat) (ι : Io) : Prop := (rd = none ∧ F = Fence.wide) ∨ ∃ l loc, rd = some l ∧ ι l 0 = some loc ∧ F = Fence.wide.inRound loc.b
theorem FOk.mono {ι' : Io} (hι : Ext ι ι') (h : FOk F rd ι) : FOk F rd ι' := by
  rcases h with h | ⟨l, loc, h1, h2, h3⟩
  · exact .inl h
  · exact .inr ⟨l, loc, h1, hι _ _ _ h2, h3⟩
theorem FOk.fn (h : FOk F rd ι) (f : FuncId) : F.fn f := by rcases h with ⟨_, rfl⟩ | ⟨_, _, _, _, rfl⟩ <;> trivial
theorem FOk.depth (h : FOk F rd ι) {n : Nat} : F.depth.isSome = true → 1 ≤ n := by rcases h with ⟨_, rfl⟩ | ⟨_, _, _, _, rfl⟩ <;> (intro h; simp [Fence.wide, Fence.inRound] at h)
theorem FOk.calls (h : FOk F rd ι) {f : FuncId} {us : Array Value} {R : Ending → World → Prop} (hc : CallsIn Fence.wide 0 P f us w R) : CallsIn F (0 - 1) P f us w R := by
  rcases h with ⟨_, rfl⟩ | ⟨_, _, _, _, rfl⟩ <;> exact hc
theorem FOk.inRound (h : FOk F rd ι) (l : Nat) : F.inRound l = Fence.wide.inRound l := by rcases h with ⟨_, rfl⟩ | ⟨_, _, _, _, rfl⟩ <;> rfl
def Post (N ro : Nat) (ι : Io) (w : World) (σ : St) (cr : CR) (Q : Exit → Act → World → Prop) : Prop :=
  ∀ a' w' ι' ch, Inv N ι' cr.σ w' → Le ro ι w σ ι' w' cr.σ → EnvR ι' cr.e a'.tmps → DfL ι' cr.df a'.defers → PanR ι' ch cr.ex → Q (exOf ch cr.ex) a' w'
def Walk (F : Fence) (P : Program) (m : Nat) (c : Code) (Q : Exit → Act → World → Prop) (a : Act) (w : World) : Prop :=
  match c with
  | .loop b => Code.roundsIn F 0 P b Q m a w
  | c => c.wpIn F 0 P Q a w
theorem Walk.wp {c : Code} (h : Walk F P m c Q a w) : c.wpIn F 0 P Q a w := by
  cases c <;> first | exact h | exact wpIn_loop_rounds _ h
def RetOk (N ro : Nat) (ι : Io) (w : World) (σ : St) (v : IV) (σ' : St) : Ending → World → Prop
  | .returned u, w' => ∃ ι', Rv ι' v u ∧ Inv N ι' σ' w' ∧ Le ro ι w σ ι' w' σ'
  | _, _ => False
def CodeOk (P : Program) (S : Self) (m : Nat) : Prop := ∀ N ro rd fn c e df σ cr, S.code ro rd fn c e df σ = some cr → cr.σ.n ≤ N → ∀ F ι a w Q, FOk F rd ι → Inv N ι σ w → EnvR ι e a.tmps → DfL ι df a.defers →
  Post N ro ι w σ cr Q → Walk F P m c Q a w
def PanOk (N ro : Nat) (ι : Io) (w : World) (σ : St) (v : IV) (σ' : St) : Ending → World → Prop
  | .panicked ch, w' => ∃ ι', PanR ι' ch (.pan v) ∧ Inv N ι' σ' w' ∧ Le ro ι w σ ι' w' σ'
  | _, _ => False
def DclOk (N ro : Nat) (ι : Io) (w : World) (σ : St) (m : Option IV) (σ' : St) : Ending → FrameMode → World → Prop
  | .returned _, u, w' => ∃ ι', ModeR ι' m (settle u) ∧ Inv N ι' σ' w' ∧ Le ro ι w σ ι' w' σ'
  | _, _, _ => False
structure CallOk (P : Program) (S : Self) : Prop where
  call : ∀ N ro f args σ v σ', S.call ro f args σ = some (v, σ') → σ'.n ≤ N → ∀ ι us w, Inv N ι σ w → RvL ι args us → CallsIn Fence.wide 0 P f us.toArray w (RetOk N ro ι w σ v σ')
  pan : ∀ N ro f args σ v σ', S.pan ro f args σ = some (v, σ') → σ'.n ≤ N → ∀ ι us w, Inv N ι σ w → RvL ι args us → CallsIn Fence.wide 0 P f us.toArray w (PanOk N ro ι w σ v σ')
  dcl : ∀ N ro f args m σ m' σ', S.dcl ro f args m σ = some (m', σ') → σ'.n ≤ N → ∀ ι us u w, ModeR ι m u → Inv N ι σ w → RvL ι args us → CallsDIn Fence.wide 0 P f us.toArray u w (DclOk N ro ι w σ m' σ')
  ent : ∀ ro f args m σ m' σ', S.dcl ro f args m σ = some (m', σ') → ∃ fn, P.funcs[f]? = some fn ∧ (fn.body.isSome && fn.name != "runtime.NumGoroutine") = true
theorem Post.from {cr : CR} {ι1 : Io} {w1 : World} {σ1 : St} (h : Post N ro ι w σ cr Q) (hi : Inv N ι σ w) (hl : Le ro ι w σ ι1 w1 σ1) (hn : σ1.n ≤ N) : Post N ro ι1 w1 σ1 cr Q :=
  fun a' w' ι' ch h1 h2 h3 h4 h5 => h a' w' ι' ch h1 (Le.trans (fun id h1 h2 => hi.fresh id h1 (by omega)) hl h2) h3 h4 h5
theorem Le.then (hi : Inv N ι σ w) {ι1 ι2 : Io} {w1 w2 : World} {σ1 σ2 : St} (hn : σ1.n ≤ N) (h : Le ro ι w σ ι1 w1 σ1) (k : Le ro ι1 w1 σ1 ι2 w2 σ2) : Le ro ι w σ ι2 w2 σ2 :=
  Le.trans (fun id h1 h2 => hi.fresh id h1 (by omega)) h k
theorem run_loop {l : Nat} {r : Loop} (h : w.heap[l]? = some (.loop r)) : (Instr.getLoop l).run P w = .ok r w := by
  simp only [Instr.getLoop, Sem.run_bind, run_getObj (P := P) h (by simp), Result.andThen_ok, Sem.run_pure]
theorem heap_set {b : Nat} {o : Go.Obj} (h : b < w.heap.size) : (w.heap.setIfInBounds b o)[b]? = some o := by simp [h]
theorem params_ok : ∀ {ps : List Tmp} {args : List IV} {us : List Value} {e : Env} {ts : Array Value}, EnvR ι e ts → RvL ι args us →
    EnvR ι ((ps.zip args).foldl (fun e (p, v) => e.put (some p) v) e) ((ps.zip us).foldl (fun tmps (t, a) => tmps.setIfInBounds t a) ts)
  | [], _, _, _, _, h, _ => h
  | p :: ps, [], us, _, _, h, hr => by rw [hr.of_nil]; exact h
  | p :: ps, v :: args, us, e, ts, h, hr => by
    obtain ⟨u, us', rfl, h1, h2⟩ := hr.uncons
    simp only [List.zip_cons_cons, List.foldl_cons]
    exact params_ok (h.set h1 p) h2
theorem getLoop_obj {l : Nat} {loc : Loc} {st : LoopState} {pend : Option Code} {f : FuncId} {tm : T IV} {ntm : Nat} {ps : List Tmp} {asg bd : Code} {dfs : Nat} (hi : Inv N ι σ w) (hat : σ.at l = some (.loop st pend f tm ntm ps asg bd dfs)) (hl : ι l 0 = some loc) :
    ∃ ld ts f', ι dfs 0 = some ld ∧ w.heap[loc.b]? = some (.loop { state := st, pending := pend, fn := f', tmps := ts, params := ps.toArray, assign := asg, body := bd, defers := ld.b }) ∧ EnvR ι ⟨ntm, tm⟩ ts ∧ loc.b < w.heap.size := by
  obtain ⟨l', ld, ts, f', hl', hd, hh, hs, ht⟩ := hi.obj l _ hat
  rw [hl] at hl'; cases hl'
  exact ⟨ld, ts, f', hd, hh, ⟨hs.symm, ht⟩, hi.bnd l _ ⟨0, loc, hl, rfl⟩⟩
theorem ready_beq (s : LoopState) (h : s ≠ .busy) : (s == LoopState.busy) = false := by cases s <;> first | rfl | exact absurd rfl h
theorem putLoop {l : Nat} {loc : Loc} {st st' : LoopState} {pend pend' : Option Code} {f f' : FuncId} {tm : T IV} {ntm : Nat} {ps : List Tmp} {asg bd : Code} {dfs : Nat} {ld : Loc} {ts : Array Value} (hi : Inv N ι σ w) (hro : ro ≤ l)
    (hat : σ.at l = some (.loop st pend f tm ntm ps asg bd dfs)) (hl : ι l 0 = some loc) (hd : ι dfs 0 = some ld) (he : EnvR ι ⟨ntm, tm⟩ ts) :
    let go : Go.Obj := .loop { state := st', pending := pend', fn := f', tmps := ts, params := ps.toArray, assign := asg, body := bd, defers := ld.b }
    Inv N ι (σ.put l (.loop st' pend' f tm ntm ps asg bd dfs)) { w with heap := w.heap.setIfInBounds loc.b go } ∧ Le ro ι w σ ι { w with heap := w.heap.setIfInBounds loc.b go } (σ.put l (.loop st' pend' f tm ntm ps asg bd dfs)) := by
  intro go
  have hlt := hi.bnd l _ ⟨0, loc, hl, rfl⟩
  exact hi.setObj' hat hro hl ⟨loc, ld, ts, f', hl, hd, heap_set hlt, he.1.symm, he.2⟩
theorem roundPost_of {l : Nat} {R : Ending → World → Prop} {ex : Ex} {ch : List PanicEntry} (hx : ¬ ex.isPan = true) {a : Act} {w : World} (h : ∃ v w', (Instr.endRound l (jumpOf ex)).run P w = .ok v w' ∧ R (.returned v) w') : roundPost P l R (exOf ch ex) a w := by
  cases ex <;> first | exact h | exact absurd rfl hx
theorem round_ok (hS : CodeOk P S m) (hm : CodeMono S) {l : Nat} {loc : Loc} {args : List IV} {us : List Value} {v : IV} {σ' : St} (h : evRound S ro l args σ = some (v, σ')) (hN : σ'.n ≤ N) (hF : FOk F rd ι) (hi : Inv N ι σ w)
    (hl : ι l 0 = some loc) (hr : RvL ι args us) :
    ∃ f' ts asg bd, (Instr.yield loc.b us.toArray).run P w = .ok (.round loc.b f' ts asg bd) w ∧ RoundIn F 0 P loc.b f' ts asg bd w (RetOk N ro ι w σ v σ') := by
  unfold evRound at h
  split at h
  · rename_i state pending f tm ntm params assign body dfs hat
    split at h
    · cases h
    · rename_i hc
      have hc1 : args.length = params.length := Decidable.byContradiction fun hx => hc (.inl hx)
      have hc2 : ro ≤ l := Decidable.byContradiction fun hx => hc (.inr (.inl hx))
      have hc3 : state = .ready := Decidable.byContradiction fun hx => hc (.inr (.inr hx))
      simp only at h
      split at h
      · rename_i e1 σ1 h1
        split at h
        · rename_i pending1 f1 tm1 ntm1 params1 assign1 body1 dfs1 hat1
          split at h
          · rename_i ex e2 σ2 h2
            split at h
            · cases h
            rename_i hnp
            split at h
            · rename_i st3 pend3 f3 tm3 ntm3 params3 assign3 body3 dfs3 hat3
              cases h
              obtain ⟨ld, ts, f', hd, hh, he, hlt⟩ := getLoop_obj hi hat hl
              have hn2 : σ2.n ≤ N := hN
              have hn1 : σ1.n ≤ N := by
                have := hm _ _ _ _ _ _ _ _ h2
                simp only [St.n_put] at this
                omega
              have hsz : us.toArray.size = params.toArray.size := by simp [← hr.1, hc1]
              refine ⟨f', (params.zip us).foldl (fun tmps (t, a) => tmps.setIfInBounds t a) ts, assign, body, ?_, ?_⟩
              · have hz : ((params.toArray.zip us.toArray).foldl (fun tmps (t, a) => tmps.setIfInBounds t a) ts) = (params.zip us).foldl (fun tmps (t, a) => tmps.setIfInBounds t a) ts := by simp [List.zip_toArray]
                simp only [Instr.yield, Sem.run_bind, run_loop hh, Result.andThen_ok, hsz, ne_eq, not_true_eq_false, if_false, Sem.run_pure, hz]
              · refine roundIn_of_wpIn (hF.fn f') ?_
                rw [hF.inRound]
                refine (hS N ro (some l) f assign _ [] σ _ h1 hn1 (Fence.wide.inRound loc.b) ι { tmps := _, defers := [] } w _ (.inr ⟨l, loc, rfl, hl, rfl⟩) hi (params_ok he hr) trivial ?_).wp
                intro a1 w1 ι1 ch1 i1 l1 e1' d1 p1
                have hl1 := l1.ext _ _ _ hl
                obtain ⟨ld1, ts1, f1', hd1, hh1, he1, hlt1⟩ := getLoop_obj i1 hat1 hl1
                obtain ⟨i2, l2⟩ := putLoop (ro := ro) (st' := .busy) (pend' := pending1) (f' := f1') i1 hc2 hat1 hl1 hd1 he1
                refine ⟨_, by simp only [Instr.beginRound, Sem.run_bind, run_loop hh1, Result.andThen_ok, run_setObj (P := P) hh1 (by simp), Sem.run_pure]; rfl, ?_⟩
                refine (hS N ro (some l) f body _ [] _ _ h2 hn2 (Fence.wide.inRound loc.b) ι1 a1 _ _ (.inr ⟨l, loc, rfl, hl1, rfl⟩) i2 e1' d1 ?_).wp
                intro a2 w2 ι2 ch2 i3 l3 e2' d2 p2
                refine roundPost_of hnp ?_
                have hl2 := l3.ext _ _ _ hl1
                obtain ⟨ld2, ts2, f2', hd2, hh2, he2, hlt2⟩ := getLoop_obj i3 hat3 hl2
                obtain ⟨i4, l4⟩ := putLoop (ro := ro) (st' := if (jumpOf ex).isNone then .ready else .done) (pend' := jumpOf ex) (f' := f2') i3 hc2 hat3 hl2 hd2 he2
                refine ⟨.bool (jumpOf ex).isNone, _, by simp only [Instr.endRound, Sem.run_bind, run_loop hh2, Result.andThen_ok, run_setObj (P := P) hh2 (by simp), Sem.run_pure]; rfl, ι2, ?_, ?_, ?_⟩
                · exact .raw _
                · exact i4
                · have l14 := Le.then i2 hn2 l3 l4
                  have l24 := Le.then i1 (by simp only [St.n_put]; exact hn1) l2 l14
                  exact Le.then hi hn1 l1 l24
            · cases h
          · cases h
        · cases h
      · cases h
  · cases h
end Go.Ev
namespace Go.Ev
variable {P : Program} {N ro m : Nat} {ι : Io} {w : World} {σ : St} {e : Env} {a : Act} {S : Self} {F : Fence} {rd : Option Nat} {Q : Exit → Act → World → Prop}
theorem op_noDefer {ρ : Operand → IV} {o : Oper} {out : OpOut} (h : evOp P ro ρ o σ = some out) (hd : ∀ d, out ≠ .dfr d) : ∀ c, o.op ≠ .defer c := by
  intro c hc
  unfold evOp at h
  rw [hc] at h
  dsimp only at h
  split at h
  · split at h
    · cases h; exact hd _ rfl
    · cases h
  · cases h
theorem evX_ok (hS : CodeOk P S m) (hC : CallOk P S) (hm : CodeMono S) {o : Oper} {v : IV} {σ' : St} {next : Act → World → Prop} (h : evX P S ro e o σ = some (v, σ')) (hN : σ'.n ≤ N) (hF : FOk F rd ι) (hi : Inv N ι σ w)
    (he : EnvR ι e a.tmps) (hQ : ∀ u w' ι', Rv ι' v u → Inv N ι' σ' w' → Le ro ι w σ ι' w' σ' → next (a.put o.dst u) w') : o.wpIn F 0 P a w next Q := by
  refine ⟨fun f _ => hF.fn f, ?_⟩
  unfold evX at h
  split at h
  · rename_i v1 σ1 h1
    cases h
    rw [Oper.semAt_eq _ _ _ (op_noDefer h1 (by simp))]
    obtain ⟨u, w', ι', hr, h2, h3, h4⟩ := op_ok hi he.eval h1 hN
    rcases hr with hr | ⟨hr, rfl⟩
    · rw [hr, Oper.uponIn_value]; exact hQ _ _ _ h2 h3 h4
    · rw [hr, Oper.uponIn_skip]; exact hQ _ _ _ h2 h3 h4
  · rename_i f args h1
    rw [Oper.semAt_eq _ _ _ (op_noDefer h1 (by simp))]
    obtain ⟨us, hr, h2⟩ := op_ok hi he.eval h1
    rw [hr, Oper.uponIn_enter]
    refine ⟨hF.depth, (hF.calls (hC.call N ro f args σ v σ' h hN ι us w hi h2)).mono fun e w' hR => ?_⟩
    cases e with
    | returned u => obtain ⟨ι', h3, h4, h5⟩ := hR; exact hQ _ _ _ h3 h4 h5
    | panicked chain => exact hR.elim
    | outgrown => exact hR.elim
  · rename_i l args h1
    rw [Oper.semAt_eq _ _ _ (op_noDefer h1 (by simp))]
    obtain ⟨loc, us, hl, hr, h2⟩ := op_ok hi he.eval h1
    obtain ⟨f', ts, asg, bd, h3, h4⟩ := round_ok (F := F) hS hm h hN hF hi hl h2
    rw [hr, h3, Oper.uponIn_round]
    refine ⟨hF.depth, RoundIn.mono h4 fun e w' hR => ?_⟩
    cases e with
    | returned u => obtain ⟨ι', h3, h4, h5⟩ := hR; exact hQ _ _ _ h3 h4 h5
    | panicked chain => exact hR.elim
    | outgrown => exact hR.elim
  · cases h
theorem ops_ok (hS : CodeOk P S m) (hC : CallOk P S) (hm : CodeMono S) (hk : CallMono S) {ops : Array Oper} : ∀ {l : List Oper} {k : Nat} {e : Env} {df : List Df} {σ : St} {cr : CR} {ι : Io} {a : Act} {w : World},
    ops.toList.drop k = l → evOps P S ro rd ops l e df σ = some cr → cr.σ.n ≤ N → FOk F rd ι → Inv N ι σ w → EnvR ι e a.tmps → DfL ι df a.defers → Post N ro ι w σ cr Q →
    wpOpsIn F 0 P ops Q (List.range' k l.length) a w
  | [], k, e, df, σ, cr, ι, a, w, hl, h, hN, hF, hi, he, hd, hQ => by
    cases h
    exact hQ a w ι [] hi (Le.refl _ _ _ _) he hd trivial
  | o :: rest, k, e, df, σ, cr, ι, a, w, hl, h, hN, hF, hi, he, hd, hQ => by
    have hrest : ops.toList.drop (k + 1) = rest := by
      rw [← List.drop_drop (i := 1) (j := k), hl]; rfl
    have hok : ops[k]? = some o := by
      have : (ops.toList.drop k)[0]? = some o := by rw [hl]; rfl
      simpa using this
    simp only [List.length_cons, List.range'_succ]
    rw [wpOpsIn_cons]
    unfold wpOpIn
    rw [hok]
    simp only
    unfold evOps at h
    rw [wanted_eq he]
    split at h
    · rename_i hw
      rw [if_pos hw]
      split at h
      · rename_i v σ1 h1
        have hn1 : σ1.n ≤ N := Nat.le_trans (ops_mono hm hk h) hN
        refine evX_ok hS hC hm h1 hn1 hF hi he fun u w' ι' hv i1 l1 => ?_
        exact ops_ok hS hC hm hk hrest h hN (hF.mono l1.ext) i1 ((he.mono l1.ext).put hv _) (hd.mono l1.ext |> fun x => by cases o.dst <;> exact x) (hQ.from hi l1 hn1)
      · split at h
        · rename_i d h1
          split at h
          · rename_i hrd
            have hrn : rd = none := by cases rd with | none => rfl | some _ => cases hrd
            have hFe : F = Fence.wide := by
              rcases hF with ⟨_, h2⟩ | ⟨_, _, h2, _⟩
              · exact h2
              · rw [hrn] at h2; cases h2
            refine ⟨fun f _ => hF.fn f, ?_⟩
            obtain ⟨dd, hr, hdd, c, hc⟩ := op_ok hi he.eval h1
            have hsem : (o.semAt F.round a.eval) = execOp a.eval o := by rw [hFe]; rfl
            rw [hsem, hr, Oper.uponIn_defer]
            refine ops_ok hS hC hm hk hrest h hN hF hi ?_ ?_ hQ
            · cases hdst : o.dst with
              | none => exact he
              | some t => exact he.set rv_undef t
            · cases o.dst <;> exact ⟨hdd, hd⟩
          · cases h
        · rename_i f args h1
          split at h
          · rename_i v σ1 h2
            cases h
            refine ⟨fun f _ => hF.fn f, ?_⟩
            rw [Oper.semAt_eq _ _ _ (op_noDefer h1 (by simp))]
            obtain ⟨us, hr, h3⟩ := op_ok hi he.eval h1
            rw [hr, Oper.uponIn_enter]
            refine ⟨hF.depth, (hF.calls (hC.pan N ro f args σ v σ1 h2 hN ι us w hi h3)).mono fun ed w' hR => ?_⟩
            cases ed with
            | returned u => exact hR.elim
            | outgrown => exact hR.elim
            | panicked chain =>
              obtain ⟨ι', h4, h5, h6⟩ := hR
              exact hQ a w' ι' chain h5 h6 (he.mono h6.ext) (hd.mono h6.ext) h4
          · cases h
        · rename_i v h1
          cases h
          refine ⟨fun f _ => hF.fn f, ?_⟩
          rw [Oper.semAt_eq _ _ _ (op_noDefer h1 (by simp))]
          obtain ⟨u, hr, h3⟩ := op_ok hi he.eval h1
          rw [hr, Oper.uponIn_panic]
          exact hQ a w ι [{ v := u, recovered := false }] hi (Le.refl _ _ _ _) he hd ⟨u, rfl, h3⟩
        · cases h
    · rename_i hw
      rw [if_neg hw]
      exact ⟨fun f _ => hF.fn f, ops_ok hS hC hm hk hrest h hN hF hi (he.put rv_undef _) (by cases o.dst <;> exact hd) hQ⟩
def DrawOk (P : Program) (S : Self) : Prop := ∀ N ro rd ops e df σ cr, evDraw P S ro ops e df σ = some cr → cr.σ.n ≤ N → ∀ F ι a w Q id, FOk F rd ι → Inv N ι σ w → EnvR ι e a.tmps → DfL ι df a.defers →
  Post N ro ι w σ cr Q → (Code.region id ops true).wpIn F 0 P Q a w
theorem rv_bool' {x : IV} {b : Bool} {u : Value} (hx : x = .raw (.bool b)) (h : Rv ι x u) : u = .bool b := by subst hx; cases h; rfl
theorem DfL.append : ∀ {ds : List Df} {xs : List Deferred} {ds' : List Df} {xs' : List Deferred}, DfL ι ds xs → DfL ι ds' xs' → DfL ι (ds ++ ds') (xs ++ xs')
  | [], [], _, _, _, h => h
  | _ :: _, _ :: _, _, _, h, h' => ⟨h.1, DfL.append h.2 h'⟩
  | [], _ :: _, _, _, h, _ => h.elim
  | _ :: _, [], _, _, h, _ => h.elim
def enterI (rd : Option Nat) (σ : St) : Option (Nat × St × List Df) :=
  match rd with
  | none => some (σ.n, σ.add (.dfd false), [.coll σ.n])
  | some l => match σ.at l with
    | some (.loop _ _ _ _ _ _ _ _ dfs) => some (dfs, σ, [])
    | _ => none
theorem enter_ok {dfs : Nat} {σ1 : St} {mark : List Df} (h : enterI rd σ = some (dfs, σ1, mark)) (hN : σ1.n ≤ N) (hF : FOk F rd ι) (hi : Inv N ι σ w) :
    ∃ w1 ι1 ld marks, Inv N ι1 σ1 w1 ∧ Le ro ι w σ ι1 w1 σ1 ∧ ι1 dfs 0 = some ld ∧ DfL ι1 mark marks ∧
      ∀ fn ts ps asg bd, (Instr.enterLoop fn ts ps asg bd F.round).run P w = .ok (w1.heap.size, marks) { w1 with heap := w1.heap.push (.loop { state := .ready, pending := none, fn, tmps := ts, params := ps, assign := asg, body := bd, defers := ld.b }) } := by
  unfold enterI at h
  split at h
  · cases h
    have hFe : F.round = none := by
      rcases hF with ⟨_, rfl⟩ | ⟨_, _, h, _⟩
      · rfl
      · cases h
    obtain ⟨h1, h2⟩ := hi.addObj (ro := ro) (go := .deferred (some [])) (ob := .dfd false) (by simp at hN; omega) ⟨_, updI_self _ _ _ _, by simp⟩
    refine ⟨_, _, ⟨w.heap.size, 1, 1⟩, [{ target := .collected w.heap.size, args := #[] }], h1, h2, updI_self _ _ _ _, ⟨⟨_, updI_self _ _ _ _, rfl⟩, trivial⟩, fun fn ts ps asg bd => ?_⟩
    rw [hFe]
    simp only [Instr.enterLoop, Sem.run_bind, run_newObj, Result.andThen_ok, Sem.run_pure]
  · rename_i l
    split at h
    · rename_i hat
      cases h
      rcases hF with ⟨h, _⟩ | ⟨l', loc, h, hl, rfl⟩
      · cases h
      · cases h
        obtain ⟨ld, ts, f', hd, hh, he, hlt⟩ := getLoop_obj hi hat hl
        refine ⟨w, ι, ld, [], hi, Le.refl _ _ _ _, hd, trivial, fun fn ts ps asg bd => ?_⟩
        simp only [Instr.enterLoop, Fence.inRound, Sem.run_bind, run_loop hh, run_newObj, Result.andThen_ok, Sem.run_pure]
    · cases h
theorem range_ok (hS : CodeOk P S m) (hC : CallOk P S) (hm : CodeMono S) (hk : CallMono S) {fn : FuncId} {g : Operand} {ps : Array Tmp} {asg bd : Code} {df : List Df} {cr : CR}
    (h : evCode P S ro rd fn (.rangeFunc g ps asg bd) e df σ = some cr) (hN : cr.σ.n ≤ N) (hF : FOk F rd ι) (hi : Inv N ι σ w) (he : EnvR ι e a.tmps) (hd : DfL ι df a.defers) (hQ : Post N ro ι w σ cr Q) :
    (Code.rangeFunc g ps asg bd).wpIn F 0 P Q a w := by
  unfold evCode at h
  dsimp only at h
  change (match enterI rd σ with
    | some (dfs, σ, mark) => _
    | none => none) = some cr at h
  split at h
  · rename_i dfs σ1 mark hen
    split at h
    · rename_i f args hcal
      split at h
      · rename_i v3 σ3 hcall
        split at h
        · rename_i st pend f3 tm ntm ps3 as3 bd3 dfs3 hat3
          split at h
          · cases h
          · rename_i hb
            have hb1 : st ≠ .busy := fun hx => hb (.inl hx)
            have hb2 : ro ≤ σ1.n := Decidable.byContradiction fun hx => hb (.inr hx)
            have hn3 : σ3.n ≤ N := by
              split at h
              · cases h; exact hN
              · have := hm _ _ _ _ _ _ _ _ h
                simp only [St.n_put] at this
                omega
            have hn2 := hk.call _ _ _ _ _ _ hcall
            simp only [St.n_add] at hn2
            obtain ⟨w1, ι1, ld, marks, i1, l1, hld, hmk, hent⟩ := enter_ok (P := P) (ro := ro) hen (by omega) hF hi
            refine wpIn_rangeFunc fun fn' _ => ?_
            have hnone := i1.fresh σ1.n (Nat.le_refl _) (by omega) 0
            have hext := updI_ext (l := ⟨w1.heap.size, 1, 1⟩) hnone
            obtain ⟨i2, l2⟩ := i1.addObj (ro := ro) (go := .loop { state := .ready, pending := none, fn := fn', tmps := a.tmps, params := ps, assign := asg, body := bd, defers := ld.b }) (ob := .loop .ready none fn e.t e.n ps.toList asg bd dfs) (by omega)
              ⟨⟨w1.heap.size, 1, 1⟩, ld, a.tmps, fn', updI_self _ _ _ _, hext _ _ _ hld, by simp, he.1.symm, fun t => ((he.2 t).mono l1.ext).mono hext⟩
            have hl2 : updI ι1 σ1.n 0 ⟨w1.heap.size, 1, 1⟩ σ1.n 0 = some ⟨w1.heap.size, 1, 1⟩ := updI_self _ _ _ _
            generalize hw2 : ({ w1 with heap := w1.heap.push (.loop { state := .ready, pending := none, fn := fn', tmps := a.tmps, params := ps, assign := asg, body := bd, defers := ld.b }) } : World) = w2 at i2 l2
            generalize updI ι1 σ1.n 0 ⟨w1.heap.size, 1, 1⟩ = ι2 at i2 l2 hl2 hext
            obtain ⟨d, hres, hcl⟩ := callee_ok (w := w2) (((he.mono l1.ext).mono hext).eval g) (RvL.cons (.yld σ1.n _ hl2) RvL.nil) hcal
            rcases hcl with ⟨f', as, vs, he', hinv, hvs, _⟩ | ⟨_, _, he', _⟩
            · cases he'
              refine ⟨w1.heap.size, marks, w2, d, w2, f, vs.toArray, w2, by rw [hent, hw2], ?_, fun f' _ => hF.fn f', hinv, hF.depth, ?_⟩
              · simpa [resolve, rangeCall, Act.eval] using hres
              · refine (hF.calls (hC.call N ro f args _ _ _ hcall hn3 ι2 vs w2 i2 hvs)).mono fun ed w3 hR => ?_
                cases ed with
                | panicked chain => exact hR.elim
                | outgrown => exact hR.elim
                | returned u =>
                  obtain ⟨ι3, _, i3, l3⟩ := hR
                  have hl3 := l3.ext _ _ _ hl2
                  obtain ⟨ld3, ts3, f3', hd3, hh3, he3, hlt3⟩ := getLoop_obj i3 hat3 hl3
                  obtain ⟨i4, l4⟩ := putLoop (ro := ro) (st' := .exhausted) (pend' := pend) (f' := f3') i3 hb2 hat3 hl3 hd3 he3
                  refine ⟨pend, _, by simp only [Instr.endLoop, Sem.run_bind, run_loop hh3, Result.andThen_ok, ready_beq st hb1, Bool.false_eq_true, if_false, run_setObj (P := P) hh3 (by simp), Sem.run_pure]; rfl, ?_⟩
                  have l34 := Le.then i2 hn3 l3 l4
                  have l24 := Le.then i1 (by simp only [St.n_add]; omega) l2 l34
                  have l14 := Le.then hi (by omega) l1 l24
                  have e4 : EnvR ι3 e a.tmps := he.mono l14.ext
                  have d4 : DfL ι3 (mark ++ df) (marks ++ a.defers) := (hmk.mono l24.ext).append (hd.mono l14.ext)
                  split at h
                  · cases h
                    exact hQ _ _ _ [] i4 l14 e4 d4 trivial
                  · rename_i c
                    exact (hS N ro rd fn c e _ _ cr h hN F ι3 { a with defers := marks ++ a.defers } _ Q (hF.mono l14.ext) i4 e4 d4 (hQ.from hi l14 (by simp only [St.n_put]; exact hn3))).wp
            · cases he'
        · cases h
      · cases h
    · cases h
  · cases h
theorem code_ok (hS : CodeOk P S m) (hC : CallOk P S) (hm : CodeMono S) (hk : CallMono S) (hD : DrawOk P S) : CodeOk P (evStep P S) (m + 1) := by
  intro N ro rd fn c e df σ cr h hN F ι a w Q hF hi he hd hQ
  change evCode P S ro rd fn c e df σ = some cr at h
  cases c <;> unfold evCode at h <;> dsimp only at h
  case skip => cases h; exact wpIn_skip (hQ a w ι [] hi (Le.refl _ _ _ _) he hd trivial)
  case label => cases h; exact wpIn_label (hQ a w ι [] hi (Le.refl _ _ _ _) he hd trivial)
  case exit => cases h; exact wpIn_exit (hQ a w ι [] hi (Le.refl _ _ _ _) he hd trivial)
  case goto => cases h; exact wpIn_goto (hQ a w ι [] hi (Le.refl _ _ _ _) he hd trivial)
  case ret => cases h; exact wpIn_ret (hQ a w ι [] hi (Le.refl _ _ _ _) he hd trivial)
  case refuse => cases h
  case region id ops draw =>
    split at h
    · rename_i hdr; subst hdr; exact hD N ro rd ops e df σ cr h hN F ι a w Q id hF hi he hd hQ
    · rename_i hdr
      have : draw = false := by simpa using hdr
      subst this
      refine wpIn_region ?_
      have := ops_ok (k := 0) hS hC hm hk (by simp) h hN hF hi he hd hQ
      rw [List.range_eq_range']
      simpa using this
  case seq x y =>
    refine wpIn_seq ?_
    split at h
    · rename_i e1 df1 σ1 h1
      have hn1 : σ1.n ≤ N := Nat.le_trans (hm _ _ _ _ _ _ _ _ h) hN
      refine (hS N ro rd fn x e df σ _ h1 hn1 F ι a w _ hF hi he hd ?_).wp
      intro a1 w1 ι1 ch1 i1 l1 e1' d1 p1
      exact (hS N ro rd fn y _ _ _ _ h hN F ι1 a1 w1 Q (hF.mono l1.ext) i1 e1' d1 (hQ.from hi l1 hn1)).wp
    · rename_i hno
      refine (hS N ro rd fn x e df σ _ h hN F ι a w _ hF hi he hd ?_).wp
      intro a1 w1 ι1 ch1 i1 l1 e1' d1 p1
      have := hQ a1 w1 ι1 ch1 i1 l1 e1' d1 p1
      cases hx : cr.ex with
      | normal => exact absurd (by rw [h]; cases cr; cases hx; rfl) (hno cr.e cr.df cr.σ)
      | exit id => rw [hx] at this; exact this
      | goto l => rw [hx] at this; exact this
      | ret => rw [hx] at this; exact this
      | pan v => rw [hx] at this; exact this
  case cond c x y =>
    split at h
    · rename_i t ht
      have hc := rv_bool' ht (he.eval c)
      exact wpIn_cond hc (hS N ro rd fn _ e df σ cr h hN F ι a w Q hF hi he hd hQ).wp
    · cases h
  case block id x =>
    refine wpIn_block ?_
    split at h
    · rename_i id' e1 df1 σ1 h1
      have hn1 : σ1.n ≤ N := by
        split at h <;> (cases h; exact hN)
      refine (hS N ro rd fn x e df σ _ h1 hn1 F ι a w _ hF hi he hd ?_).wp
      intro a1 w1 ι1 ch1 i1 l1 e1' d1 p1
      simp only [exOf, Exit.inBlock]
      split at h
      · rename_i hid
        cases h
        rw [if_pos hid]
        exact hQ a1 w1 ι1 ch1 i1 l1 e1' d1 p1
      · rename_i hid
        cases h
        rw [if_neg hid]
        exact hQ a1 w1 ι1 ch1 i1 l1 e1' d1 p1
    · rename_i hno
      refine (hS N ro rd fn x e df σ _ h hN F ι a w _ hF hi he hd ?_).wp
      intro a1 w1 ι1 ch1 i1 l1 e1' d1 p1
      have := hQ a1 w1 ι1 ch1 i1 l1 e1' d1 p1
      cases hx : cr.ex with
      | exit id' => exact absurd (by rw [h]; cases cr; cases hx; rfl) (hno id' cr.e cr.df cr.σ)
      | normal => rw [hx] at this; exact this
      | goto l => rw [hx] at this; exact this
      | ret => rw [hx] at this; exact this
      | pan v => rw [hx] at this; exact this
  case loop x =>
    show Code.roundsIn F 0 P x Q (m + 1) a w
    rw [roundsIn_succ]
    split at h
    · rename_i e1 df1 σ1 h1
      have hn1 : σ1.n ≤ N := Nat.le_trans (hm _ _ _ _ _ _ _ _ h) hN
      refine (hS N ro rd fn x e df σ _ h1 hn1 F ι a w _ hF hi he hd ?_).wp
      intro a1 w1 ι1 ch1 i1 l1 e1' d1 p1
      exact hS N ro rd fn (.loop x) _ _ _ _ h hN F ι1 a1 w1 Q (hF.mono l1.ext) i1 e1' d1 (hQ.from hi l1 hn1)
    · rename_i hno
      refine (hS N ro rd fn x e df σ _ h hN F ι a w _ hF hi he hd ?_).wp
      intro a1 w1 ι1 ch1 i1 l1 e1' d1 p1
      have := hQ a1 w1 ι1 ch1 i1 l1 e1' d1 p1
      cases hx : cr.ex with
      | normal => exact absurd (by rw [h]; cases cr; cases hx; rfl) (hno cr.e cr.df cr.σ)
      | exit id => rw [hx] at this; exact this
      | goto l => rw [hx] at this; exact this
      | ret => rw [hx] at this; exact this
      | pan v => rw [hx] at this; exact this
  case scope x =>
    refine wpIn_scope ?_
    split at h
    · cases h
    · rename_i hno
      refine (hS N ro rd fn x e df σ _ h hN F ι a w _ hF hi he hd ?_).wp
      intro a1 w1 ι1 ch1 i1 l1 e1' d1 p1
      have := hQ a1 w1 ι1 ch1 i1 l1 e1' d1 p1
      cases hx : cr.ex with
      | goto l => exact absurd (by rw [h]; cases cr; cases hx; rfl) (hno l cr.e cr.df cr.σ)
      | normal => rw [hx] at this; exact this
      | exit id => rw [hx] at this; exact this
      | ret => rw [hx] at this; exact this
      | pan v => rw [hx] at this; exact this
  case rangeFunc g params assign body =>
    exact range_ok hS hC hm hk (by unfold evCode; exact h) hN hF hi he hd hQ
end Go.Ev
namespace Go.Ev
variable {P : Program} {N ro m : Nat} {ι : Io} {w : World} {σ : St} {e : Env} {a : Act} {S : Self} {F : Fence} {rd : Option Nat} {Q : Exit → Act → World → Prop}
theorem mode_ne {m : Option IV} {u : FrameMode} (h : ModeR ι m u) : u ≠ .run := by
  cases m with
  | none => rw [show u = _ from h]; simp
  | some v => obtain ⟨x, rfl, _⟩ := h; simp
theorem leave_ok (hC : CallOk P S) (hk : CallMono S) {fn : Func} {ts : Array Value} {R : Ending → World → Prop} : ∀ {df : List Df} {ds : List Deferred} {σ σ' : St} {m m' : Option IV} {u : FrameMode} {ι : Io} {w : World}, evLeave S ro df m σ = some (m', σ') →
    DfL ι df ds → ModeR ι m u → Inv N ι σ w → σ'.n ≤ N →
    (∀ w' ι' u', Inv N ι' σ' w' → Le ro ι w σ ι' w' σ' → ModeR ι' m' u' → LeavesIn Fence.wide 0 P fn ts R [] u' w') → LeavesInM Fence.wide 0 P fn ts R ds u w
  | [], [], σ, σ', m, m', u, ι, w, h, _, hu, hi, _, hQ => by
    cases h
    exact hQ w ι u hi (Le.refl _ _ _ _) hu
  | .coll id :: df, d :: ds, σ, σ', m, m', u, ι, w, h, hd, hu, hi, hn, hQ => by
    unfold evLeave at h
    obtain ⟨⟨l, hl, rfl⟩, hd'⟩ := hd
    split at h
    · rename_i hat
      split at h
      · rename_i hro
        obtain ⟨l', hl', hh⟩ := hi.obj id _ hat
        rw [hl] at hl'; cases hl'
        have hlt := hi.bnd id _ ⟨0, l, hl, rfl⟩
        obtain ⟨i1, l1⟩ := hi.setObj' (ro := ro) (go := .deferred none) (ob' := .dfd true) hat hro hl ⟨l, hl, heap_set hlt⟩
        have hnm := leave_mono hk h
        simp only [St.n_put] at hnm
        refine ⟨mode_ne hu, .inl ⟨l.b, _, rfl, ?_, leave_ok hC hk h hd' hu i1 hn fun w' ι' u' i2 l2 hu' => hQ w' ι' u' i2 (Le.then hi (by simp only [St.n_put]; omega) l1 l2) hu'⟩⟩
        simp only [Instr.takeDeferred, Sem.run_bind, run_getObj (P := P) hh (by simp), Result.andThen_ok, Bool.false_eq_true, if_false, run_setObj (P := P) hh (by simp), Sem.run_pure]
      · cases h
    · cases h
  | .call f args :: df, d :: ds, σ, σ', m, m', u, ι, w, h, hd, hu, hi, hn, hQ => by
    unfold evLeave at h
    obtain ⟨⟨cap, us, vs, rfl, hvs, hcap⟩, hd'⟩ := hd
    split at h
    · rename_i m1 σ1 h1
      have hnm := leave_mono hk h
      have hc := hC.dcl N ro f args m σ m1 σ1 h1 (by omega) ι vs u w hu hi hvs
      refine ⟨mode_ne hu, .inr ⟨by simp [Fence.wide], .func f, cap.toArray, f, vs.toArray, rfl, ?_, fun g _ => trivial, ?_⟩⟩
      · obtain ⟨fn', hfn, hb⟩ := hC.ent ro f args m σ m1 σ1 h1
        simp only [invoke]
        rw [callFunc_ok hfn hb, hcap]
        simp
      · refine hc.mono fun e u' w' hR => ?_
        cases e with
        | returned v =>
          obtain ⟨ι1, hu1, i1, l1⟩ := hR
          exact leave_ok hC hk h (hd'.mono l1.ext) hu1 i1 hn fun w2 ι2 u2 i2 l2 hu2 => hQ w2 ι2 u2 i2 (Le.then hi (by omega) l1 l2) hu2
        | panicked chain => exact hR.elim
        | outgrown => exact hR.elim
    · cases h
  | [], _ :: _, _, _, _, _, _, _, _, _, h, _, _, _, _ => h.elim
  | .coll _ :: _, [], _, _, _, _, _, _, _, _, h, _, _, _, _ => h.elim
  | .call _ _ :: _, [], _, _, _, _, _, _, _, _, h, _, _, _, _ => h.elim
def oneI (P : Program) (e : Env) (σ : St) (r : ResultVar) : Option IV :=
  match r with
  | .tmp t => some (e.at t)
  | .cell a t => match e.at a with
    | .ptr id off ep ext => match sizeOf? P t, σ.at id with
      | some s, some (.cells cs cep mn) => if s ≤ ext ∧ mn ≤ ep ∧ ep ≤ cep then partOf P t cs off else none
      | _, _ => none
    | _ => none
def oneM (ts : Array Value) (r : ResultVar) : Sem Value :=
  match r with
  | .tmp t => pure (ts.getD t Go.undef)
  | .cell a t => do loadVar t (← asAddr (ts.getD a Go.undef))
theorem one_ok {ts : Array Value} {r : ResultVar} {v : IV} (h : oneI P e σ r = some v) (hi : Inv N ι σ w) (he : EnvR ι e ts) : ∃ u, (oneM ts r).run P w = .ok u w ∧ Rv ι v u := by
  unfold oneI at h
  unfold oneM
  cases r with
  | tmp t => cases h; exact ⟨_, by simp only [Sem.run_pure], he.2 t⟩
  | cell a t =>
    simp only at h ⊢
    have hr := he.2 a
    split at h
    · rename_i id off ep ext hx
      rw [hx] at hr
      split at h
      · rename_i s cs cep mn hs hat
        split at h
        · rename_i hc
          obtain ⟨ad, x, hu, h1, h2⟩ := run_load_ptr hi hs hat hc.1 hc.2.1 hc.2.2 h hr
          refine ⟨x, ?_, h2⟩
          rw [hu]
          simp only [asAddr, Sem.run_bind, Sem.run_pure, Result.andThen_ok, h1]
        · cases h
      · cases h
    · cases h
theorem ones_ok {ts : Array Value} (hi : Inv N ι σ w) (he : EnvR ι e ts) : ∀ {rs : List ResultVar} {vs : List IV}, rs.mapM (oneI P e σ) = some vs → ∃ us, (rs.mapM (oneM ts)).run P w = .ok us w ∧ RvL ι vs us
  | [], vs, h => by
    simp only [List.mapM_nil] at h
    cases h
    exact ⟨[], by simp only [List.mapM_nil, Sem.run_pure], RvL.nil⟩
  | r :: rs, vs, h => by
    rw [List.mapM_cons] at h
    cases h1 : oneI P e σ r with
    | none => rw [h1] at h; cases h
    | some v =>
      rw [h1] at h
      cases h2 : rs.mapM (oneI P e σ) with
      | none => rw [h2] at h; cases h
      | some vs' =>
        rw [h2] at h
        cases h
        obtain ⟨u, k1, k2⟩ := one_ok h1 hi he
        obtain ⟨us, k3, k4⟩ := ones_ok hi he h2
        exact ⟨u :: us, by simp only [List.mapM_cons, Sem.run_bind, k1, Result.andThen_ok, k3, Sem.run_pure], RvL.cons k2 k4⟩
theorem results_eq (fn : Func) (ts : Array Value) : results fn ts = (do
    let vs ← fn.results.mapM (oneM ts)
    pure (if h : vs.size = 1 then vs[0] else .tuple vs)) := by
  unfold results
  have : (fun r : ResultVar => (match r with | .tmp t => pure (ts.getD t Go.undef) | .cell a t => do loadVar t (← asAddr (ts.getD a Go.undef)) : Sem Value)) = oneM ts := by
    funext r
    cases r <;> rfl
  rw [← this]
  rfl
theorem resultOf_eq {fn : Func} {v : IV} (h : resultOf P fn e σ = some v) : ∃ vs, fn.results.toList.mapM (oneI P e σ) = some vs ∧ ((∃ x, vs = [x] ∧ v = x) ∨ (vs.length ≠ 1 ∧ v = .tup vs)) := by
  unfold resultOf at h
  dsimp only at h
  change (match fn.results.toList with
    | [r] => oneI P e σ r
    | l => match l.mapM (oneI P e σ) with
      | some vs => some (.tup vs)
      | none => none) = some v at h
  split at h
  · rename_i r hl
    exact ⟨[v], by rw [hl, List.mapM_cons, h]; rfl, .inl ⟨v, rfl, rfl⟩⟩
  · rename_i hl
    split at h
    · rename_i vs hvs
      cases h
      refine ⟨vs, hvs, .inr ⟨fun hlen => ?_, rfl⟩⟩
      have hl1 : fn.results.toList.length = vs.length := by
        clear hl hlen
        generalize fn.results.toList = l at hvs
        induction l generalizing vs with
        | nil => cases hvs; rfl
        | cons r rs ih =>
          rw [List.mapM_cons] at hvs
          cases h1 : oneI P e σ r with
          | none => rw [h1] at hvs; cases hvs
          | some v =>
            rw [h1] at hvs
            cases h2 : rs.mapM (oneI P e σ) with
            | none => rw [h2] at hvs; cases hvs
            | some vs' =>
              rw [h2] at hvs
              cases hvs
              simp [ih _ h2]
      cases hc : fn.results.toList with
      | nil => rw [hc] at hl1; simp at hl1; omega
      | cons r rs =>
        cases rs with
        | nil => exact hl r hc
        | cons r2 rs2 => rw [hc] at hl1; simp at hl1; omega
    · cases h
theorem results_ok {fn : Func} {ts : Array Value} {v : IV} (h : resultOf P fn e σ = some v) (hi : Inv N ι σ w) (he : EnvR ι e ts) : ∃ u, (results fn ts).run P w = .ok u w ∧ Rv ι v u := by
  obtain ⟨vs, hvs, h⟩ := resultOf_eq h
  obtain ⟨us, h1, h2⟩ := ones_ok hi he hvs
  have hm : (fn.results.mapM (oneM ts)).run P w = .ok us.toArray w := by
    rw [Array.mapM_eq_mapM_toList, Sem.run_map, h1]
    rfl
  rw [results_eq]
  simp only [Sem.run_bind, hm, Result.andThen_ok, Sem.run_pure]
  refine ⟨_, rfl, ?_⟩
  rcases h with ⟨x, rfl, rfl⟩ | ⟨hlen, rfl⟩
  · obtain ⟨u, rfl, hu⟩ := rvl_one h2
    simpa using hu
  · have : ¬ us.toArray.size = 1 := by rw [List.size_toArray, ← h2.1]; exact hlen
    rw [dif_neg this]
    exact rvtup h2
theorem args_env : ∀ {args : List IV} {us : List Value} {k : Nat} {e : Env} {ts : Array Value}, EnvR ι e ts → RvL ι args us →
    EnvR ι ((args.zipIdx k).foldl (fun e (v, i) => e.put (some i) v) e) ((us.zipIdx k).foldl (fun ts (u, i) => ts.setIfInBounds i u) ts)
  | [], us, k, e, ts, h, hr => by rw [hr.of_nil]; exact h
  | v :: args, us, k, e, ts, h, hr => by
    obtain ⟨u, us', rfl, h1, h2⟩ := hr.uncons
    simp only [List.zipIdx_cons, List.foldl_cons]
    exact args_env (h.set h1 k) h2
theorem zipIdx_set : ∀ (us : List Value) (k : Nat) (ts : Array Value), k + us.length ≤ ts.size → (us.zipIdx k).foldl (fun ts (u, i) => ts.setIfInBounds i u) ts = (ts.toList.take k ++ us ++ ts.toList.drop (k + us.length)).toArray
  | [], k, ts, _ => by simp
  | u :: us, k, ts, h => by
    simp only [List.zipIdx_cons, List.foldl_cons]
    simp only [List.length_cons] at h
    rw [zipIdx_set us (k + 1) _ (by simp; omega)]
    congr 1
    simp only [Array.toList_setIfInBounds, List.length_cons]
    have h1 : (ts.toList.set k u).take (k + 1) = ts.toList.take k ++ [u] := by
      have hk : k < ts.toList.length := by simp; omega
      rw [List.take_add_one, List.getElem?_set_self hk]
      simp [List.take_set_of_le]
    have h2 : (ts.toList.set k u).drop (k + 1 + us.length) = ts.toList.drop (k + (us.length + 1)) := by
      rw [List.drop_set_of_lt (by omega)]
      congr 1
      omega
    rw [h1, h2]
    simp
theorem env_new (n : Nat) : EnvR ι ⟨n, .lf⟩ (Array.replicate n Go.undef) := by
  refine ⟨by simp, fun t => ?_⟩
  have : (Array.replicate n Go.undef).getD t Go.undef = Go.undef := by
    rw [Array.getD_eq_getD_getElem?, Array.getElem?_replicate]
    split <;> rfl
  rw [this]
  exact .raw _
theorem env_args {args : List IV} {us : List Value} {n : Nat} (hr : RvL ι args us) (hn : args.length ≤ n) :
    EnvR ι (args.zipIdx.foldl (fun e (v, i) => e.put (some i) v) ⟨n, .lf⟩) (us.toArray ++ Array.replicate (n - us.toArray.size) Go.undef) := by
  have h := args_env (k := 0) (env_new (ι := ι) n) hr
  have hl := hr.1
  rw [zipIdx_set us 0 _ (by simp; omega)] at h
  have : (us.toArray ++ Array.replicate (n - us.toArray.size) Go.undef) = ((Array.replicate n Go.undef).toList.take 0 ++ us ++ (Array.replicate n Go.undef).toList.drop (0 + us.length)).toArray := by
    simp
  rw [this]
  exact h
theorem body_ok (hS : CodeOk P S m) (hC : CallOk P S) (hm : CodeMono S) (hk : CallMono S) {f : FuncId} {args : List IV} {fn1 : Func} {e' : Env} {mo : Option IV} {σ' : St} {us : List Value} {R : Ending → World → Prop}
    (h : evBody P S ro f args σ = some (fn1, e', mo, σ')) (hN : σ'.n ≤ N) (hi : Inv N ι σ w) (hr : RvL ι args us)
    (hQ : ∀ ts w' ι' u', Inv N ι' σ' w' → Le ro ι w σ ι' w' σ' → EnvR ι' e' ts → ModeR ι' mo u' → LeavesIn Fence.wide 0 P fn1 ts R [] u' w') : CallsIn Fence.wide 0 P f us.toArray w R := by
  unfold evBody at h
  split at h
  · rename_i fn hfn
    split at h
    · rename_i c hb
      split at h
      · cases h
      · rename_i hlen
        simp only at h
        have key : ∀ {ex : Ex} {e1 : Env} {df : List Df} {σ1 : St} {mi : Option IV}, S.code ro none f c (args.zipIdx.foldl (fun e (v, i) => e.put (some i) v) ⟨fn.ntmps, .lf⟩) [] σ = some ⟨ex, e1, df, σ1⟩ →
            (((ex = .normal ∨ ex = .ret) ∧ mi = none) ∨ ∃ v, ex = .pan v ∧ mi = some v) →
            (match evLeave S ro df mi σ1 with
              | some (m, σ) => some (fn, e1, m, σ)
              | none => none) = some (fn1, e', mo, σ') → CallsIn Fence.wide 0 P f us.toArray w R := by
          intro ex e1 df σ1 mi h1 hex h
          split at h
          · rename_i m2 σ2 h2
            obtain ⟨rfl, rfl, rfl, rfl⟩ : fn = fn1 ∧ e1 = e' ∧ m2 = mo ∧ σ2 = σ' := by cases h; exact ⟨rfl, rfl, rfl, rfl⟩
            clear h
            have hnm := leave_mono hk h2
            have hn1 : σ1.n ≤ N := by omega
            refine callsIn_of_wp_marks hfn hb trivial ?_
            refine (hS N ro none f c _ [] σ _ h1 hn1 Fence.wide ι { tmps := us.toArray ++ Array.replicate (fn.ntmps - us.toArray.size) Go.undef, defers := [] } w _ (.inl ⟨rfl, rfl⟩) hi (env_args hr (by omega)) trivial ?_).wp
            intro a1 w1 ι1 ch1 i1 l1 e1' d1 p1
            have : ∀ u, ModeR ι1 mi u → LeavesInM Fence.wide 0 P fn a1.tmps R a1.defers u w1 := fun u hu =>
              leave_ok hC hk h2 d1 hu i1 hN fun w2 ι2 u2 i2 l2 hu2 => hQ a1.tmps w2 ι2 u2 i2 (Le.then hi hn1 l1 l2) (e1'.mono l2.ext) hu2
            rcases hex with ⟨rfl | rfl, rfl⟩ | ⟨v, rfl, rfl⟩
            · exact this _ rfl
            · exact this _ rfl
            · obtain ⟨u, rfl, hu⟩ := p1
              exact this _ ⟨u, rfl, hu⟩
          · cases h
        split at h
        · rename_i h1; exact key h1 (.inl ⟨.inl rfl, rfl⟩) h
        · rename_i h1; exact key h1 (.inl ⟨.inr rfl, rfl⟩) h
        · rename_i h1; exact key h1 (.inr ⟨_, rfl, rfl⟩) h
        · cases h
    · cases h
  · cases h
def ModeD (ι : Io) : Option IV → FrameMode → Prop
  | none, u => u = .returning ∨ ∃ x, u = .panicking [{ v := x, recovered := true }]
  | some v, u => ∃ x, u = .panicking [{ v := x, recovered := false }] ∧ Rv ι v x
theorem ModeD.of {m : Option IV} {u : FrameMode} (h : ModeR ι m u) : ModeD ι m u := by
  cases m with
  | none => exact .inl h
  | some v => exact h
theorem ModeD.mono {ι' : Io} (hι : Ext ι ι') {m : Option IV} {u : FrameMode} (h : ModeD ι m u) : ModeD ι' m u := by
  cases m with
  | none => exact h
  | some v => obtain ⟨x, h1, h2⟩ := h; exact ⟨x, h1, h2.mono hι⟩
theorem ModeD.settle {m : Option IV} {u : FrameMode} (h : ModeD ι m u) : ModeR ι m (Go.settle u) := by
  cases m with
  | none =>
    rcases h with rfl | ⟨x, rfl⟩
    · rfl
    · rfl
  | some v => obtain ⟨x, rfl, h2⟩ := h; exact ⟨x, rfl, h2⟩
def PostD (N ro : Nat) (ι : Io) (w : World) (σ : St) (cr : CR) (m : Option IV) (c0 : Frame) (cs0 : List Frame) (Q : Exit → Act → List Frame → World → Prop) : Prop :=
  ∀ a' w' ι' u' ch, Inv N ι' cr.σ w' → Le ro ι w σ ι' w' cr.σ → EnvR ι' cr.e a'.tmps → DfL ι' cr.df a'.defers → PanR ι' ch cr.ex → ModeD ι' m u' → Q (exOf ch cr.ex) a' ({ c0 with mode := u' } :: cs0) w'
theorem dops_ok {ops : Array Oper} {Q : Exit → Act → List Frame → World → Prop} {c0 : Frame} {cs0 : List Frame} : ∀ {l : List Oper} {k : Nat} {e : Env} {σ : St} {e' : Env} {mo mo' : Option IV} {σ' : St} {ι : Io} {a : Act} {u : FrameMode} {w : World},
    ops.toList.drop k = l → evDOps P ro ops l e mo σ = some (e', mo', σ') → σ'.n ≤ N → Inv N ι σ w → EnvR ι e a.tmps → a.defers = [] → ModeD ι mo u → PostD N ro ι w σ ⟨.normal, e', [], σ'⟩ mo' c0 cs0 Q →
    wpOpsSIn Fence.wide 0 P ops Q (List.range' k l.length) a ({ c0 with mode := u } :: cs0) w
  | [], k, e, σ, e', mo, mo', σ', ι, a, u, w, hl, h, hN, hi, he, hd, hu, hQ => by
    cases h
    exact hQ a w ι u [] hi (Le.refl _ _ _ _) he (by rw [hd]; trivial) trivial hu
  | o :: rest, k, e, σ, e', mo, mo', σ', ι, a, u, w, hl, h, hN, hi, he, hd, hu, hQ => by
    have hrest : ops.toList.drop (k + 1) = rest := by
      rw [← List.drop_drop (i := 1) (j := k), hl]; rfl
    have hok : ops[k]? = some o := by
      have : (ops.toList.drop k)[0]? = some o := by rw [hl]; rfl
      simpa using this
    simp only [List.length_cons, List.range'_succ]
    unfold wpOpsSIn
    rw [hok]
    simp only
    refine ⟨fun f _ => trivial, ?_⟩
    have hput : ∀ v, (a.put o.dst v).defers = [] := fun v => by cases o.dst <;> exact hd
    unfold evDOps at h
    rw [wanted_eq he]
    split at h
    · rename_i hw
      rw [if_pos hw]
      split at h
      · rename_i hrec
        have hex : (execOp a.eval o).run P w = .ok .recover w := by
          unfold isRecover at hrec
          split at hrec
          · rename_i hop
            simp only [execOp, hop, resolve, Sem.run_bind, Sem.run_pure, Result.andThen_ok, invoke, builtin]
          · cases hrec
        rw [hex]
        simp only
        split at h
        · rename_i v
          obtain ⟨x, rfl, hx⟩ := hu
          simp only [recoverD]
          exact dops_ok hrest h hN hi (he.put hx _) (hput _) (.inr ⟨x, rfl⟩) hQ
        · have hnone : recoverD ({ c0 with mode := u } :: cs0) = none := by
            rcases hu with rfl | ⟨x, rfl⟩ <;> rfl
          rw [hnone]
          simp only
          exact dops_ok hrest h hN hi (he.put (.raw _) _) (hput _) hu hQ
      · split at h
        · rename_i v σ1 h1
          have hn1 : σ1.n ≤ N := Nat.le_trans (dops_mono h) hN
          obtain ⟨u1, w1, ι1, hr, h2, h3, h4⟩ := op_ok hi he.eval h1 hn1
          have hQ' : PostD N ro ι1 w1 σ1 ⟨.normal, e', [], σ'⟩ mo' c0 cs0 Q := fun a' w' ι' u' ch g1 g2 g3 g4 g5 g6 => hQ a' w' ι' u' ch g1 (Le.then hi hn1 h4 g2) g3 g4 g5 g6
          rcases hr with hr | ⟨hr, rfl⟩
          · rw [hr]
            simp only
            exact dops_ok hrest h hN h3 ((he.mono h4.ext).put h2 _) (hput _) (hu.mono h4.ext) hQ'
          · rw [hr]
            simp only
            exact dops_ok hrest h hN h3 ((he.mono h4.ext).put h2 _) (hput _) (hu.mono h4.ext) hQ'
        · cases h
    · rename_i hw
      rw [if_neg hw]
      exact dops_ok hrest h hN hi (he.put rv_undef _) (hput _) hu hQ
theorem d_ok (hS : CodeOk P S m) (hm : CodeMono S) {fn : FuncId} {c0 : Frame} {cs0 : List Frame} : ∀ {c : Code} {Q : Exit → Act → List Frame → World → Prop} {e : Env} {mo mo' : Option IV} {σ : St} {cr : CR} {ι : Io} {a : Act} {u : FrameMode} {w : World},
    evD P S ro fn c e mo σ = some (cr, mo') → cr.σ.n ≤ N → Inv N ι σ w → EnvR ι e a.tmps → a.defers = [] → ModeD ι mo u → PostD N ro ι w σ cr mo' c0 cs0 Q → c.wpSIn Fence.wide 0 P Q a ({ c0 with mode := u } :: cs0) w := by
  intro c
  have other : ∀ {c : Code} {Q : Exit → Act → List Frame → World → Prop} {e : Env} {mo mo' : Option IV} {σ : St} {cr : CR} {ι : Io} {a : Act} {u : FrameMode} {w : World}, (match S.code ro none fn c e [] σ with | some r => some (r, mo) | none => none) = some (cr, mo') →
      cr.σ.n ≤ N → Inv N ι σ w → EnvR ι e a.tmps → a.defers = [] → ModeD ι mo u → PostD N ro ι w σ cr mo' c0 cs0 Q → c.wpSIn Fence.wide 0 P Q a ({ c0 with mode := u } :: cs0) w := by
    intro c Q e mo mo' σ cr ι a u w h hN hi he hd hu hQ
    split at h
    · rename_i h1
      cases h
      refine wpSIn_of_wpIn rfl ?_
      refine (hS N ro none fn c e [] σ _ h1 hN Fence.wide ι a w _ (.inl ⟨rfl, rfl⟩) hi he (by rw [hd]; trivial) ?_).wp
      intro a1 w1 ι1 ch1 i1 l1 e1 d1 p1
      exact hQ a1 w1 ι1 u ch1 i1 l1 e1 d1 p1 (hu.mono l1.ext)
    · cases h
  induction c with
  | seq x y ihx ihy =>
    intro Q e mo mo' σ cr ι a u w h hN hi he hd hu hQ
    unfold evD at h
    refine wpSIn_seq ?_
    split at h
    · rename_i e1 σ1 m1 h1
      have hn1 : σ1.n ≤ N := Nat.le_trans (evD_mono hm h) hN
      refine ihx h1 hn1 hi he hd hu ?_
      intro a1 w1 ι1 u1 ch1 i1 l1 e1' d1 p1 hu1
      exact ihy h hN i1 e1' d1.nil hu1 fun a' w' ι' u' ch g1 g2 g3 g4 g5 g6 => hQ a' w' ι' u' ch g1 (Le.then hi hn1 l1 g2) g3 g4 g5 g6
    · cases h
    · rename_i hno1 hno2
      refine ihx h hN hi he hd hu ?_
      intro a1 w1 ι1 u1 ch1 i1 l1 e1' d1 p1 hu1
      have := hQ a1 w1 ι1 u1 ch1 i1 l1 e1' d1 p1 hu1
      cases hx : cr.ex with
      | normal => exact absurd (by rw [h]; cases cr; cases hx; rfl) (hno2 cr.e cr.df cr.σ mo')
      | exit id => rw [hx] at this; exact this
      | goto l => rw [hx] at this; exact this
      | ret => rw [hx] at this; exact this
      | pan v => rw [hx] at this; exact this
  | region id ops draw =>
    intro Q e mo mo' σ cr ι a u w h hN hi he hd hu hQ
    unfold evD at h
    split at h
    · rename_i hc
      have hdr : draw = false := by
        cases draw with
        | false => rfl
        | true => simp at hc
      subst hdr
      split at h
      · rename_i h1
        cases h
        refine wpSIn_region ?_
        have := dops_ok (k := 0) (by simp) h1 hN hi he hd hu hQ
        rw [List.range_eq_range']
        simpa using this
      · cases h
    · exact other h hN hi he hd hu hQ
  | _ =>
    intro Q e mo mo' σ cr ι a u w h hN hi he hd hu hQ
    unfold evD at h
    exact other h hN hi he hd hu hQ
theorem dcl_ok (hS : CodeOk P S m) (hm : CodeMono S) {f : FuncId} {args : List IV} {mo mo' : Option IV} {σ' : St} (h : evDcl P S ro f args mo σ = some (mo', σ')) (hN : σ'.n ≤ N) {us : List Value} {u : FrameMode} (hu : ModeR ι mo u) (hi : Inv N ι σ w) (hr : RvL ι args us) :
    CallsDIn Fence.wide 0 P f us.toArray u w (DclOk N ro ι w σ mo' σ') := by
  unfold evDcl at h
  split at h
  · rename_i fn hfn
    split at h
    · cases h
    split at h
    · rename_i c hb
      split at h
      · cases h
      · rename_i hlen
        simp only at h
        have key : ∀ {ex : Ex} {e1 : Env} {σ1 : St} {m1 : Option IV}, evD P S ro f c (args.zipIdx.foldl (fun e (v, i) => e.put (some i) v) ⟨fn.ntmps, .lf⟩) mo σ = some (⟨ex, e1, [], σ1⟩, m1) → (ex = .normal ∨ ex = .ret) →
            (match resultOf P fn e1 σ1 with
              | some _ => some (m1, σ1)
              | none => none) = some (mo', σ') → CallsDIn Fence.wide 0 P f us.toArray u w (DclOk N ro ι w σ mo' σ') := by
          intro ex e1 σ1 m1 h1 hex h
          split at h
          · rename_i v hv
            cases h
            refine callsDIn_of_wpSIn hfn hb trivial fun c0 cs hc0 => ?_
            have hc1 : c0 = { c0 with mode := u } := by rw [← hc0]
            have := d_ok hS hm (c0 := c0) (cs0 := cs) (Q := bodyPostS P fn c0 cs (DclOk N ro ι w σ mo' σ')) (a := { tmps := us.toArray ++ Array.replicate (fn.ntmps - us.toArray.size) Go.undef, defers := [] }) h1 hN hi (env_args hr (by omega)) rfl (ModeD.of hu) ?_
            · rw [← hc1] at this; exact this
            · intro a1 w1 ι1 u1 ch1 i1 l1 e1' d1 p1 hu1
              obtain ⟨x, k1, k2⟩ := results_ok hv i1 e1'
              have : bodyPostS P fn c0 cs (DclOk N ro ι w σ mo' σ') .ret a1 ({ c0 with mode := u1 } :: cs) w1 := ⟨d1.nil, u1, rfl, x, k1, ι1, hu1.settle, i1, l1⟩
              rcases hex with rfl | rfl <;> exact this
          · cases h
        split at h
        · rename_i h1; exact key h1 (.inl rfl) h
        · rename_i h1; exact key h1 (.inr rfl) h
        · cases h
    · cases h
  · cases h
theorem call_ok (hS : CodeOk P S m) (hC : CallOk P S) (hm : CodeMono S) (hk : CallMono S) : CallOk P (evStep P S) where
  call := by
    intro N ro f args σ v σ' h hN ι us w hi hr
    simp only [evStep, evCall] at h
    split at h
    · rename_i fn1 e1 σ1 h1
      split at h
      · rename_i v' h2
        cases h
        refine body_ok hS hC hm hk h1 hN hi hr fun ts w' ι' u' i1 l1 e1' hu => ?_
        rw [show u' = _ from hu]
        obtain ⟨u, k1, k2⟩ := results_ok h2 i1 e1'
        exact ⟨u, k1, ι', k2, i1, l1⟩
      · cases h
    · cases h
  pan := by
    intro N ro f args σ v σ' h hN ι us w hi hr
    simp only [evStep, evPan] at h
    split at h
    · rename_i h1
      cases h
      refine body_ok hS hC hm hk h1 hN hi hr fun ts w' ι' u' i1 l1 e1' hu => ?_
      obtain ⟨x, rfl, hx⟩ := hu
      exact ⟨ι', ⟨x, rfl, hx⟩, i1, l1⟩
    · cases h
  dcl := by
    intro N ro f args mo σ mo' σ' h hN ι us u w hu hi hr
    exact dcl_ok hS hm h hN hu hi hr
  ent := by
    intro ro f args mo σ mo' σ' h
    simp only [evStep, evDcl] at h
    split at h
    · rename_i fn hfn
      split at h
      · cases h
      · rename_i hbn
        exact ⟨fn, hfn, by simpa only [Bool.not_eq_true', Bool.not_eq_false] using hbn⟩
    · cases h
theorem ev_ok (hD : ∀ m S, CodeOk P S m → CallOk P S → CodeMono S → CallMono S → DrawOk P S) : ∀ n, CodeOk P (ev P n) n ∧ CallOk P (ev P n) ∧ CodeMono (ev P n) ∧ CallMono (ev P n)
  | 0 => by
    refine ⟨?_, ⟨?_, ?_, ?_, ?_⟩, ?_, ⟨?_, ?_, ?_⟩⟩
    · intro N ro rd fn c e df σ cr h; cases h
    · intro N ro f args σ v σ' h; cases h
    · intro N ro f args σ v σ' h; cases h
    · intro N ro f args m σ m' σ' h; cases h
    · intro ro f args m σ m' σ' h; cases h
    · intro ro rd fn c e df σ cr h; cases h
    · intro ro f args σ v σ' h; cases h
    · intro ro f args σ v σ' h; cases h
    · intro ro f args m σ m' σ' h; cases h
  | n + 1 => by
    obtain ⟨h1, h2, h3, h4⟩ := ev_ok hD n
    exact ⟨code_ok h1 h2 h3 h4 (hD n _ h1 h2 h3 h4), call_ok h1 h2 h3 h4, code_mono h3 h4, call_mono h3 h4⟩
end Go.Ev
