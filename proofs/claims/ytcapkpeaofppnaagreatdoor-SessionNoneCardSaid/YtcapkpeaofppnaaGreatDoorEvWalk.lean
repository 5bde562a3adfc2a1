/- A part of the verified evaluator of closed runs (EvWalk): lemmas and definitions over the model, without conditions of their own. -/
import Derived.Test.YtcapkpeaofppnaaGreatDoorEvCode
namespace Go.Ev
variable {P : Program} {N ro m : Nat} {ι : Io} {w : World} {σ : St} {e : Env} {a : Act} {S : Self} {F : Fence} {rd : Option Nat} {Q : Exit → Act → World → Prop}

def exOf (ch : List PanicEntry) : Ex → Exit
  | .normal => .normal
  | .exit id => .exit id
  | .goto l => .goto l
  | .ret => .ret
  | .pan _ => .panic ch
/-- The panic under way. -/
def PanR (ι : Io) (ch : List PanicEntry) : Ex → Prop
  | .pan v => ∃ u, ch = [{ v := u, recovered := false }] ∧ Rv ι v u
  | _ => True
def ModeR (ι : Io) : Option IV → FrameMode → Prop
  | none, u => u = .returning
  | some v, u => ∃ x, u = .panicking [{ v := x, recovered := false }] ∧ Rv ι v x
def FOk (F : Fence) (rd : Option Nat) (ι : Io) : Prop := (rd = none ∧ F = Fence.wide) ∨ ∃ l loc, rd = some l ∧ ι l 0 = some loc ∧ F = Fence.wide.inRound loc.b
theorem FOk.mono {ι' : Io} (hι : Ext ι ι') (h : FOk F rd ι) : FOk F rd ι' := by
  rcases h with h | ⟨l, loc, h1, h2, h3⟩
  · exact .inl h
  · exact .inr ⟨l, loc, h1, hι _ _ _ h2, h3⟩
theorem FOk.fn (h : FOk F rd ι) (f : FuncId) : F.fn f := by rcases h with ⟨_, rfl⟩ | ⟨_, _, _, _, rfl⟩ <;> trivial
theorem FOk.depth (h : FOk F rd ι) {n : Nat} : F.depth.isSome = true → 1 ≤ n := by rcases h with ⟨_, rfl⟩ | ⟨_, _, _, _, rfl⟩ <;> (intro h; simp [Fence.wide, Fence.inRound] at h)
theorem FOk.calls (h : FOk F rd ι) {f : FuncId} {us : Array Value} {R : Ending → World → Prop} (hc : CallsIn Fence.wide 0 P f us w R) : CallsIn F (0 - 1) P f us w R := by
  rcases h with ⟨_, rfl⟩ | ⟨_, _, _, _, rfl⟩ <;> exact hc
theorem FOk.inRound (h : FOk F rd ι) (l : Nat) : F.inRound l = Fence.wide.inRound l := by rcases h with ⟨_, rfl⟩ | ⟨_, _, _, _, rfl⟩ <;> rfl

def Post (N ro : Nat) (ι : Io) (w : World) (σ : St) (cr : CR) (Q : Exit → Act → World → Prop) : Prop :=
  ∀ a' w' ι' ch, Inv N ι' cr.σ w' → Le ro ι w σ ι' w' cr.σ → EnvR ι' cr.e a'.tmps → DfL ι' cr.df a'.defers → PanR ι' ch cr.ex → Q (exOf ch cr.ex) a' w'
def Walk (F : Fence) (P : Program) (m : Nat) (c : Code) (Q : Exit → Act → World → Prop) (a : Act) (w : World) : Prop :=
  match c with
  | .loop b => Code.roundsIn F 0 P b Q m a w
  | c => c.wpIn F 0 P Q a w
theorem Walk.wp {c : Code} (h : Walk F P m c Q a w) : c.wpIn F 0 P Q a w := by
  cases c <;> first | exact h | exact wpIn_loop_rounds _ h

def RetOk (N ro : Nat) (ι : Io) (w : World) (σ : St) (v : IV) (σ' : St) : Ending → World → Prop
  | .returned u, w' => ∃ ι', Rv ι' v u ∧ Inv N ι' σ' w' ∧ Le ro ι w σ ι' w' σ'
  | _, _ => False
def CodeOk (P : Program) (S : Self) (m : Nat) : Prop := ∀ N ro rd fn c e df σ cr, S.code ro rd fn c e df σ = some cr → cr.σ.n ≤ N → ∀ F ι a w Q, FOk F rd ι → Inv N ι σ w → EnvR ι e a.tmps → DfL ι df a.defers →
  Post N ro ι w σ cr Q → Walk F P m c Q a w
def PanOk (N ro : Nat) (ι : Io) (w : World) (σ : St) (v : IV) (σ' : St) : Ending → World → Prop
  | .panicked ch, w' => ∃ ι', PanR ι' ch (.pan v) ∧ Inv N ι' σ' w' ∧ Le ro ι w σ ι' w' σ'
  | _, _ => False
def DclOk (N ro : Nat) (ι : Io) (w : World) (σ : St) (m : Option IV) (σ' : St) : Ending → FrameMode → World → Prop
  | .returned _, u, w' => ∃ ι', ModeR ι' m (settle u) ∧ Inv N ι' σ' w' ∧ Le ro ι w σ ι' w' σ'
  | _, _, _ => False
structure CallOk (P : Program) (S : Self) : Prop where
  call : ∀ N ro f args σ v σ', S.call ro f args σ = some (v, σ') → σ'.n ≤ N → ∀ ι us w, Inv N ι σ w → RvL ι args us → CallsIn Fence.wide 0 P f us.toArray w (RetOk N ro ι w σ v σ')
  pan : ∀ N ro f args σ v σ', S.pan ro f args σ = some (v, σ') → σ'.n ≤ N → ∀ ι us w, Inv N ι σ w → RvL ι args us → CallsIn Fence.wide 0 P f us.toArray w (PanOk N ro ι w σ v σ')
  dcl : ∀ N ro f args m σ m' σ', S.dcl ro f args m σ = some (m', σ') → σ'.n ≤ N → ∀ ι us u w, ModeR ι m u → Inv N ι σ w → RvL ι args us → CallsDIn Fence.wide 0 P f us.toArray u w (DclOk N ro ι w σ m' σ')
  ent : ∀ ro f args m σ m' σ', S.dcl ro f args m σ = some (m', σ') → ∃ fn, P.funcs[f]? = some fn ∧ (fn.body.isSome && fn.name != "runtime.NumGoroutine") = true

theorem Post.from {cr : CR} {ι1 : Io} {w1 : World} {σ1 : St} (h : Post N ro ι w σ cr Q) (hi : Inv N ι σ w) (hl : Le ro ι w σ ι1 w1 σ1) (hn : σ1.n ≤ N) : Post N ro ι1 w1 σ1 cr Q :=
  fun a' w' ι' ch h1 h2 h3 h4 h5 => h a' w' ι' ch h1 (Le.trans (fun id h1 h2 => hi.fresh id h1 (by omega)) hl h2) h3 h4 h5
theorem Le.then (hi : Inv N ι σ w) {ι1 ι2 : Io} {w1 w2 : World} {σ1 σ2 : St} (hn : σ1.n ≤ N) (h : Le ro ι w σ ι1 w1 σ1) (k : Le ro ι1 w1 σ1 ι2 w2 σ2) : Le ro ι w σ ι2 w2 σ2 :=
  Le.trans (fun id h1 h2 => hi.fresh id h1 (by omega)) h k

theorem run_loop {l : Nat} {r : Loop} (h : w.heap[l]? = some (.loop r)) : (Instr.getLoop l).run P w = .ok r w := by
  simp only [Instr.getLoop, Sem.run_bind, run_getObj (P := P) h (by simp), Result.andThen_ok, Sem.run_pure]

theorem heap_set {b : Nat} {o : Go.Obj} (h : b < w.heap.size) : (w.heap.setIfInBounds b o)[b]? = some o := by simp [h]

/-- Each round's temporaries. -/
theorem params_ok : ∀ {ps : List Tmp} {args : List IV} {us : List Value} {e : Env} {ts : Array Value}, EnvR ι e ts → RvL ι args us →
    EnvR ι ((ps.zip args).foldl (fun e (p, v) => e.put (some p) v) e) ((ps.zip us).foldl (fun tmps (t, a) => tmps.setIfInBounds t a) ts)
  | [], _, _, _, _, h, _ => h
  | p :: ps, [], us, _, _, h, hr => by rw [hr.of_nil]; exact h
  | p :: ps, v :: args, us, e, ts, h, hr => by
    obtain ⟨u, us', rfl, h1, h2⟩ := hr.uncons
    simp only [List.zip_cons_cons, List.foldl_cons]
    exact params_ok (h.set h1 p) h2

theorem getLoop_obj {l : Nat} {loc : Loc} {st : LoopState} {pend : Option Code} {f : FuncId} {tm : T IV} {ntm : Nat} {ps : List Tmp} {asg bd : Code} {dfs : Nat} (hi : Inv N ι σ w) (hat : σ.at l = some (.loop st pend f tm ntm ps asg bd dfs)) (hl : ι l 0 = some loc) :
    ∃ ld ts f', ι dfs 0 = some ld ∧ w.heap[loc.b]? = some (.loop { state := st, pending := pend, fn := f', tmps := ts, params := ps.toArray, assign := asg, body := bd, defers := ld.b }) ∧ EnvR ι ⟨ntm, tm⟩ ts ∧ loc.b < w.heap.size := by
  obtain ⟨l', ld, ts, f', hl', hd, hh, hs, ht⟩ := hi.obj l _ hat
  rw [hl] at hl'; cases hl'
  exact ⟨ld, ts, f', hd, hh, ⟨hs.symm, ht⟩, hi.bnd l _ ⟨0, loc, hl, rfl⟩⟩

theorem ready_beq (s : LoopState) (h : s ≠ .busy) : (s == LoopState.busy) = false := by cases s <;> first | rfl | exact absurd rfl h

theorem putLoop {l : Nat} {loc : Loc} {st st' : LoopState} {pend pend' : Option Code} {f f' : FuncId} {tm : T IV} {ntm : Nat} {ps : List Tmp} {asg bd : Code} {dfs : Nat} {ld : Loc} {ts : Array Value} (hi : Inv N ι σ w) (hro : ro ≤ l)
    (hat : σ.at l = some (.loop st pend f tm ntm ps asg bd dfs)) (hl : ι l 0 = some loc) (hd : ι dfs 0 = some ld) (he : EnvR ι ⟨ntm, tm⟩ ts) :
    let go : Go.Obj := .loop { state := st', pending := pend', fn := f', tmps := ts, params := ps.toArray, assign := asg, body := bd, defers := ld.b }
    Inv N ι (σ.put l (.loop st' pend' f tm ntm ps asg bd dfs)) { w with heap := w.heap.setIfInBounds loc.b go } ∧ Le ro ι w σ ι { w with heap := w.heap.setIfInBounds loc.b go } (σ.put l (.loop st' pend' f tm ntm ps asg bd dfs)) := by
  intro go
  have hlt := hi.bnd l _ ⟨0, loc, hl, rfl⟩
  exact hi.setObj' hat hro hl ⟨loc, ld, ts, f', hl, hd, heap_set hlt, he.1.symm, he.2⟩


theorem roundPost_of {l : Nat} {R : Ending → World → Prop} {ex : Ex} {ch : List PanicEntry} (hx : ¬ ex.isPan = true) {a : Act} {w : World} (h : ∃ v w', (Instr.endRound l (jumpOf ex)).run P w = .ok v w' ∧ R (.returned v) w') : roundPost P l R (exOf ch ex) a w := by
  cases ex <;> first | exact h | exact absurd rfl hx

theorem round_ok (hS : CodeOk P S m) (hm : CodeMono S) {l : Nat} {loc : Loc} {args : List IV} {us : List Value} {v : IV} {σ' : St} (h : evRound S ro l args σ = some (v, σ')) (hN : σ'.n ≤ N) (hF : FOk F rd ι) (hi : Inv N ι σ w)
    (hl : ι l 0 = some loc) (hr : RvL ι args us) :
    ∃ f' ts asg bd, (Instr.yield loc.b us.toArray).run P w = .ok (.round loc.b f' ts asg bd) w ∧ RoundIn F 0 P loc.b f' ts asg bd w (RetOk N ro ι w σ v σ') := by
  unfold evRound at h
  split at h
  · rename_i state pending f tm ntm params assign body dfs hat
    split at h
    · cases h
    · rename_i hc
      have hc1 : args.length = params.length := Decidable.byContradiction fun hx => hc (.inl hx)
      have hc2 : ro ≤ l := Decidable.byContradiction fun hx => hc (.inr (.inl hx))
      have hc3 : state = .ready := Decidable.byContradiction fun hx => hc (.inr (.inr hx))
      simp only at h
      split at h
      · rename_i e1 σ1 h1
        split at h
        · rename_i pending1 f1 tm1 ntm1 params1 assign1 body1 dfs1 hat1
          split at h
          · rename_i ex e2 σ2 h2
            split at h
            · cases h
            rename_i hnp
            split at h
            · rename_i st3 pend3 f3 tm3 ntm3 params3 assign3 body3 dfs3 hat3
              cases h
              obtain ⟨ld, ts, f', hd, hh, he, hlt⟩ := getLoop_obj hi hat hl
              have hn2 : σ2.n ≤ N := hN
              have hn1 : σ1.n ≤ N := by
                have := hm _ _ _ _ _ _ _ _ h2
                simp only [St.n_put] at this
                omega
              have hsz : us.toArray.size = params.toArray.size := by simp [← hr.1, hc1]
              refine ⟨f', (params.zip us).foldl (fun tmps (t, a) => tmps.setIfInBounds t a) ts, assign, body, ?_, ?_⟩
              · have hz : ((params.toArray.zip us.toArray).foldl (fun tmps (t, a) => tmps.setIfInBounds t a) ts) = (params.zip us).foldl (fun tmps (t, a) => tmps.setIfInBounds t a) ts := by simp [List.zip_toArray]
                simp only [Instr.yield, Sem.run_bind, run_loop hh, Result.andThen_ok, hsz, ne_eq, not_true_eq_false, if_false, Sem.run_pure, hz]
              · refine roundIn_of_wpIn (hF.fn f') ?_
                rw [hF.inRound]
                refine (hS N ro (some l) f assign _ [] σ _ h1 hn1 (Fence.wide.inRound loc.b) ι { tmps := _, defers := [] } w _ (.inr ⟨l, loc, rfl, hl, rfl⟩) hi (params_ok he hr) trivial ?_).wp
                intro a1 w1 ι1 ch1 i1 l1 e1' d1 p1
                have hl1 := l1.ext _ _ _ hl
                obtain ⟨ld1, ts1, f1', hd1, hh1, he1, hlt1⟩ := getLoop_obj i1 hat1 hl1
                obtain ⟨i2, l2⟩ := putLoop (ro := ro) (st' := .busy) (pend' := pending1) (f' := f1') i1 hc2 hat1 hl1 hd1 he1
                refine ⟨_, by simp only [Instr.beginRound, Sem.run_bind, run_loop hh1, Result.andThen_ok, run_setObj (P := P) hh1 (by simp), Sem.run_pure]; rfl, ?_⟩
                refine (hS N ro (some l) f body _ [] _ _ h2 hn2 (Fence.wide.inRound loc.b) ι1 a1 _ _ (.inr ⟨l, loc, rfl, hl1, rfl⟩) i2 e1' d1 ?_).wp
                intro a2 w2 ι2 ch2 i3 l3 e2' d2 p2
                refine roundPost_of hnp ?_
                have hl2 := l3.ext _ _ _ hl1
                obtain ⟨ld2, ts2, f2', hd2, hh2, he2, hlt2⟩ := getLoop_obj i3 hat3 hl2
                obtain ⟨i4, l4⟩ := putLoop (ro := ro) (st' := if (jumpOf ex).isNone then .ready else .done) (pend' := jumpOf ex) (f' := f2') i3 hc2 hat3 hl2 hd2 he2
                refine ⟨.bool (jumpOf ex).isNone, _, by simp only [Instr.endRound, Sem.run_bind, run_loop hh2, Result.andThen_ok, run_setObj (P := P) hh2 (by simp), Sem.run_pure]; rfl, ι2, ?_, ?_, ?_⟩
                · exact .raw _
                · exact i4
                · have l14 := Le.then i2 hn2 l3 l4
                  have l24 := Le.then i1 (by simp only [St.n_put]; exact hn1) l2 l14
                  exact Le.then hi hn1 l1 l24
            · cases h
          · cases h
        · cases h
      · cases h
  · cases h
end Go.Ev
