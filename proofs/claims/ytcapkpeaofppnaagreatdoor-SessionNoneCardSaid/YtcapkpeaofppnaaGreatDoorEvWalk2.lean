/- A part of the verified evaluator of closed runs (EvWalk2): lemmas and definitions over the model, without conditions of their own. -/
import Derived.Test.YtcapkpeaofppnaaGreatDoorEvWalk
namespace Go.Ev
variable {P : Program} {N ro m : Nat} {ι : Io} {w : World} {σ : St} {e : Env} {a : Act} {S : Self} {F : Fence} {rd : Option Nat} {Q : Exit → Act → World → Prop}

theorem op_noDefer {ρ : Operand → IV} {o : Oper} {out : OpOut} (h : evOp P ro ρ o σ = some out) (hd : ∀ d, out ≠ .dfr d) : ∀ c, o.op ≠ .defer c := by
  intro c hc
  unfold evOp at h
  rw [hc] at h
  dsimp only at h
  split at h
  · split at h
    · cases h; exact hd _ rfl
    · cases h
  · cases h

/-- An operation that is carried out, whatever it is. -/
theorem evX_ok (hS : CodeOk P S m) (hC : CallOk P S) (hm : CodeMono S) {o : Oper} {v : IV} {σ' : St} {next : Act → World → Prop} (h : evX P S ro e o σ = some (v, σ')) (hN : σ'.n ≤ N) (hF : FOk F rd ι) (hi : Inv N ι σ w)
    (he : EnvR ι e a.tmps) (hQ : ∀ u w' ι', Rv ι' v u → Inv N ι' σ' w' → Le ro ι w σ ι' w' σ' → next (a.put o.dst u) w') : o.wpIn F 0 P a w next Q := by
  refine ⟨fun f _ => hF.fn f, ?_⟩
  unfold evX at h
  split at h
  · rename_i v1 σ1 h1
    cases h
    rw [Oper.semAt_eq _ _ _ (op_noDefer h1 (by simp))]
    obtain ⟨u, w', ι', hr, h2, h3, h4⟩ := op_ok hi he.eval h1 hN
    rcases hr with hr | ⟨hr, rfl⟩
    · rw [hr, Oper.uponIn_value]; exact hQ _ _ _ h2 h3 h4
    · rw [hr, Oper.uponIn_skip]; exact hQ _ _ _ h2 h3 h4
  · rename_i f args h1
    rw [Oper.semAt_eq _ _ _ (op_noDefer h1 (by simp))]
    obtain ⟨us, hr, h2⟩ := op_ok hi he.eval h1
    rw [hr, Oper.uponIn_enter]
    refine ⟨hF.depth, (hF.calls (hC.call N ro f args σ v σ' h hN ι us w hi h2)).mono fun e w' hR => ?_⟩
    cases e with
    | returned u => obtain ⟨ι', h3, h4, h5⟩ := hR; exact hQ _ _ _ h3 h4 h5
    | panicked chain => exact hR.elim
    | outgrown => exact hR.elim
  · rename_i l args h1
    rw [Oper.semAt_eq _ _ _ (op_noDefer h1 (by simp))]
    obtain ⟨loc, us, hl, hr, h2⟩ := op_ok hi he.eval h1
    obtain ⟨f', ts, asg, bd, h3, h4⟩ := round_ok (F := F) hS hm h hN hF hi hl h2
    rw [hr, h3, Oper.uponIn_round]
    refine ⟨hF.depth, RoundIn.mono h4 fun e w' hR => ?_⟩
    cases e with
    | returned u => obtain ⟨ι', h3, h4, h5⟩ := hR; exact hQ _ _ _ h3 h4 h5
    | panicked chain => exact hR.elim
    | outgrown => exact hR.elim
  · cases h

theorem evX_nDefer {o : Oper} {d : Df} (h : evOp P ro (evalI e) o σ = some (.dfr d)) : evX P S ro e o σ = none := by
  unfold evX; rw [h]

theorem ops_ok (hS : CodeOk P S m) (hC : CallOk P S) (hm : CodeMono S) (hk : CallMono S) {ops : Array Oper} : ∀ {l : List Oper} {k : Nat} {e : Env} {df : List Df} {σ : St} {cr : CR} {ι : Io} {a : Act} {w : World},
    ops.toList.drop k = l → evOps P S ro rd ops l e df σ = some cr → cr.σ.n ≤ N → FOk F rd ι → Inv N ι σ w → EnvR ι e a.tmps → DfL ι df a.defers → Post N ro ι w σ cr Q →
    wpOpsIn F 0 P ops Q (List.range' k l.length) a w
  | [], k, e, df, σ, cr, ι, a, w, hl, h, hN, hF, hi, he, hd, hQ => by
    cases h
    exact hQ a w ι [] hi (Le.refl _ _ _ _) he hd trivial
  | o :: rest, k, e, df, σ, cr, ι, a, w, hl, h, hN, hF, hi, he, hd, hQ => by
    have hrest : ops.toList.drop (k + 1) = rest := by
      rw [← List.drop_drop (i := 1) (j := k), hl]; rfl
    have hok : ops[k]? = some o := by
      have : (ops.toList.drop k)[0]? = some o := by rw [hl]; rfl
      simpa using this
    simp only [List.length_cons, List.range'_succ]
    rw [wpOpsIn_cons]
    unfold wpOpIn
    rw [hok]
    simp only
    unfold evOps at h
    rw [wanted_eq he]
    split at h
    · rename_i hw
      rw [if_pos hw]
      split at h
      · rename_i v σ1 h1
        have hn1 : σ1.n ≤ N := Nat.le_trans (ops_mono hm hk h) hN
        refine evX_ok hS hC hm h1 hn1 hF hi he fun u w' ι' hv i1 l1 => ?_
        exact ops_ok hS hC hm hk hrest h hN (hF.mono l1.ext) i1 ((he.mono l1.ext).put hv _) (hd.mono l1.ext |> fun x => by cases o.dst <;> exact x) (hQ.from hi l1 hn1)
      · split at h
        · rename_i d h1
          split at h
          · rename_i hrd
            have hrn : rd = none := by cases rd with | none => rfl | some _ => cases hrd
            have hFe : F = Fence.wide := by
              rcases hF with ⟨_, h2⟩ | ⟨_, _, h2, _⟩
              · exact h2
              · rw [hrn] at h2; cases h2
            refine ⟨fun f _ => hF.fn f, ?_⟩
            obtain ⟨dd, hr, hdd, c, hc⟩ := op_ok hi he.eval h1
            have hsem : (o.semAt F.round a.eval) = execOp a.eval o := by rw [hFe]; rfl
            rw [hsem, hr, Oper.uponIn_defer]
            refine ops_ok hS hC hm hk hrest h hN hF hi ?_ ?_ hQ
            · cases hdst : o.dst with
              | none => exact he
              | some t => exact he.set rv_undef t
            · cases o.dst <;> exact ⟨hdd, hd⟩
          · cases h
        · rename_i f args h1
          split at h
          · rename_i v σ1 h2
            cases h
            refine ⟨fun f _ => hF.fn f, ?_⟩
            rw [Oper.semAt_eq _ _ _ (op_noDefer h1 (by simp))]
            obtain ⟨us, hr, h3⟩ := op_ok hi he.eval h1
            rw [hr, Oper.uponIn_enter]
            refine ⟨hF.depth, (hF.calls (hC.pan N ro f args σ v σ1 h2 hN ι us w hi h3)).mono fun ed w' hR => ?_⟩
            cases ed with
            | returned u => exact hR.elim
            | outgrown => exact hR.elim
            | panicked chain =>
              obtain ⟨ι', h4, h5, h6⟩ := hR
              exact hQ a w' ι' chain h5 h6 (he.mono h6.ext) (hd.mono h6.ext) h4
          · cases h
        · rename_i v h1
          cases h
          refine ⟨fun f _ => hF.fn f, ?_⟩
          rw [Oper.semAt_eq _ _ _ (op_noDefer h1 (by simp))]
          obtain ⟨u, hr, h3⟩ := op_ok hi he.eval h1
          rw [hr, Oper.uponIn_panic]
          exact hQ a w ι [{ v := u, recovered := false }] hi (Le.refl _ _ _ _) he hd ⟨u, rfl, h3⟩
        · cases h
    · rename_i hw
      rw [if_neg hw]
      exact ⟨fun f _ => hF.fn f, ops_ok hS hC hm hk hrest h hN hF hi (he.put rv_undef _) (by cases o.dst <;> exact hd) hQ⟩

/-- What is owed for regions that draw their order. -/
def DrawOk (P : Program) (S : Self) : Prop := ∀ N ro rd ops e df σ cr, evDraw P S ro ops e df σ = some cr → cr.σ.n ≤ N → ∀ F ι a w Q id, FOk F rd ι → Inv N ι σ w → EnvR ι e a.tmps → DfL ι df a.defers →
  Post N ro ι w σ cr Q → (Code.region id ops true).wpIn F 0 P Q a w

theorem rv_bool' {x : IV} {b : Bool} {u : Value} (hx : x = .raw (.bool b)) (h : Rv ι x u) : u = .bool b := by subst hx; cases h; rfl

theorem DfL.append : ∀ {ds : List Df} {xs : List Deferred} {ds' : List Df} {xs' : List Deferred}, DfL ι ds xs → DfL ι ds' xs' → DfL ι (ds ++ ds') (xs ++ xs')
  | [], [], _, _, _, h => h
  | _ :: _, _ :: _, _, _, h, h' => ⟨h.1, DfL.append h.2 h'⟩
  | [], _ :: _, _, _, h, _ => h.elim
  | _ :: _, [], _, _, h, _ => h.elim

def enterI (rd : Option Nat) (σ : St) : Option (Nat × St × List Df) :=
  match rd with
  | none => some (σ.n, σ.add (.dfd false), [.coll σ.n])
  | some l => match σ.at l with
    | some (.loop _ _ _ _ _ _ _ _ dfs) => some (dfs, σ, [])
    | _ => none

/-- The way into a range over a function. -/
theorem enter_ok {dfs : Nat} {σ1 : St} {mark : List Df} (h : enterI rd σ = some (dfs, σ1, mark)) (hN : σ1.n ≤ N) (hF : FOk F rd ι) (hi : Inv N ι σ w) :
    ∃ w1 ι1 ld marks, Inv N ι1 σ1 w1 ∧ Le ro ι w σ ι1 w1 σ1 ∧ ι1 dfs 0 = some ld ∧ DfL ι1 mark marks ∧
      ∀ fn ts ps asg bd, (Instr.enterLoop fn ts ps asg bd F.round).run P w = .ok (w1.heap.size, marks) { w1 with heap := w1.heap.push (.loop { state := .ready, pending := none, fn, tmps := ts, params := ps, assign := asg, body := bd, defers := ld.b }) } := by
  unfold enterI at h
  split at h
  · cases h
    have hFe : F.round = none := by
      rcases hF with ⟨_, rfl⟩ | ⟨_, _, h, _⟩
      · rfl
      · cases h
    obtain ⟨h1, h2⟩ := hi.addObj (ro := ro) (go := .deferred (some [])) (ob := .dfd false) (by simp at hN; omega) ⟨_, updI_self _ _ _ _, by simp⟩
    refine ⟨_, _, ⟨w.heap.size, 1, 1⟩, [{ target := .collected w.heap.size, args := #[] }], h1, h2, updI_self _ _ _ _, ⟨⟨_, updI_self _ _ _ _, rfl⟩, trivial⟩, fun fn ts ps asg bd => ?_⟩
    rw [hFe]
    simp only [Instr.enterLoop, Sem.run_bind, run_newObj, Result.andThen_ok, Sem.run_pure]
  · rename_i l
    split at h
    · rename_i hat
      cases h
      rcases hF with ⟨h, _⟩ | ⟨l', loc, h, hl, rfl⟩
      · cases h
      · cases h
        obtain ⟨ld, ts, f', hd, hh, he, hlt⟩ := getLoop_obj hi hat hl
        refine ⟨w, ι, ld, [], hi, Le.refl _ _ _ _, hd, trivial, fun fn ts ps asg bd => ?_⟩
        simp only [Instr.enterLoop, Fence.inRound, Sem.run_bind, run_loop hh, run_newObj, Result.andThen_ok, Sem.run_pure]
    · cases h

theorem range_ok (hS : CodeOk P S m) (hC : CallOk P S) (hm : CodeMono S) (hk : CallMono S) {fn : FuncId} {g : Operand} {ps : Array Tmp} {asg bd : Code} {df : List Df} {cr : CR}
    (h : evCode P S ro rd fn (.rangeFunc g ps asg bd) e df σ = some cr) (hN : cr.σ.n ≤ N) (hF : FOk F rd ι) (hi : Inv N ι σ w) (he : EnvR ι e a.tmps) (hd : DfL ι df a.defers) (hQ : Post N ro ι w σ cr Q) :
    (Code.rangeFunc g ps asg bd).wpIn F 0 P Q a w := by
  unfold evCode at h
  dsimp only at h
  change (match enterI rd σ with
    | some (dfs, σ, mark) => _
    | none => none) = some cr at h
  split at h
  · rename_i dfs σ1 mark hen
    split at h
    · rename_i f args hcal
      split at h
      · rename_i v3 σ3 hcall
        split at h
        · rename_i st pend f3 tm ntm ps3 as3 bd3 dfs3 hat3
          split at h
          · cases h
          · rename_i hb
            have hb1 : st ≠ .busy := fun hx => hb (.inl hx)
            have hb2 : ro ≤ σ1.n := Decidable.byContradiction fun hx => hb (.inr hx)
            have hn3 : σ3.n ≤ N := by
              split at h
              · cases h; exact hN
              · have := hm _ _ _ _ _ _ _ _ h
                simp only [St.n_put] at this
                omega
            have hn2 := hk.call _ _ _ _ _ _ hcall
            simp only [St.n_add] at hn2
            obtain ⟨w1, ι1, ld, marks, i1, l1, hld, hmk, hent⟩ := enter_ok (P := P) (ro := ro) hen (by omega) hF hi
            refine wpIn_rangeFunc fun fn' _ => ?_
            have hnone := i1.fresh σ1.n (Nat.le_refl _) (by omega) 0
            have hext := updI_ext (l := ⟨w1.heap.size, 1, 1⟩) hnone
            obtain ⟨i2, l2⟩ := i1.addObj (ro := ro) (go := .loop { state := .ready, pending := none, fn := fn', tmps := a.tmps, params := ps, assign := asg, body := bd, defers := ld.b }) (ob := .loop .ready none fn e.t e.n ps.toList asg bd dfs) (by omega)
              ⟨⟨w1.heap.size, 1, 1⟩, ld, a.tmps, fn', updI_self _ _ _ _, hext _ _ _ hld, by simp, he.1.symm, fun t => ((he.2 t).mono l1.ext).mono hext⟩
            have hl2 : updI ι1 σ1.n 0 ⟨w1.heap.size, 1, 1⟩ σ1.n 0 = some ⟨w1.heap.size, 1, 1⟩ := updI_self _ _ _ _
            generalize hw2 : ({ w1 with heap := w1.heap.push (.loop { state := .ready, pending := none, fn := fn', tmps := a.tmps, params := ps, assign := asg, body := bd, defers := ld.b }) } : World) = w2 at i2 l2
            generalize updI ι1 σ1.n 0 ⟨w1.heap.size, 1, 1⟩ = ι2 at i2 l2 hl2 hext
            obtain ⟨d, hres, hcl⟩ := callee_ok (w := w2) (((he.mono l1.ext).mono hext).eval g) (RvL.cons (.yld σ1.n _ hl2) RvL.nil) hcal
            rcases hcl with ⟨f', as, vs, he', hinv, hvs, _⟩ | ⟨_, _, he', _⟩
            · cases he'
              refine ⟨w1.heap.size, marks, w2, d, w2, f, vs.toArray, w2, by rw [hent, hw2], ?_, fun f' _ => hF.fn f', hinv, hF.depth, ?_⟩
              · simpa [resolve, rangeCall, Act.eval] using hres
              · refine (hF.calls (hC.call N ro f args _ _ _ hcall hn3 ι2 vs w2 i2 hvs)).mono fun ed w3 hR => ?_
                cases ed with
                | panicked chain => exact hR.elim
                | outgrown => exact hR.elim
                | returned u =>
                  obtain ⟨ι3, _, i3, l3⟩ := hR
                  have hl3 := l3.ext _ _ _ hl2
                  obtain ⟨ld3, ts3, f3', hd3, hh3, he3, hlt3⟩ := getLoop_obj i3 hat3 hl3
                  obtain ⟨i4, l4⟩ := putLoop (ro := ro) (st' := .exhausted) (pend' := pend) (f' := f3') i3 hb2 hat3 hl3 hd3 he3
                  refine ⟨pend, _, by simp only [Instr.endLoop, Sem.run_bind, run_loop hh3, Result.andThen_ok, ready_beq st hb1, Bool.false_eq_true, if_false, run_setObj (P := P) hh3 (by simp), Sem.run_pure]; rfl, ?_⟩
                  have l34 := Le.then i2 hn3 l3 l4
                  have l24 := Le.then i1 (by simp only [St.n_add]; omega) l2 l34
                  have l14 := Le.then hi (by omega) l1 l24
                  have e4 : EnvR ι3 e a.tmps := he.mono l14.ext
                  have d4 : DfL ι3 (mark ++ df) (marks ++ a.defers) := (hmk.mono l24.ext).append (hd.mono l14.ext)
                  split at h
                  · cases h
                    exact hQ _ _ _ [] i4 l14 e4 d4 trivial
                  · rename_i c
                    exact (hS N ro rd fn c e _ _ cr h hN F ι3 { a with defers := marks ++ a.defers } _ Q (hF.mono l14.ext) i4 e4 d4 (hQ.from hi l14 (by simp only [St.n_put]; exact hn3))).wp
            · cases he'
        · cases h
      · cases h
    · cases h
  · cases h

theorem code_ok (hS : CodeOk P S m) (hC : CallOk P S) (hm : CodeMono S) (hk : CallMono S) (hD : DrawOk P S) : CodeOk P (evStep P S) (m + 1) := by
  intro N ro rd fn c e df σ cr h hN F ι a w Q hF hi he hd hQ
  change evCode P S ro rd fn c e df σ = some cr at h
  cases c <;> unfold evCode at h <;> dsimp only at h
  case skip => cases h; exact wpIn_skip (hQ a w ι [] hi (Le.refl _ _ _ _) he hd trivial)
  case label => cases h; exact wpIn_label (hQ a w ι [] hi (Le.refl _ _ _ _) he hd trivial)
  case exit => cases h; exact wpIn_exit (hQ a w ι [] hi (Le.refl _ _ _ _) he hd trivial)
  case goto => cases h; exact wpIn_goto (hQ a w ι [] hi (Le.refl _ _ _ _) he hd trivial)
  case ret => cases h; exact wpIn_ret (hQ a w ι [] hi (Le.refl _ _ _ _) he hd trivial)
  case refuse => cases h
  case region id ops draw =>
    split at h
    · rename_i hdr; subst hdr; exact hD N ro rd ops e df σ cr h hN F ι a w Q id hF hi he hd hQ
    · rename_i hdr
      have : draw = false := by simpa using hdr
      subst this
      refine wpIn_region ?_
      have := ops_ok (k := 0) hS hC hm hk (by simp) h hN hF hi he hd hQ
      rw [List.range_eq_range']
      simpa using this
  case seq x y =>
    refine wpIn_seq ?_
    split at h
    · rename_i e1 df1 σ1 h1
      have hn1 : σ1.n ≤ N := Nat.le_trans (hm _ _ _ _ _ _ _ _ h) hN
      refine (hS N ro rd fn x e df σ _ h1 hn1 F ι a w _ hF hi he hd ?_).wp
      intro a1 w1 ι1 ch1 i1 l1 e1' d1 p1
      exact (hS N ro rd fn y _ _ _ _ h hN F ι1 a1 w1 Q (hF.mono l1.ext) i1 e1' d1 (hQ.from hi l1 hn1)).wp
    · rename_i hno
      refine (hS N ro rd fn x e df σ _ h hN F ι a w _ hF hi he hd ?_).wp
      intro a1 w1 ι1 ch1 i1 l1 e1' d1 p1
      have := hQ a1 w1 ι1 ch1 i1 l1 e1' d1 p1
      cases hx : cr.ex with
      | normal => exact absurd (by rw [h]; cases cr; cases hx; rfl) (hno cr.e cr.df cr.σ)
      | exit id => rw [hx] at this; exact this
      | goto l => rw [hx] at this; exact this
      | ret => rw [hx] at this; exact this
      | pan v => rw [hx] at this; exact this
  case cond c x y =>
    split at h
    · rename_i t ht
      have hc := rv_bool' ht (he.eval c)
      exact wpIn_cond hc (hS N ro rd fn _ e df σ cr h hN F ι a w Q hF hi he hd hQ).wp
    · cases h
  case block id x =>
    refine wpIn_block ?_
    split at h
    · rename_i id' e1 df1 σ1 h1
      have hn1 : σ1.n ≤ N := by
        split at h <;> (cases h; exact hN)
      refine (hS N ro rd fn x e df σ _ h1 hn1 F ι a w _ hF hi he hd ?_).wp
      intro a1 w1 ι1 ch1 i1 l1 e1' d1 p1
      simp only [exOf, Exit.inBlock]
      split at h
      · rename_i hid
        cases h
        rw [if_pos hid]
        exact hQ a1 w1 ι1 ch1 i1 l1 e1' d1 p1
      · rename_i hid
        cases h
        rw [if_neg hid]
        exact hQ a1 w1 ι1 ch1 i1 l1 e1' d1 p1
    · rename_i hno
      refine (hS N ro rd fn x e df σ _ h hN F ι a w _ hF hi he hd ?_).wp
      intro a1 w1 ι1 ch1 i1 l1 e1' d1 p1
      have := hQ a1 w1 ι1 ch1 i1 l1 e1' d1 p1
      cases hx : cr.ex with
      | exit id' => exact absurd (by rw [h]; cases cr; cases hx; rfl) (hno id' cr.e cr.df cr.σ)
      | normal => rw [hx] at this; exact this
      | goto l => rw [hx] at this; exact this
      | ret => rw [hx] at this; exact this
      | pan v => rw [hx] at this; exact this
  case loop x =>
    show Code.roundsIn F 0 P x Q (m + 1) a w
    rw [roundsIn_succ]
    split at h
    · rename_i e1 df1 σ1 h1
      have hn1 : σ1.n ≤ N := Nat.le_trans (hm _ _ _ _ _ _ _ _ h) hN
      refine (hS N ro rd fn x e df σ _ h1 hn1 F ι a w _ hF hi he hd ?_).wp
      intro a1 w1 ι1 ch1 i1 l1 e1' d1 p1
      exact hS N ro rd fn (.loop x) _ _ _ _ h hN F ι1 a1 w1 Q (hF.mono l1.ext) i1 e1' d1 (hQ.from hi l1 hn1)
    · rename_i hno
      refine (hS N ro rd fn x e df σ _ h hN F ι a w _ hF hi he hd ?_).wp
      intro a1 w1 ι1 ch1 i1 l1 e1' d1 p1
      have := hQ a1 w1 ι1 ch1 i1 l1 e1' d1 p1
      cases hx : cr.ex with
      | normal => exact absurd (by rw [h]; cases cr; cases hx; rfl) (hno cr.e cr.df cr.σ)
      | exit id => rw [hx] at this; exact this
      | goto l => rw [hx] at this; exact this
      | ret => rw [hx] at this; exact this
      | pan v => rw [hx] at this; exact this
  case scope x =>
    refine wpIn_scope ?_
    split at h
    · cases h
    · rename_i hno
      refine (hS N ro rd fn x e df σ _ h hN F ι a w _ hF hi he hd ?_).wp
      intro a1 w1 ι1 ch1 i1 l1 e1' d1 p1
      have := hQ a1 w1 ι1 ch1 i1 l1 e1' d1 p1
      cases hx : cr.ex with
      | goto l => exact absurd (by rw [h]; cases cr; cases hx; rfl) (hno l cr.e cr.df cr.σ)
      | normal => rw [hx] at this; exact this
      | exit id => rw [hx] at this; exact this
      | ret => rw [hx] at this; exact this
      | pan v => rw [hx] at this; exact this
  case rangeFunc g params assign body =>
    exact range_ok hS hC hm hk (by unfold evCode; exact h) hN hF hi he hd hQ
end Go.Ev
