/- A part of the verified evaluator of closed runs (EvDraw7): lemmas and definitions over the model, without conditions of their own. -/
import Derived.Test.YtcapkpeaofppnaaGreatDoorEvDraw6
namespace Go.Ev
variable {P : Program} {S : Self} {ro nn : Nat} {ops : Array Oper} {pl : Plan} {D : Nat → DS} {N : Nat} {F : Fence} {rd : Option Nat} {Q : Exit → Act → World → Prop}

def Lst (listed : Array Bool) (i : Nat) : Prop := listed[i]? = some true

theorem lst_set {listed : Array Bool} {j : Nat} (hj : j < listed.size) : Lst (listed.setIfInBounds j true) = fun i => Lst listed i ∨ i = j := by
  funext i
  refine propext ?_
  unfold Lst
  rw [Array.getElem?_setIfInBounds]
  by_cases hij : j = i
  · subst hij; simp [hj]
  · simp [hij, Ne.symm hij]

theorem ready_mem {listed : Array Bool} {j : Nat} (h : j ∈ Region.ready .any ops listed) : j < ops.size ∧ listed[j]? = some false ∧ ∃ o, ops[j]? = some o ∧ ∀ e ∈ o.after.toList, Region.binds .any e = true → Lst listed e.on := by
  unfold Region.ready at h
  rw [List.mem_filter, List.mem_range] at h
  obtain ⟨hlt, h⟩ := h
  rw [Bool.and_eq_true] at h
  refine ⟨hlt, ?_, ops[j], Array.getElem?_eq_getElem hlt, fun e he hb => ?_⟩
  · have h1 := h.1
    rw [Array.getD_eq_getD_getElem?] at h1
    cases hx : listed[j]? with
    | none => rw [hx] at h1; cases h1
    | some b => rw [hx] at h1; cases b with
      | false => rfl
      | true => cases h1
  · have h2 := h.2
    rw [Array.getElem?_eq_getElem hlt] at h2
    simp only [Option.map_some, Option.getD_some] at h2
    rw [Array.all_eq_true'] at h2
    have := h2 e (by simpa using he)
    rw [hb, Bool.not_true, Bool.false_or, Array.getD_eq_getD_getElem?] at this
    unfold Lst
    cases hx : listed[e.on]? with
    | none => rw [hx] at this; cases this
    | some b => rw [hx] at this; cases b with
      | false => cases this
      | true => rfl

theorem ready_nil (ho : PlanOk ops pl) {listed : Array Bool} (hsz : listed.size = ops.size) (h : Region.ready .any ops listed = []) : ∀ i, i < ops.size → Lst listed i := by
  intro i
  induction i using Nat.strongRecOn with
  | _ i ih =>
    intro hi
    refine Classical.byContradiction fun hn => ?_
    have hf : listed[i]? = some false := by
      rw [Array.getElem?_eq_getElem (by omega)]
      cases hx : listed[i]'(by omega) with
      | false => rfl
      | true => exact absurd (by unfold Lst; rw [Array.getElem?_eq_getElem (by omega), hx]) hn
    have hm : i ∈ Region.ready .any ops listed := by
      unfold Region.ready
      rw [List.mem_filter, List.mem_range]
      refine ⟨hi, ?_⟩
      rw [Array.getD_eq_getD_getElem?, hf, Array.getElem?_eq_getElem hi]
      simp only [Option.getD_some, Bool.not_false, Bool.true_and, Option.map_some]
      rw [Array.all_eq_true']
      intro e he
      cases hb : Region.binds .any e with
      | false => rfl
      | true =>
        have hlt := ho.back i _ (Array.getElem?_eq_getElem hi) e (by simpa using he) hb
        have := ih e.on hlt (by omega)
        unfold Lst at this
        rw [Array.getD_eq_getD_getElem?, this]; rfl
    rw [h] at hm; cases hm

section any
variable {ι0 : Io} {w0 : World} {σ0 : St} {a0 : Act}

theorem any_ok (hS : CodeOk P S nn) (hC : CallOk P S) (hm : CodeMono S) (hk : CallMono S) (ho : PlanOk ops pl) (ht : Tr P S pl ro ops D) (h0 : (D 0).pcs = []) (hn0 : (D 0).n = σ0.n) (hnk : (D ops.size).n ≤ N) (hi0 : Inv N ι0 σ0 w0)
    (hF0 : FOk F rd ι0) (hfin : ∀ m e ι cur w a, Phi ops pl D N ro ι0 w0 σ0 (fun i => i < ops.size) m e ι cur w → EnvR ι e a.tmps → a.defers = a0.defers → Q .normal a w) :
    ∀ (fuel : Nat) (listed : Array Bool) (m : Nat) (e : Env) (ι : Io) (cur : Nat → Option Ob) (w : World) (a : Act), listed.size = ops.size → listed.toList.count false ≤ fuel → Phi ops pl D N ro ι0 w0 σ0 (Lst listed) m e ι cur w →
      EnvR ι e a.tmps → a.defers = a0.defers → wpAnyIn F 0 P .any ops Q fuel listed a w := by
  have hall : ∀ (listed : Array Bool) (m : Nat) (e : Env) (ι : Io) (cur : Nat → Option Ob) (w : World) (a : Act), listed.size = ops.size → (∀ i, i < ops.size → Lst listed i) → Phi ops pl D N ro ι0 w0 σ0 (Lst listed) m e ι cur w →
      EnvR ι e a.tmps → a.defers = a0.defers → Q .normal a w := by
    intro listed m e ι cur w a hsz hl h he hd
    have : Lst listed = fun i => i < ops.size := by
      funext i
      refine propext ⟨fun hx => h.sub i hx, hl i⟩
    rw [this] at h
    exact hfin m e ι cur w a h he hd
  intro fuel
  induction fuel with
  | zero =>
    intro listed m e ι cur w a hsz hc h he hd
    have hl : ∀ i, i < ops.size → Lst listed i := by
      intro i hi
      have hlt : i < listed.size := by omega
      unfold Lst
      rw [Array.getElem?_eq_getElem hlt]
      cases hx : listed[i] with
      | true => rfl
      | false =>
        have hmem : false ∈ listed.toList := by
          rw [List.mem_iff_getElem?]
          exact ⟨i, by rw [Array.getElem?_toList, Array.getElem?_eq_getElem hlt, hx]⟩
        have := List.count_pos_iff.2 hmem
        omega
    refine ⟨?_, hall listed m e ι cur w a hsz hl h he hd⟩
    cases hr : Region.ready .any ops listed with
    | nil => rfl
    | cons x xs =>
      obtain ⟨h1, h2, _⟩ := ready_mem (show x ∈ Region.ready .any ops listed by rw [hr]; simp)
      have := hl x h1
      unfold Lst at this
      rw [this] at h2; cases h2
  | succ fuel ih =>
    intro listed m e ι cur w a hsz hc h he hd
    refine ⟨fun hr => hall listed m e ι cur w a hsz (ready_nil ho hsz hr) h he hd, fun j hj => ?_⟩
    obtain ⟨hjs, hlj, o, hoj, haft⟩ := ready_mem hj
    have hnA : ¬ Lst listed j := fun hx => by unfold Lst at hx; rw [hlj] at hx; cases hx
    have hb : ∀ i, bitOf pl j i → Lst listed i := by
      intro i hbit
      obtain ⟨e', he', hbd, hh⟩ := ho.bits j o hoj i hbit
      have := haft e' he' hbd
      rcases hh with rfl | hh
      · exact this
      · exact h.closed _ this i hh
    refine h.step hS hC hm hk ho ht h0 hn0 hnk hi0 hjs hnA hb hF0 he fun m' e' ι' cur' w' a' hP he' hd' => ?_
    rw [← lst_set (by omega)] at hP
    refine ih _ m' e' ι' cur' w' a' (by simp [hsz]) ?_ hP he' (hd'.trans hd)
    have hjl : j < listed.toList.length := by simp; omega
    have hjv : listed.toList[j] = false := by
      have : listed.toList[j]? = some false := by rw [Array.getElem?_toList]; exact hlj
      rw [List.getElem?_eq_getElem hjl] at this
      exact Option.some.inj this
    rw [Array.toList_setIfInBounds, List.count_set hjl, hjv]
    have e1 : (if (false == false) = true then 1 else 0) = 1 := rfl
    have e2 : (if (true == false) = true then 1 else 0) = 0 := rfl
    rw [e1, e2]
    omega
end any

theorem draw_ok (hmix : P.follows .mixedOrders = true) (hS : CodeOk P S nn) (hC : CallOk P S) (hm : CodeMono S) (hk : CallMono S) : DrawOk P S := by
  intro N ro rd ops e df σ cr h hN F ι a w Q id hF hi he hd hQ
  unfold evDraw at h
  dsimp only at h
  split at h
  · rename_i hok
    split at h
    · rename_i e' n i b rest pcs hdr
      cases h
      obtain ⟨ht, hk'⟩ := trace_ok hdr
      generalize hDd : traceD P S (planOf ops) ro ops ⟨e, σ.n, [(0, σ.t)], []⟩ = D at ht hk'
      have hD0 : D 0 = ⟨e, σ.n, [(0, σ.t)], []⟩ := by rw [← hDd]; rfl
      have ho := planOk hok
      have hn : (D ops.size).n = n := by rw [← hk']
      have hi' : Inv N ι σ { w with drawn := w.drawn + 1 } := hi.same rfl
      have hle : Le ro ι w σ ι { w with drawn := w.drawn + 1 } σ := Le.same rfl rfl rfl rfl
      have hσN : σ.n ≤ N := by
        have := ht.n_mono hm hk (Nat.zero_le ops.size) (Nat.le_refl _)
        rw [hn, hD0] at this
        exact Nat.le_trans this hN
      have hQ' := hQ.from hi hle hσN
      refine wpIn_region_any hmix ?_
      have hB0 : headB (D 0).bs = σ.t := by rw [hD0]; rfl
      have hn0 : (D 0).n = σ.n := by rw [hD0]
      have hphi : Phi ops (planOf ops) D N ro ι { w with drawn := w.drawn + 1 } σ (Lst (Array.replicate ops.size false)) 0 e ι σ.at { w with drawn := w.drawn + 1 } := by
        have hno : ∀ i, ¬ Lst (Array.replicate ops.size false) i := by
          intro i hx
          unfold Lst at hx
          rw [Array.getElem?_replicate] at hx
          split at hx <;> cases hx
        refine ⟨fun i hx => absurd hx (hno i), fun j hx => absurd hx (hno j), ⟨by rw [hD0], fun j hx => absurd hx (hno j), fun t _ => by rw [hD0]⟩, Nat.zero_le _, fun i _ _ => ⟨fun hx => absurd hx (hno i), fun hx => absurd hx (Nat.not_lt_zero _)⟩, .inl rfl,
          (Mid.start hi' (by rw [hn]; exact hN)).fr ?_, fun p _ hx => absurd hx (hno _), ?_, ?_, ?_, ?_⟩
        · intro id hx
          rcases hx with ⟨j, hj, _, h1, h2⟩ | ⟨h1, h2⟩
          · have g1 := ht.n_mono hm hk (Nat.zero_le j) (by omega)
            have g2 := ht.n_mono hm hk (show j + 1 ≤ ops.size from hj) (Nat.le_refl _)
            exact ⟨by omega, by have : n ≤ N := hN; omega⟩
          · have g1 := ht.n_mono hm hk (Nat.zero_le ops.size) (Nat.le_refl _)
            exact ⟨by omega, h2⟩
        · rw [hB0]; exact fun _ _ h => h
        · rw [hB0]
          intro p hp _ id h1 _
          have g1 := ht.n_mono hm hk (Nat.zero_le p.j) (by have := hp.lt; omega)
          exact hi.wf id (by rw [hp.lo] at h1; omega)
        · rw [hB0, hn0]; exact hi.wf
        · rw [hB0]; exact fun _ _ _ => rfl
      refine any_ok (a0 := a) hS hC hm hk ho ht (by rw [hD0]) hn0 (by rw [hn]; exact hN) hi' hF ?_ ops.size _ 0 e ι σ.at _ a (by simp) ?_ hphi he rfl
      · intro m e1 ι1 cur w1 a1 hp he1 hd1
        have hbs : (D ops.size).bs = (D m).bs := ht.bs_const hp.mle (Nat.le_refl _) fun i h1 h2 hke => by
          have := (hp.eff i h2 hke).1 h2; omega
        have hB : headB (D m).bs = b := by rw [← hbs, ← hk']; rfl
        have hpc : (D ops.size).pcs = pcs := by rw [← hk']
        have hpcs : ∀ p ∈ pcs, Made ops D p ∧ Unab ops (planOf ops) D (fun i => i < ops.size) p.j ∧ p.hi ≤ n := by
          intro p hpm
          obtain ⟨c1, c2, c3⟩ := ht.pcs ho (by rw [hD0]) ops.size (Nat.le_refl _) p (by rw [hpc]; exact hpm)
          exact ⟨c1, fun i hA hwe => c3 i hA hwe, by rw [c1.hi, ← hn]; exact ht.n_mono hm hk c2 (Nat.le_refl _)⟩
        have hmid := hp.mid
        rw [hn] at hmid
        have hnm := ht.n_mono hm hk hp.mle (Nat.le_refl _)
        have h0n := ht.n_mono hm hk (Nat.zero_le ops.size) (Nat.le_refl _)
        obtain ⟨i1, l1⟩ := hmid.fin (N := N) (t := pcs.foldl overlay b) (by omega) (fun id h1 h2 => .inr ⟨h1, h2⟩) (fun id o hg => by
            rcases fold_get _ _ _ _ hg with ⟨p, hpm, g1, g2, g3⟩ | hg
            · obtain ⟨c1, c2, _⟩ := hpcs p hpm
              exact hp.piece p c1 c1.lt c2 id o g1 g2 g3
            · exact hp.base id o (by rw [hB]; exact hg))
          (fun id hid => by
            cases hg : (pcs.foldl overlay b).get id with
            | none => rfl
            | some o =>
              rcases fold_get _ _ _ _ hg with ⟨p, hpm, g1, g2, g3⟩ | hg
              · obtain ⟨_, _, c3⟩ := hpcs p hpm; omega
              · rw [← hB, hp.top id (by omega)] at hg; cases hg)
          (fun id hr hlt => by
            rw [fold_low, ← hB]
            · exact hp.low id hr hlt
            · intro p hpm
              obtain ⟨c1, _, _⟩ := hpcs p hpm
              rw [c1.lo]
              have := ht.n_mono hm hk (Nat.zero_le p.j) (by have := c1.lt; omega)
              omega)
        have henv : EnvR ι1 e' a1.tmps := by
          have hk2 := ht.env ho ops.size (Nat.le_refl _)
          have hee : (D ops.size).e = e' := by rw [← hk']
          refine ⟨by rw [← hee, hk2.n, ← hp.env.n]; exact he1.1, fun t => ?_⟩
          rw [← hee, ← reads_eq hp.env hk2 (t := t) fun i _ => Iff.rfl]
          exact he1.2 t
        exact hQ' a1 w1 ι1 [] i1 l1 henv (by rw [hd1]; exact hd.mono l1.ext) trivial
      · rw [Array.toList_replicate, List.count_replicate]
        simp
    · cases h
  · cases h

/-- **The evaluator is sound.** -/
theorem ev_sound (hmix : P.follows .mixedOrders = true) (n : Nat) : CallOk P (ev P n) := (ev_ok (fun _ _ h1 h2 h3 h4 => draw_ok hmix h1 h2 h3 h4) n).2.1
end Go.Ev
