/- A part of the verified evaluator of closed runs (EvRun): lemmas and definitions over the model, without conditions of their own. -/
import Derived.Test.YtcapkpeaofppnaaGreatDoorEvInv
import Derived.Laws.CopyRow
import Derived.Laws.Cells
namespace Go.Ev
variable {P : Program} {N : Nat} {ι : Io} {w : World} {σ : St}

theorem run_size {t : TypeId} {s : Nat} (h : sizeOf? P t = some s) (w : World) : (sizeOf t).run P w = .ok s w := by
  unfold sizeOf? at h
  cases hi : P.info? t with
  | none => simp [hi] at h
  | some i => simp [hi] at h; simp [sizeOf, typeInfo, hi, h]
theorem run_zero {t : TypeId} {z : Value} (h : zeroOf? P t = some z) (w : World) : (zeroValue t).run P w = .ok z w := by
  unfold zeroOf? at h
  cases hi : P.info? t with
  | none => simp [hi] at h
  | some i => simp [hi] at h; simp [zeroValue, typeInfo, hi, h]
theorem run_und {t : TypeId} {d : TypeDesc} (h : P.underlying t = some d) (w : World) : (underlying t).run P w = .ok d w := by simp [underlying, h]
theorem run_aggT {t : TypeId} {b : Bool} (h : aggT P t = some b) (w : World) : (isAgg t).run P w = .ok b w := by
  unfold aggT at h
  cases hu : P.underlying t with
  | none => simp [hu] at h
  | some d =>
    simp [hu] at h
    simp only [isAgg, Sem.run_bind, run_und hu, Result.andThen_ok]
    cases d <;> simp at h <;> subst h <;> rfl
theorem run_bytes {t : TypeId} {n : Nat} (h : (P.info? t).map (·.bytes) = some n) (w : World) : ∃ i, P.info? t = some i ∧ i.bytes = n ∧ (typeInfo t).run P w = .ok i w := by
  cases hi : P.info? t with
  | none => simp [hi] at h
  | some i => simp [hi] at h; exact ⟨i, rfl, h, by simp [typeInfo, hi]⟩

theorem add_none (b off n : Nat) : (⟨b, off, none⟩ : Addr).add n = ⟨b, off + n, none⟩ := by
  unfold Addr.add; split <;> simp_all

theorem cell_of {b off : Nat} {c : Array Value} {el : TypeId} {f : Nat × Nat} (h : w.heap[b]? = some (.cells c el f)) : w.cell? ⟨b, off, none⟩ = c[off]? := by
  simp [World.cell?, h]

/-- A part of a row. -/
theorem run_part {t : TypeId} {cs : List IV} {vs : List Value} {off : Nat} {v : IV} (h : partOf P t cs off = some v) (hr : RvL ι cs vs) (w : World) :
    ∃ u, (part t vs.toArray off).run P w = .ok u w ∧ Rv ι v u := by
  unfold partOf at h
  split at h
  · rename_i s ha hs
    split at h
    · rename_i hle
      cases h
      refine ⟨.agg (vs.toArray.extract off (off + s)), by simp [part, run_aggT ha, run_size hs], ?_⟩
      have e : vs.toArray.extract off (off + s) = ((vs.drop off).take s).toArray := by
        apply Array.ext'
        simp
      rw [e]
      have := (hr.drop off).take s
      exact .agg _ _ this.1 this.2
    · cases h
  · rename_i s ha hs
    split at h
    · obtain ⟨u, hu, hru⟩ := hr.get h
      exact ⟨u, by simp [part, run_aggT ha, hu], hru⟩
    · cases h
  · cases h

/-- A row of cells in memory. -/
def RowAt (w : World) (b off : Nat) (vs : List Value) : Prop := ∀ j v, vs[j]? = some v → w.cell? ⟨b, off + j, none⟩ = some v

theorem run_loadAt {t : TypeId} {cs : List IV} {vs : List Value} {b off k : Nat} {v : IV} (h : partOf P t cs k = some v) (hr : RvL ι cs vs) (hrow : RowAt w b off vs) :
    ∃ u, (loadVar t ⟨b, off + k, none⟩).run P w = .ok u w ∧ Rv ι v u := by
  unfold partOf at h
  split at h
  · rename_i s ha hs
    split at h
    · rename_i hle
      cases h
      have hl : ((vs.drop k).take s).length = s := by simp; have := hr.1; omega
      have hc : (loadCells ⟨b, off + k, none⟩ s).run P w = .ok ((vs.drop k).take s).toArray w := by
        have := run_loadCells_list (P := P) w ⟨b, off + k, none⟩ ((vs.drop k).take s) ?_
        · rwa [hl] at this
        · intro j v hj
          rw [add_none]
          have hj' : vs[k + j]? = some v := by
            rw [List.getElem?_take] at hj
            split at hj
            · simpa using hj
            · cases hj
          have := hrow _ _ hj'
          rw [show off + k + j = off + (k + j) by omega]
          exact this
      refine ⟨.agg ((vs.drop k).take s).toArray, by simp [loadVar, run_aggT ha, run_size hs, hc], ?_⟩
      have := (hr.drop k).take s
      exact .agg _ _ this.1 this.2
    · cases h
  · rename_i s ha hs
    split at h
    · obtain ⟨u, hu, hru⟩ := hr.get h
      exact ⟨u, by simp [loadVar, run_aggT ha, hrow _ _ hu], hru⟩
    · cases h
  · cases h

/-- What a cells object holds at an epoch. -/
theorem obj_row {id : Nat} {cs : List IV} {ep cep mn : Nat} (h : ObjRel ι w id (.cells cs cep mn)) (h1 : mn ≤ ep) (h2 : ep ≤ cep) :
    ∃ l c el, ι id ep = some l ∧ l.n ≤ cs.length ∧ l.n ≤ c.size ∧ w.heap[l.b]? = some (.cells c el (0, 0)) ∧ l.lim = c.size ∧ RvL ι (cs.take l.n) (c.toList.take l.n) := by
  obtain ⟨_, _, h3⟩ := h
  obtain ⟨l, c, el, hl, hn, hc, hlim, hk⟩ := h3 ep h1 h2
  have hsz : l.n ≤ c.size := by
    rcases Nat.eq_zero_or_pos l.n with h0 | h0
    · omega
    · obtain ⟨u, hu, _⟩ := hk (l.n - 1) cs[l.n - 1] (by omega) (List.getElem?_eq_getElem (by omega))
      have := (Array.getElem?_eq_some_iff.1 hu).1
      omega
  refine ⟨l, c, el, hl, hn, hsz, hc, hlim, by simp; omega, fun i x v hx hv => ?_⟩
  rw [List.getElem?_take] at hx hv
  split at hx
  · rename_i hi
    rw [if_pos hi] at hv
    obtain ⟨u, hu, hr⟩ := hk i x hi hx
    have : c.toList[i]? = some u := by simpa using hu
    rw [this] at hv; cases hv; exact hr
  · cases hx

theorem rowAt_take {b : Nat} {c : Array Value} {el : TypeId} {f : Nat × Nat} (h : w.heap[b]? = some (.cells c el f)) (n : Nat) : RowAt w b 0 (c.toList.take n) := by
  intro j v hj
  rw [cell_of h]
  rw [List.getElem?_take] at hj
  split at hj
  · simpa using hj
  · cases hj
theorem rowAt_drop {b off : Nat} {vs : List Value} (h : RowAt w b off vs) (n : Nat) : RowAt w b (off + n) (vs.drop n) := by
  intro j v hj
  have := h (n + j) v (by simpa using hj)
  rwa [show off + n + j = off + (n + j) by omega]
theorem rowAt_take' {b off : Nat} {vs : List Value} (h : RowAt w b off vs) (n : Nat) : RowAt w b off (vs.take n) := by
  intro j v hj
  rw [List.getElem?_take] at hj
  split at hj
  · exact h j v hj
  · cases hj

/-- A part of the known cells. -/
theorem partOf_take {t : TypeId} {cs : List IV} {off n s : Nat} {v : IV} (h : partOf P t cs off = some v) (hs : sizeOf? P t = some s) (hn : off + s ≤ n) : partOf P t (cs.take n) off = some v := by
  unfold partOf at h ⊢
  split at h
  · rename_i s' ha hs'
    rw [hs'] at hs; cases hs
    split at h
    · cases h
      rw [if_pos (by simp; omega)]
      congr 2
      rw [List.drop_take, List.take_take]
      congr 1; omega
    · cases h
  · rename_i s' ha hs'
    rw [hs'] at hs; cases hs
    split at h
    · rename_i h1
      rw [if_pos h1, List.getElem?_take, if_pos (by omega)]; exact h
    · cases h
  · cases h

/-- Loading through a pointer to a cells object. -/
theorem run_load_ptr {t : TypeId} {s id off ep ext cep mn : Nat} {cs : List IV} {v : IV} {u : Value} (hi : Inv N ι σ w) (hs : sizeOf? P t = some s) (hat : σ.at id = some (.cells cs cep mn))
    (hx : s ≤ ext) (h1 : mn ≤ ep) (h2 : ep ≤ cep) (hp : partOf P t cs off = some v) (hr : Rv ι (.ptr id off ep ext) u) :
    ∃ a x, u = .pointer (some a) ∧ (loadVar t a).run P w = .ok x w ∧ Rv ι v x := by
  obtain ⟨l, c, el, hl, hn, hsz, hc, _, hrow⟩ := obj_row (hi.obj id _ hat) h1 h2
  cases hr with
  | ptr _ _ _ _ l' hl' hx' =>
    rw [hl] at hl'; cases hl'
    have hp' := partOf_take hp hs (show off + s ≤ l.n by omega)
    obtain ⟨x, hx1, hx2⟩ := run_loadAt (k := off) hp' hrow (rowAt_take hc l.n)
    rw [Nat.zero_add] at hx1
    exact ⟨_, x, rfl, hx1, hx2⟩
end Go.Ev
