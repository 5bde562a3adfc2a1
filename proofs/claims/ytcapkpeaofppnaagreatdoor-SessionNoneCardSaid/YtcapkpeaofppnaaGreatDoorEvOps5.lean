/- A part of the verified evaluator of closed runs (EvOps5): lemmas and definitions over the model, without conditions of their own. -/
import Derived.Test.YtcapkpeaofppnaaGreatDoorEvOps4
namespace Go.Ev
variable {P : Program} {N ro : Nat} {ι : Io} {w : World} {σ : St} {ρ : Operand → IV} {r : Operand → Value} {o : Oper} {out : OpOut}

theorem lenI_ok {x : IV} {v : Value} {n : Nat} (h : lenI x = some n) (hr : Rv ι x v) (w : World) : (Builtin.lenOf v).run P w = .ok n w := by
  unfold lenI at h
  split at h
  · rename_i l c
    split at h
    · rename_i h0
      cases h; cases hr; simp [Builtin.lenOf, h0]
    · cases h
  · cases h; cases hr; rfl
  · cases h; cases hr; rfl
  · cases h; cases hr; rfl
  · cases h
    cases hr with
    | tree => rfl
    | treeE _ a => cases a <;> rfl
  · cases h

theorem extract_bytes (s : ByteArray) (n : Nat) : (s.extract 0 n).data.toList = s.data.toList.take n := by
  simp [ByteArray.data_extract, List.extract_eq_take_drop]

theorem flatMap_get {es : List IV} {s i j : Nat} (hcs : ∀ e ∈ es, (cellsOf e).length = s) (hj : j < s) : (es.flatMap cellsOf)[i * s + j]? = (es[i]?).bind fun e => (cellsOf e)[j]? := by
  induction es generalizing i with
  | nil => simp
  | cons e es ih =>
    have he := hcs e (by simp)
    rw [List.flatMap_cons]
    cases i with
    | zero => simp only [Nat.zero_mul, Nat.zero_add]; rw [List.getElem?_append_left (by omega)]; rfl
    | succ i =>
      rw [List.getElem?_append_right (by rw [Nat.add_mul]; omega), List.getElem?_cons_succ, ← ih (fun e he => hcs e (by simp [he]))]
      congr 1
      rw [he, Nat.add_mul]; omega

theorem flatMap_len {es : List IV} {s : Nat} (hcs : ∀ e ∈ es, (cellsOf e).length = s) : (es.flatMap cellsOf).length = es.length * s := by
  induction es with
  | nil => simp
  | cons e es ih => rw [List.flatMap_cons, List.length_append, hcs e (by simp), ih (fun e he => hcs e (by simp [he])), List.length_cons, Nat.add_mul]; omega

theorem firstC_ok {size n : Nat} {x : IV} {v : Value} {cs : List IV} (hi : Inv N ι σ w) (h : firstC size n σ x = some cs) (hr : Rv ι x v) :
    ∃ vs : List Value, (∀ w' : World, w'.heap = w.heap → (Builtin.firstCells size n v).run P w' = .ok vs.toArray w') ∧ RvL ι cs vs := by
  have hcell : ∀ w' : World, w'.heap = w.heap → ∀ a : Addr, w'.cell? a = w.cell? a := fun w' hw' a => by simp only [World.cell?, hw']
  unfold firstC at h
  split at h
  · split at h
    · cases h; cases hr; exact ⟨[], fun w' _ => by simp [Builtin.firstCells], RvL.nil⟩
    · cases h
  · split at h
    · rename_i h0
      cases h; cases hr; subst h0; exact ⟨[], fun w' _ => by simp [Builtin.firstCells, loadCells, loadCellsFrom], RvL.nil⟩
    · cases h
  · rename_i s
    split at h
    · rename_i h0
      cases h; cases hr
      refine ⟨(s.data.toList.take n).map fun b => .int .u8 b.toNat, fun w' _ => ?_, RvL.of_map fun a _ => .raw _⟩
      simp only [Builtin.firstCells, Sem.run_pure]
      congr 1
      apply Array.ext'
      simp
    · cases h
  · rename_i id off len cap ep s
    split at h
    · rename_i hc
      obtain ⟨rfl, hn⟩ := hc
      split at h
      · rename_i cs0 cep mn hat
        split at h
        · rename_i hc
          cases h
          obtain ⟨l, c, el, hl, hln, hsz, hcb, hlim, hrow⟩ := obj_row (hi.obj id _ hat) hc.1 hc.2.1
          cases hr with
          | sl _ _ _ _ _ _ l' k a hl' hle hlk hs hlc hcap ha =>
            rw [hl] at hl'; cases hl'
            have hmul : n * s ≤ len * s := Nat.mul_le_mul_right s hn
            have hvl : (((c.toList.take l.n).drop off).take (n * s)).length = n * s := by simp; omega
            have e1 : (cs0.drop off).take (n * s) = ((cs0.take l.n).drop off).take (n * s) := by
              rw [List.drop_take, List.take_take]; congr 1; omega
            refine ⟨((c.toList.take l.n).drop off).take (n * s), fun w' hw' => ?_, ?_⟩
            · simp only [Builtin.firstCells]
              rcases Nat.eq_zero_or_pos n with h0 | h0
              · subst h0; simp [loadCells, loadCellsFrom]
              · have ea := ha (by omega)
                subst ea
                have hrow' : RowAt w l.b off (((c.toList.take l.n).drop off).take (n * s)) := by
                  have := rowAt_take' (rowAt_drop (rowAt_take hcb l.n) off) (n * s)
                  simpa using this
                have := run_loadCells_list (P := P) w' ⟨l.b, off, none⟩ _ (fun j v hj => by rw [add_none, hcell w' hw']; exact hrow' j v hj)
                rwa [hvl] at this
            · rw [e1]; exact (hrow.drop off).take _
        · cases h
      · cases h
    · cases h
  · rename_i s es
    split at h
    · rename_i hc
      obtain ⟨rfl, hn⟩ := hc
      cases h
      cases hr with
      | tree _ _ b off c us hs hc hcs hu hh =>
        have hmul : n * s ≤ es.length * s := Nat.mul_le_mul_right s hn
        have hcs' : ∀ e ∈ es.take n, (cellsOf e).length = s := fun e he => hcs e (List.mem_of_mem_take he)
        have hlen : ((es.take n).flatMap cellsOf).length = n * s := by rw [flatMap_len hcs', List.length_take, Nat.min_eq_left hn]
        refine ⟨(List.range (n * s)).map us, fun w' hw' => ?_, by simp [hlen], fun i x v hx hv => ?_⟩
        · simp only [Builtin.firstCells]
          rw [run_loadCells (P := P) w' ⟨b, off, none⟩ (n * s) us]
          intro j hj
          rw [add_none, hcell w' hw']
          have hm := hu j (by omega)
          unfold cellM at hm
          cases hb : ι.m b with
          | none => simp [hb] at hm
          | some c =>
            obtain ⟨el, f, hh'⟩ := hi.mem b c hb
            rw [cell_of hh']
            simpa [hb] using hm
        · have hilt : i < n * s := by have := (List.getElem?_eq_some_iff.1 hx).1; omega
          have hv' : v = us i := by
            simp [hilt] at hv; exact hv.symm
          subst hv'
          have hq : i / s * s + i % s = i := Nat.div_add_mod' i s
          have hj : i % s < s := Nat.mod_lt _ hs
          rw [← hq, flatMap_get hcs' hj] at hx
          rw [Option.bind_eq_some_iff] at hx
          obtain ⟨e, he, hce⟩ := hx
          rw [List.getElem?_take] at he
          split at he
          · have := hh _ _ _ _ he hce
            rwa [hq] at this
          · cases he
      | treeE _ a c hs hz =>
        obtain rfl : n = 0 := by simpa using hn
        refine ⟨[], fun w' hw' => ?_, by simp, fun i x v hx hv => by simp at hx⟩
        cases a <;> simp [Builtin.firstCells, loadCells, loadCellsFrom]
    · cases h
  · cases h

theorem growBy_le (need : Nat) : ∀ (k c : Nat), c ≤ need + (need + 768) / 4 → Builtin.growBy need k c ≤ need + (need + 768) / 4
  | 0, c, h => h
  | k + 1, c, h => by
    unfold Builtin.growBy
    split
    · exact h
    · exact growBy_le need k _ (by omega)
theorem nextcap_le {need old : Nat} (h : old < need) : Builtin.nextslicecap need old ≤ 4 * need + 4096 := by
  unfold Builtin.nextslicecap
  split
  · omega
  · split
    · omega
    · have := growBy_le need 4 old (by omega)
      omega

/-- append that grows into a row of its own. -/
theorem Inv.grown (hi : Inv N ι σ w) (hN : σ.n < N) {cs : List IV} {vs : List Value} (hr : RvL ι cs vs) (rest : List Value) (el : TypeId) {size m c : Nat} (hs : 0 < size) (hm : cs.length = m * size)
    (hc : (vs ++ rest).length = c * size) (hmc : m ≤ c) :
    let w' : World := { w with heap := w.heap.push (.cells (vs ++ rest).toArray el), drawn := w.drawn + 1 }
    ∃ ι', Rv ι' (.sl σ.n 0 m none 0 size) (.slice (some ⟨w.heap.size, 0, none⟩) m c) ∧ Inv N ι' (σ.add (.cells cs 0 0)) w' ∧ Le ro ι w σ ι' w' (σ.add (.cells cs 0 0)) := by
  intro w'
  obtain ⟨h1, h2⟩ := hi.newRowR (ro := ro) hN hr rest el (w' := w') rfl rfl rfl rfl
  exact ⟨_, .sl _ _ _ _ _ _ _ _ _ (updI_self _ _ _ _) (by simp [hm]) (by simp only [Nat.zero_add]; rw [hc]; exact Nat.le_refl _) hs hmc (fun k hk => by cases hk) (fun _ => rfl), h1, h2⟩

/-- The object of a grown slice gets more cells, in place or in a row of its own. -/
theorem Inv.growIn (hi : Inv N ι σ w) {id cep mn : Nat} {cs new : List IV} {vals : List Value} (hat : σ.at id = some (.cells cs cep mn)) (hro : ro ≤ id) (hr : RvL ι new vals)
    {l : Loc} {c : Array Value} {el : TypeId} (hl : ι id cep = some l) (hcb : w.heap[l.b]? = some (.cells c el (0, 0))) (hlt : cs.length + vals.length ≤ c.size) :
    let w' := w.setRow l.b (c.toList.take cs.length ++ vals ++ c.toList.drop (cs.length + vals.length)).toArray
    let ι' := updI ι id (cep + 1) ⟨l.b, cs.length + new.length, l.lim⟩
    Inv N ι' (σ.put id (.cells (cs ++ new) (cep + 1) mn)) w' ∧ Le ro ι w σ ι' w' (σ.put id (.cells (cs ++ new) (cep + 1) mn)) := by
  intro w' ι'
  have hob := hi.obj id _ hat
  obtain ⟨⟨hmn, hno⟩, ⟨l0, hl0, hn0⟩, hall⟩ := hob
  obtain rfl : l = l0 := by rw [hl] at hl0; exact Option.some.inj hl0
  have hnone : ι id (cep + 1) = none := hno _ (by omega)
  have hext := updI_ext (l := ⟨l.b, cs.length + new.length, l.lim⟩) hnone
  have hlim : l.lim = c.size := by
    obtain ⟨l2, c2, el2, h1, _, h3, h4, _⟩ := hall cep hmn (Nat.le_refl _)
    rw [hl] at h1; cases h1
    rw [hcb] at h3; cases h3
    exact h4
  have hw' : w'.heap[l.b]? = some (.cells (c.toList.take cs.length ++ vals ++ c.toList.drop (cs.length + vals.length)).toArray el (0, 0)) := setRow_heap w l.b c _ el _ hcb
  have hvl := hr.1
  refine hi.put hat hro ⟨_, _, hl⟩ hext (fun i hne e => by simp [ι', updI, hne]) ?_ (by simp only [w']; rw [setRow_size]; exact Nat.le_refl _) (fun b _ hno => setRow_heap_ne _ _ _ _ ?_) rfl rfl rfl ?_
  · intro b hb
    rcases updI_own hb with hb | ⟨_, hb⟩
    · exact .inl hb
    · subst hb; exact .inl ⟨_, _, hl, rfl⟩
  · intro e; subst e; exact hno ⟨_, _, hl, rfl⟩
  · refine ⟨⟨by omega, fun e he => ?_⟩, ⟨_, updI_self _ _ _ _, by simp⟩, fun e he he' => ?_⟩
    · have : e ≠ cep + 1 := by omega
      simp [ι', updI, this, hno e (by omega)]
    · by_cases hee : e = cep + 1
      · subst hee
        refine ⟨_, _, el, updI_self _ _ _ _, by simp, hw', by simp; omega, fun k x hk hx => ?_⟩
        obtain ⟨l2, c2, el2, h1, _, h3, _, h5⟩ := hall cep hmn (Nat.le_refl _)
        rw [hl] at h1; cases h1
        rw [hcb] at h3; cases h3
        by_cases hkk : k < cs.length
        · rw [List.getElem?_append_left hkk] at hx
          obtain ⟨u, hu, hru⟩ := h5 k x (by omega) hx
          refine ⟨u, ?_, hru.mono hext⟩
          rw [List.getElem?_toArray, List.append_assoc, List.getElem?_append_left (by simp; omega), List.getElem?_take, if_pos hkk]
          simpa using hu
        · rw [List.getElem?_append_right (by omega)] at hx
          obtain ⟨u, hu, hru⟩ := hr.get hx
          have hul := (List.getElem?_eq_some_iff.1 hu).1
          refine ⟨u, ?_, hru.mono hext⟩
          rw [List.getElem?_toArray, List.getElem?_append_left (by simp; omega), List.getElem?_append_right (by simp; omega)]
          simp only [List.length_take, Array.length_toList, Nat.min_eq_left (show cs.length ≤ c.size by omega)]
          exact hu
      · obtain ⟨l2, c2, el2, h1, h2, h3, h4, h5⟩ := hall e he (by omega)
        by_cases hbb : l2.b = l.b
        · rw [hbb, hcb] at h3; cases h3
          refine ⟨l2, _, el, hext _ _ _ h1, by simp; omega, by rw [hbb]; exact hw', by simp; omega, fun k x hk hx => ?_⟩
          rw [List.getElem?_append_left (by omega)] at hx
          obtain ⟨u, hu, hru⟩ := h5 k x hk hx
          refine ⟨u, ?_, hru.mono hext⟩
          rw [List.getElem?_toArray, List.append_assoc, List.getElem?_append_left (by simp; omega), List.getElem?_take, if_pos (by omega)]
          simpa using hu
        · refine ⟨l2, c2, el2, hext _ _ _ h1, by simp; omega, by simp only [w']; rw [setRow_heap_ne _ _ _ _ hbb]; exact h3, h4, fun k x hk hx => ?_⟩
          rw [List.getElem?_append_left (by omega)] at hx
          obtain ⟨u, hu, hru⟩ := h5 k x hk hx
          exact ⟨u, hu, hru.mono hext⟩

theorem Inv.growNew (hi : Inv N ι σ w) {id cep mn : Nat} {cs new : List IV} {olds vals : List Value} (hat : σ.at id = some (.cells cs cep mn)) (hro : ro ≤ id) (hro' : RvL ι cs olds) (hr : RvL ι new vals)
    (rest : List Value) (el : TypeId) :
    let w' : World := { w with heap := w.heap.push (.cells (olds ++ vals ++ rest).toArray el), drawn := w.drawn + 1 }
    let ι' := updI ι id (cep + 1) ⟨w.heap.size, cs.length + new.length, (olds ++ vals ++ rest).length⟩
    Inv N ι' (σ.put id (.cells (cs ++ new) (cep + 1) mn)) w' ∧ Le ro ι w σ ι' w' (σ.put id (.cells (cs ++ new) (cep + 1) mn)) := by
  intro w' ι'
  have hob := hi.obj id _ hat
  obtain ⟨⟨hmn, hno⟩, ⟨l0, hl0, hn0⟩, hall⟩ := hob
  have hnone : ι id (cep + 1) = none := hno _ (by omega)
  have hext := updI_ext (l := ⟨w.heap.size, cs.length + new.length, (olds ++ vals ++ rest).length⟩) hnone
  have hold : ∀ b, b < w.heap.size → w'.heap[b]? = w.heap[b]? := fun b hb => by simp only [w']; rw [Array.getElem?_push, if_neg (by omega)]
  have hw' : w'.heap[w.heap.size]? = some (.cells (olds ++ vals ++ rest).toArray el (0, 0)) := by simp [w']
  refine hi.put hat hro ⟨_, _, hl0⟩ hext (fun i hne e => by simp [ι', updI, hne]) ?_ (by simp [w']) (fun b hb _ => hold b hb) rfl rfl rfl ?_
  · intro b hb
    rcases updI_own hb with hb | ⟨_, hb⟩
    · exact .inl hb
    · subst hb; exact .inr ⟨Nat.le_refl _, by simp [w']⟩
  · refine ⟨⟨by omega, fun e he => ?_⟩, ⟨_, updI_self _ _ _ _, by simp⟩, fun e he he' => ?_⟩
    · have : e ≠ cep + 1 := by omega
      simp [ι', updI, this, hno e (by omega)]
    · by_cases hee : e = cep + 1
      · subst hee
        refine ⟨_, _, el, updI_self _ _ _ _, by simp, hw', by simp, fun k x hk hx => ?_⟩
        obtain ⟨u, hu, hru⟩ := (hro'.append hr).get hx
        have hul := (List.getElem?_eq_some_iff.1 hu).1
        refine ⟨u, ?_, hru.mono hext⟩
        rw [List.getElem?_toArray, List.getElem?_append_left hul]
        exact hu
      · obtain ⟨l2, c2, el2, h1, h2, h3, h4, h5⟩ := hall e he (by omega)
        have hlt : l2.b < w.heap.size := hi.bnd id _ ⟨_, _, h1, rfl⟩
        refine ⟨l2, c2, el2, hext _ _ _ h1, by simp; omega, by rw [hold _ hlt]; exact h3, h4, fun k x hk hx => ?_⟩
        rw [List.getElem?_append_left (by omega)] at hx
        obtain ⟨u, hu, hru⟩ := h5 k x hk hx
        exact ⟨u, hu, hru.mono hext⟩
end Go.Ev
