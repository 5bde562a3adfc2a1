/- A part of the verified evaluator of closed runs (EvOps4): lemmas and definitions over the model, without conditions of their own. -/
import Derived.Test.YtcapkpeaofppnaaGreatDoorEvOps3
import Derived.IntWalk
namespace Go.Ev
variable {P : Program} {N ro : Nat} {ι : Io} {w : World} {σ : St} {ρ : Operand → IV} {r : Operand → Value} {o : Oper} {out : OpOut}

/-! ### Rows of zeros -/
theorem range_cycle (l : List Value) (s : Nat) (hl : l.length = s) : ∀ n, (List.range (n * s)).map (fun i => l[i % s]!) = (List.replicate n l).flatten
  | 0 => by simp
  | n + 1 => by
    rw [Nat.add_mul, Nat.one_mul, List.range_add, List.map_append, range_cycle l s hl n, List.replicate_succ', List.flatten_append]
    congr 1
    simp only [List.flatten_cons, List.flatten_nil, List.append_nil, List.map_map]
    apply List.ext_getElem?
    intro i
    by_cases hi : i < s
    · have h1 : (n * s + i) % s = i := by rw [Nat.mul_comm, Nat.mul_add_mod, Nat.mod_eq_of_lt hi]
      simp [hi, h1, hl]
    · rw [List.getElem?_eq_none (by simp; omega), List.getElem?_eq_none (by omega)]
theorem cycle_raw (l : List Value) (s n : Nat) (hl : l.length = s) (hs : s ≠ 0) : cycle (l.map .raw) (n * s) = ((List.replicate n l).flatten).map .raw := by
  unfold cycle
  split
  · rename_i z hz
    cases l with
    | nil => simp at hz
    | cons a l =>
      cases l with
      | nil =>
        simp only [List.map_cons, List.map_nil, List.cons.injEq, and_true] at hz
        subst hz
        have hs1 : s = 1 := by simpa using hl.symm
        subst hs1
        rw [Nat.mul_one]
        clear hl hs
        induction n with
        | zero => rfl
        | succ n ih => rw [List.replicate_succ, List.replicate_succ, List.flatten_cons, ih]; rfl
      | cons b l => simp at hz
  · rw [List.length_map, hl, Nat.mul_div_cancel _ (by omega), List.map_flatten]
    simp
theorem zero_row (z : Array Value) (s n : Nat) (hz : z.size = s) (hs : s ≠ 0) : (Array.range (n * s)).map (fun i => z[i % z.size]!) = (((List.replicate n z.toList).flatten)).toArray := by
  apply Array.ext'
  have := range_cycle z.toList s (by simpa using hz) n
  simp only [Array.toList_map, Array.toList_range, hz]
  rw [← this]
  apply List.map_congr_left
  intro i _
  simp [List.getElem!_eq_getElem?_getD, Array.getElem!_eq_getD]
theorem rvl_cycle (z : Value) (s n : Nat) (hz : z.cells.size = s) (hs : s ≠ 0) : RvL ι (cycle (z.cells.toList.map .raw) (n * s)) ((List.replicate n z.cells.toList).flatten) := by
  rw [cycle_raw _ s n (by simpa using hz) hs]
  exact RvL.raws _
theorem len_cycle (z : Value) (s n : Nat) (hz : z.cells.size = s) : ((List.replicate n z.cells.toList).flatten).length = n * s := by
  simp [hz]

/-! ### Filling -/
theorem foldl_set (off : Nat) : ∀ (l : List Value) (k : Nat) (A : Array Value) (i : Nat), off + k + l.length ≤ A.size →
    ((l.zipIdx k).foldl (fun cs (x : Value × Nat) => cs.setIfInBounds (off + x.2) x.1) A)[i]? = if off + k ≤ i ∧ i < off + k + l.length then l[i - off - k]? else A[i]?
  | [], k, A, i, _ => by
    have : ¬ (off + k ≤ i ∧ i < off + k + 0) := by omega
    simp
    intro h1 h2; omega
  | v :: l, k, A, i, h => by
    simp only [List.length_cons] at h
    simp only [List.zipIdx_cons, List.foldl_cons]
    rw [foldl_set off l (k + 1) _ i (by simp; omega)]
    by_cases h1 : off + (k + 1) ≤ i ∧ i < off + (k + 1) + l.length
    · rw [if_pos h1, if_pos (by simp; omega)]
      have : i - off - k = (i - off - (k + 1)) + 1 := by omega
      rw [this, List.getElem?_cons_succ]
    · rw [if_neg h1]
      by_cases h2 : i = off + k
      · subst h2
        rw [if_pos (by simp)]
        have : off + k < A.size := by omega
        simp [this]
      · rw [if_neg (by simp; omega), Array.getElem?_setIfInBounds, if_neg (by omega)]

theorem fill_ok {place : Nat → Option (Nat × Nat)} : ∀ {parts : List (Nat × IV)} {parts' : List (Nat × Value)} {cs cs' : List IV} {A : Array Value},
    fillI place cs parts = some cs' → RvL ι cs A.toList → parts.length = parts'.length → (∀ (i : Nat) (p : Nat × IV) (q : Nat × Value), parts[i]? = some p → parts'[i]? = some q → p.1 = q.1 ∧ Rv ι p.2 q.2) →
    ∃ A', Instr.fill place A parts' = some A' ∧ RvL ι cs' A'.toList
  | [], parts', cs, cs', A, h, hr, hl, hp => by
    cases parts' with
    | nil => simp only [fillI, Option.some.injEq] at h; subst h; exact ⟨A, rfl, hr⟩
    | cons p q => simp at hl
  | (i, x) :: rest, parts', cs, cs', A, h, hr, hl, hp => by
    cases parts' with
    | nil => simp at hl
    | cons q rest' =>
      obtain ⟨j, v⟩ := q
      obtain ⟨h1, h2⟩ := hp 0 _ _ rfl rfl
      simp only at h1 h2
      subst h1
      simp only [fillI] at h
      split at h
      · cases h
      · rename_i off size hpl
        split at h
        · rename_i hc
          obtain ⟨hlen, hle, hok⟩ := hc
          have hcells := h2.cells_ok hok
          have hvs : v.cells.size = size := by have := hcells.1; simp at this; omega
          have hAs : cs.length = A.size := by have := hr.1; simpa using this
          have hA : (v.cells.zipIdx.foldl (fun cs (x : Value × Nat) => cs.setIfInBounds (off + x.2) x.1) A).toList = A.toList.take off ++ v.cells.toList ++ A.toList.drop (off + v.cells.toList.length) := by
            apply List.ext_getElem?
            intro k
            have hf := foldl_set off v.cells.toList 0 A k (by simp; omega)
            have e : v.cells.zipIdx.foldl (fun cs (x : Value × Nat) => cs.setIfInBounds (off + x.2) x.1) A = (v.cells.toList.zipIdx 0).foldl (fun cs (x : Value × Nat) => cs.setIfInBounds (off + x.2) x.1) A := by
              rw [← Array.foldl_toList]; simp
            rw [Array.getElem?_toList, e, hf]
            simp only [Nat.add_zero, Nat.sub_zero, Array.length_toList]
            by_cases h3 : k < off
            · rw [if_neg (by omega), List.append_assoc, List.getElem?_append_left (by simp; omega), List.getElem?_take, if_pos h3, Array.getElem?_toList]
            · by_cases h4 : k < off + v.cells.size
              · rw [if_pos (by omega), List.getElem?_append_left (by simp; omega), List.getElem?_append_right (by simp; omega)]
                congr 1; simp; omega
              · rw [if_neg (by omega), List.getElem?_append_right (by simp; omega), List.getElem?_drop, Array.getElem?_toList]
                congr 1; simp; omega
          have hr' := hr.splice off hcells
          rw [← hA] at hr'
          obtain ⟨A', h5, h6⟩ := fill_ok h hr' (by simpa using hl) (fun i p q hp1 hq1 => hp (i + 1) p q hp1 hq1)
          refine ⟨A', ?_, h6⟩
          simp only [Instr.fill, hpl]
          rw [if_neg (by simp; omega)]
          exact h5
        · cases h

theorem parts_ok {parts : Array (Nat × Operand)} (hr : ∀ x ∈ (parts.toList.map (·.2)), Rv ι (ρ x) (r x)) :
    ∀ (i : Nat) (p : Nat × IV) (q : Nat × Value), (parts.toList.map fun (y : Nat × Operand) => (y.1, ρ y.2))[i]? = some p → ((parts.map fun (y : Nat × Operand) => (y.1, r y.2)).toList)[i]? = some q → p.1 = q.1 ∧ Rv ι p.2 q.2 := by
  intro i p q h1 h2
  simp only [List.getElem?_map, Option.map_eq_some_iff, Array.toList_map] at h1 h2
  obtain ⟨a, ha, rfl⟩ := h1
  obtain ⟨b, hb, rfl⟩ := h2
  rw [ha] at hb; cases hb
  exact ⟨rfl, hr _ (List.mem_map.2 ⟨a, List.mem_of_getElem? ha, rfl⟩)⟩

theorem run_places {fields : List Field} (h : ∀ f ∈ fields, (sizeOf? P f.type).isSome = true) :
    (fields.mapM fun f => (do pure (f.offset, ← sizeOf f.type) : Sem (Nat × Nat))).run P w = .ok (fields.map fun f => (f.offset, (sizeOf? P f.type).getD 0)) w := by
  induction fields with
  | nil => rfl
  | cons f fs ih =>
    obtain ⟨s, hs⟩ := Option.isSome_iff_exists.1 (h f (by simp))
    rw [List.mapM_cons]
    simp only [Sem.run_bind, run_size hs, Result.andThen_ok, Sem.run_pure, ih (fun g hg => h g (by simp [hg])), List.map_cons, hs, Option.getD_some]

theorem op_build {t : TypeId} {parts : Array (Nat × Operand)} (hi : Inv N ι σ w) (hr : ∀ x ∈ (parts.toList.map (·.2)), Rv ι (ρ x) (r x)) (ho : o.op = .build t parts) (h : evOp P ro ρ o σ = some out) :
    OutOk P ro N ι w σ r o out := by
  unfold evOp at h; rw [ho] at h; simp only at h
  split at h
  · rename_i z fields hz hu
    split at h
    · rename_i cs hf
      split at h
      · rename_i hall
        obtain rfl := ret_val h
        obtain ⟨A', h1, h2⟩ := fill_ok (ι := ι) hf (A := z.cells) (RvL.raws _) (by simp) (parts_ok hr)
        refine OutOk.same hi (u := .agg A') ?_ ?_
        · have hp := run_places (P := P) (w := w) (fields := fields.toList) (fun f hf => Array.all_eq_true_iff_forall_mem.1 hall f (by simpa using hf))
          have hpl : (fields.mapM fun f => (do pure (f.offset, ← sizeOf f.type) : Sem (Nat × Nat))).run P w = .ok (fields.map fun f => (f.offset, (sizeOf? P f.type).getD 0)) w := by
            rw [Array.mapM_eq_mapM_toList, Sem.run_map, hp]
            simp only [Result.andThen_ok]
            congr 1
            apply Array.ext'
            simp
          have hplace : (fun (i : Nat) => (fields.map fun (f : Field) => (f.offset, (sizeOf? P f.type).getD 0))[i]?) = (fun (i : Nat) => (fields[i]?).bind fun (f : Field) => (sizeOf? P f.type).map fun s => (f.offset, s)) := by
            funext i
            rw [Array.getElem?_map]
            cases hfi : fields[i]? with
            | none => rfl
            | some f =>
              obtain ⟨s, hs⟩ := Option.isSome_iff_exists.1 (Array.all_eq_true_iff_forall_mem.1 hall f (Array.mem_of_getElem? hfi))
              simp [hs]
          rw [← hplace] at h1
          simp only [execOp, ho, Instr.build, Sem.run_bind, run_zero hz, run_und hu, hpl, Result.andThen_ok, h1, Sem.run_pure]
        · have := Rv.agg (ι := ι) cs A'.toList h2.1 h2.2
          simpa using this
      · cases h
    · cases h
  · rename_i z n elem hz hu
    split at h
    · rename_i s hs
      split at h
      · rename_i cs hf
        obtain rfl := ret_val h
        obtain ⟨A', h1, h2⟩ := fill_ok (ι := ι) hf (A := z.cells) (RvL.raws _) (by simp) (parts_ok hr)
        refine OutOk.same hi (u := .agg A') ?_ ?_
        · simp only [execOp, ho, Instr.build, Sem.run_bind, run_zero hz, run_und hu, run_size hs, Result.andThen_ok, h1, Sem.run_pure]
        · have := Rv.agg (ι := ι) cs A'.toList h2.1 h2.2
          simpa using this
      · cases h
    · cases h
  · cases h

theorem op_buildSlice {t : TypeId} {len : Nat} {parts : Array (Nat × Operand)} (hi : Inv N ι σ w) (hr : ∀ x ∈ (parts.toList.map (·.2)), Rv ι (ρ x) (r x)) (ho : o.op = .buildSlice t len parts)
    (h : evOp P ro ρ o σ = some out) : OutOk P ro N ι w σ r o out := by
  unfold evOp at h; rw [ho] at h; simp only at h
  split at h
  · rename_i elem hu
    split at h
    · rename_i s z hs hz
      split at h
      · cases h
      · rename_i hc
        have hs0 : s ≠ 0 := fun e => hc (.inl e)
        have hzs : z.cells.size = s := Classical.byContradiction fun e => hc (.inr (.inl e))
        have hbig : len * s ≤ 2 ^ 20 := by
          have : ¬ len * s > 2 ^ 20 := fun e => hc (.inr (.inr e))
          omega
        split at h
        · rename_i cs hf
          split at h
          · rename_i hcs
            obtain ⟨hlen, hok⟩ := hcs
            have hrow0 := zero_row z.cells s len hzs hs0
            obtain ⟨A', h1, h2⟩ := fill_ok (ι := ι) hf (A := ((List.replicate len z.cells.toList).flatten).toArray) (by simpa using rvl_cycle z s len hzs hs0) (by simp) (parts_ok hr)
            have hrun : (execOp r o).run P w = .ok (.value (.slice (some ⟨w.heap.size, 0, none⟩) len len)) { w with heap := w.heap.push (.cells A' elem) } := by
              simp only [execOp, ho, Instr.buildSlice, Sem.run_bind, run_und hu, run_size hs, Result.andThen_ok]
              rw [if_neg (by omega)]
              by_cases h0 : len * s = 0
              · have hl0 : len = 0 := by rcases Nat.mul_eq_zero.1 h0 with h | h; exact h; exact absurd h hs0
                have e0 : Array.range (len * s) = #[] := by rw [h0]; rfl
                have e1 : ((List.replicate len z.cells.toList).flatten).toArray = #[] := by rw [hl0]; rfl
                rw [e1] at h1
                simp only [if_pos h0, Sem.run_pure, Result.andThen_ok, e0, Array.map_empty, h1, newRow, Sem.run_bind, run_newObj]
              · simp only [h0, if_false, Sem.run_bind, run_zero hz, Result.andThen_ok, Sem.run_pure, hrow0, h1]
                simp [newRow]
            split at h
            · rename_i hl0
              obtain rfl := ret_val h
              subst hl0
              intro hN
              obtain ⟨h3, h4⟩ := hi.push (ro := ro) (w' := { w with heap := w.heap.push (.cells A' elem) }) (o := .cells A' elem) rfl rfl rfl rfl
              exact ⟨_, _, _, .inl hrun, .emp _, h3, h4⟩
            · obtain rfl := ret_val h
              intro hN
              have hA : A' = A'.toList.toArray := by simp
              obtain ⟨h3, h4⟩ := hi.newRow (ro := ro) (by simp at hN; omega) h2 elem
              have hAl : cs.length = A'.size := by have := h2.1; simpa using this
              refine ⟨_, _, _, .inl hrun, ?_, by simpa using h3, by simpa using h4⟩
              exact .sl _ _ _ _ _ _ _ _ _ (updI_self _ _ _ _) (by simp; omega) (by simp; omega) (by omega) (Nat.le_refl _) (fun k hk => by cases hk; exact ⟨rfl, by simp; omega⟩) (fun _ => rfl)
          · cases h
        · cases h
    · cases h
  · cases h

theorem op_makeSlice {t : TypeId} {l c : Operand} (hi : Inv N ι σ w) (hrl : Rv ι (ρ l) (r l)) (hrc : Rv ι (ρ c) (r c)) (ho : o.op = .makeSlice t l c)
    (h : evOp P ro ρ o σ = some out) : OutOk P ro N ι w σ r o out := by
  unfold evOp at h; rw [ho] at h; simp only at h
  split at h
  · rename_i elem k1 li k2 ci hu hl hc
    have el := rv_raw hl hrl
    have ec := rv_raw hc hrc
    split at h
    · rename_i s z bytes hs hz hb
      split at h
      · cases h
      · rename_i hcond
        have hs0 : s ≠ 0 := fun e => hcond (.inl e)
        have hzs : z.cells.size = s := Classical.byContradiction fun e => hcond (.inr (.inl e))
        have hlc : 0 ≤ li ∧ li ≤ ci ∧ ci ≤ 1000000 := Classical.byContradiction fun e => hcond (.inr (.inr (.inl e)))
        have hbb : bytes ≤ 1000000 := by
          have : ¬ bytes > 1000000 := fun e => hcond (.inr (.inr (.inr e)))
          omega
        obtain ⟨i, hi', hbi, hti⟩ := run_bytes hb w
        have wl : IntKind.i64.wrap li = li := IntWalk.i64_in _ (by omega)
        have wc : IntKind.i64.wrap ci = ci := IntWalk.i64_in _ (by omega)
        have hrow0 := zero_row z.cells s ci.toNat hzs hs0
        have c1 : ¬ ci < 0 := by omega
        have c2 : ¬ (2 ^ 48 : Int) < (i.bytes : Int) * ci := by
          have h1 : (i.bytes : Int) * ci ≤ 1000000 * 1000000 := by
            have hb1 : (i.bytes : Int) ≤ 1000000 := by omega
            exact Int.mul_le_mul hb1 hlc.2.2 (by omega) (by omega)
          omega
        have c3 : ¬ li < 0 := by omega
        have c4 : ¬ ci < li := by omega
        have hrun : (execOp r o).run P w = .ok (.value (.slice (some ⟨w.heap.size, 0, none⟩) li.toNat ci.toNat)) { w with heap := w.heap.push (.cells ((List.replicate ci.toNat z.cells.toList).flatten).toArray elem) } := by
          simp only [execOp, ho, Instr.makeSlice, Sem.run_bind, run_und hu, el, ec, asInt, asIntOf, Sem.run_pure, Result.andThen_ok, hti, wl, wc, gt_iff_lt, c1, c2, c3, c4, decide_false, Bool.or_self, Bool.false_eq_true, if_false, run_askRoom, run_size hs]
          by_cases h0 : ci.toNat * s = 0
          · have hc0 : ci.toNat = 0 := by rcases Nat.mul_eq_zero.1 h0 with h | h; exact h; exact absurd h hs0
            have e0 : Array.range (ci.toNat * s) = #[] := by rw [h0]; rfl
            have e1 : ((List.replicate ci.toNat z.cells.toList).flatten).toArray = #[] := by rw [hc0]; rfl
            simp only [if_pos h0, Sem.run_pure, Result.andThen_ok, e0, e1, Array.map_empty, newRow, Sem.run_bind, run_newObj]
          · simp only [if_neg h0, Sem.run_bind, run_zero hz, Result.andThen_ok, Sem.run_pure, hrow0, newRow, run_newObj]
        split at h
        · rename_i hc0
          obtain rfl := ret_val h
          intro hN
          obtain ⟨h3, h4⟩ := hi.push (ro := ro) (w' := { w with heap := w.heap.push (.cells ((List.replicate ci.toNat z.cells.toList).flatten).toArray elem) }) (o := .cells ((List.replicate ci.toNat z.cells.toList).flatten).toArray elem) rfl rfl rfl rfl
          have hl0 : li = 0 := by omega
          subst hc0 hl0
          exact ⟨_, _, ι, .inl hrun, .emp _, h3, h4⟩
        · obtain rfl := ret_val h
          intro hN
          have h2 := rvl_cycle (ι := ι) z s ci.toNat hzs hs0
          have hlen := len_cycle z s ci.toNat hzs
          obtain ⟨h3, h4⟩ := hi.newRow (ro := ro) (by simp at hN; omega) h2 elem
          refine ⟨_, _, _, .inl hrun, ?_, h3, h4⟩
          have hle : li.toNat * s ≤ ci.toNat * s := Nat.mul_le_mul_right s (by omega)
          exact .sl _ _ _ _ _ _ _ _ _ (updI_self _ _ _ _) (by simp only [Nat.zero_add]; rw [h2.1, hlen]; exact hle) (by simp only [Nat.zero_add]; rw [hlen]; exact Nat.le_refl _) (by omega) (by omega) (fun k hk => by cases hk; exact ⟨rfl, by simp only [Nat.zero_add]; rw [h2.1, hlen]; exact Nat.le_refl _⟩) (fun _ => rfl)
    · cases h
  · cases h
end Go.Ev
