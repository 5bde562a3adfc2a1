/- Lemmas and definitions over the model, without conditions of their own: operations of the ideal machine are sound (2). -/
import Derived.Test.YtggffkaadeagbaaGreatEvB
set_option linter.all false
namespace Go.Ev
variable {P : Program} {N ro : Nat} {ι : Io} {w : World} {σ : St} {ρ : Operand → IV} {r : Operand → Value} {o : Oper} {out : OpOut}

theorem lenI_ok {x : IV} {v : Value} {n : Nat} (h : lenI x = some n) (hr : Rv ι x v) (w : World) : (Builtin.lenOf v).run P w = .ok n w := by
  unfold lenI at h
  split at h
  · rename_i l c
    split at h
    · rename_i h0
      cases h; cases hr; simp [Builtin.lenOf, h0]
    · cases h
  · cases h; cases hr; rfl
  · cases h; cases hr; rfl
  · cases h; cases hr; rfl
  · cases h
    cases hr with
    | tree => rfl
    | treeE _ a => cases a <;> rfl
  · cases h

theorem extract_bytes (s : ByteArray) (n : Nat) : (s.extract 0 n).data.toList = s.data.toList.take n := by
  simp [ByteArray.data_extract, List.extract_eq_take_drop]

theorem flatMap_get {es : List IV} {s i j : Nat} (hcs : ∀ e ∈ es, (cellsOf e).length = s) (hj : j < s) : (es.flatMap cellsOf)[i * s + j]? = (es[i]?).bind fun e => (cellsOf e)[j]? := by
  induction es generalizing i with
  | nil => simp
  | cons e es ih =>
    have he := hcs e (by simp)
    rw [List.flatMap_cons]
    cases i with
    | zero => simp only [Nat.zero_mul, Nat.zero_add]; rw [List.getElem?_append_left (by omega)]; rfl
    | succ i =>
      rw [List.getElem?_append_right (by rw [Nat.add_mul]; omega), List.getElem?_cons_succ, ← ih (fun e he => hcs e (by simp [he]))]
      congr 1
      rw [he, Nat.add_mul]; omega

theorem flatMap_len {es : List IV} {s : Nat} (hcs : ∀ e ∈ es, (cellsOf e).length = s) : (es.flatMap cellsOf).length = es.length * s := by
  induction es with
  | nil => simp
  | cons e es ih => rw [List.flatMap_cons, List.length_append, hcs e (by simp), ih (fun e he => hcs e (by simp [he])), List.length_cons, Nat.add_mul]; omega

theorem firstC_ok {size n : Nat} {x : IV} {v : Value} {cs : List IV} (hi : Inv N ι σ w) (h : firstC size n σ x = some cs) (hr : Rv ι x v) :
    ∃ vs : List Value, (∀ w' : World, w'.heap = w.heap → (Builtin.firstCells size n v).run P w' = .ok vs.toArray w') ∧ RvL ι cs vs := by
  have hcell : ∀ w' : World, w'.heap = w.heap → ∀ a : Addr, w'.cell? a = w.cell? a := fun w' hw' a => by simp only [World.cell?, hw']
  unfold firstC at h
  split at h
  · split at h
    · cases h; cases hr; exact ⟨[], fun w' _ => by simp [Builtin.firstCells], RvL.nil⟩
    · cases h
  · split at h
    · rename_i h0
      cases h; cases hr; subst h0; exact ⟨[], fun w' _ => by simp [Builtin.firstCells, loadCells, loadCellsFrom], RvL.nil⟩
    · cases h
  · rename_i s
    split at h
    · rename_i h0
      cases h; cases hr
      refine ⟨(s.data.toList.take n).map fun b => .int .u8 b.toNat, fun w' _ => ?_, RvL.of_map fun a _ => .raw _⟩
      simp only [Builtin.firstCells, Sem.run_pure]
      congr 1
      apply Array.ext'
      simp
    · cases h
  · rename_i id off len cap ep s
    split at h
    · rename_i hc
      obtain ⟨rfl, hn⟩ := hc
      split at h
      · rename_i cs0 cep mn hat
        split at h
        · rename_i hc
          cases h
          obtain ⟨l, c, el, hl, hln, hsz, hcb, hlim, hrow⟩ := obj_row (hi.obj id _ hat) hc.1 hc.2.1
          cases hr with
          | sl _ _ _ _ _ _ l' k a hl' hle hlk hs hlc hcap ha =>
            rw [hl] at hl'; cases hl'
            have hmul : n * s ≤ len * s := Nat.mul_le_mul_right s hn
            have hvl : (((c.toList.take l.n).drop off).take (n * s)).length = n * s := by simp; omega
            have e1 : (cs0.drop off).take (n * s) = ((cs0.take l.n).drop off).take (n * s) := by
              rw [List.drop_take, List.take_take]; congr 1; omega
            refine ⟨((c.toList.take l.n).drop off).take (n * s), fun w' hw' => ?_, ?_⟩
            · simp only [Builtin.firstCells]
              rcases Nat.eq_zero_or_pos n with h0 | h0
              · subst h0; simp [loadCells, loadCellsFrom]
              · have ea := ha (by omega)
                subst ea
                have hrow' : RowAt w l.b off (((c.toList.take l.n).drop off).take (n * s)) := by
                  have := rowAt_take' (rowAt_drop (rowAt_take hcb l.n) off) (n * s)
                  simpa using this
                have := run_loadCells_list (P := P) w' ⟨l.b, off, none⟩ _ (fun j v hj => by rw [add_none, hcell w' hw']; exact hrow' j v hj)
                rwa [hvl] at this
            · rw [e1]; exact (hrow.drop off).take _
        · cases h
      · cases h
    · cases h
  · rename_i s es
    split at h
    · rename_i hc
      obtain ⟨rfl, hn⟩ := hc
      cases h
      cases hr with
      | tree _ _ b off c us hs hc hcs hu hh =>
        have hmul : n * s ≤ es.length * s := Nat.mul_le_mul_right s hn
        have hcs' : ∀ e ∈ es.take n, (cellsOf e).length = s := fun e he => hcs e (List.mem_of_mem_take he)
        have hlen : ((es.take n).flatMap cellsOf).length = n * s := by rw [flatMap_len hcs', List.length_take, Nat.min_eq_left hn]
        refine ⟨(List.range (n * s)).map us, fun w' hw' => ?_, by simp [hlen], fun i x v hx hv => ?_⟩
        · simp only [Builtin.firstCells]
          rw [run_loadCells (P := P) w' ⟨b, off, none⟩ (n * s) us]
          intro j hj
          rw [add_none, hcell w' hw']
          have hm := hu j (by omega)
          unfold cellM at hm
          cases hb : ι.m b with
          | none => simp [hb] at hm
          | some c =>
            obtain ⟨el, f, hh'⟩ := hi.mem b c hb
            rw [cell_of hh']
            simpa [hb] using hm
        · have hilt : i < n * s := by have := (List.getElem?_eq_some_iff.1 hx).1; omega
          have hv' : v = us i := by
            simp [hilt] at hv; exact hv.symm
          subst hv'
          have hq : i / s * s + i % s = i := Nat.div_add_mod' i s
          have hj : i % s < s := Nat.mod_lt _ hs
          rw [← hq, flatMap_get hcs' hj] at hx
          rw [Option.bind_eq_some_iff] at hx
          obtain ⟨e, he, hce⟩ := hx
          rw [List.getElem?_take] at he
          split at he
          · have := hh _ _ _ _ he hce
            rwa [hq] at this
          · cases he
      | treeE _ a c hs hz =>
        obtain rfl : n = 0 := by simpa using hn
        refine ⟨[], fun w' hw' => ?_, by simp, fun i x v hx hv => by simp at hx⟩
        cases a <;> simp [Builtin.firstCells, loadCells, loadCellsFrom]
    · cases h
  · cases h

theorem growBy_le (need : Nat) : ∀ (k c : Nat), c ≤ need + (need + 768) / 4 → Builtin.growBy need k c ≤ need + (need + 768) / 4
  | 0, c, h => h
  | k + 1, c, h => by
    unfold Builtin.growBy
    split
    · exact h
    · exact growBy_le need k _ (by omega)
theorem nextcap_le {need old : Nat} (h : old < need) : Builtin.nextslicecap need old ≤ 4 * need + 4096 := by
  unfold Builtin.nextslicecap
  split
  · omega
  · split
    · omega
    · have := growBy_le need 4 old (by omega)
      omega

/-- append that grows into a row of its own. -/
theorem Inv.grown (hi : Inv N ι σ w) (hN : σ.n < N) {cs : List IV} {vs : List Value} (hr : RvL ι cs vs) (rest : List Value) (el : TypeId) {size m c : Nat} (hs : 0 < size) (hm : cs.length = m * size)
    (hc : (vs ++ rest).length = c * size) (hmc : m ≤ c) :
    let w' : World := { w with heap := w.heap.push (.cells (vs ++ rest).toArray el), drawn := w.drawn + 1 }
    ∃ ι', Rv ι' (.sl σ.n 0 m none 0 size) (.slice (some ⟨w.heap.size, 0, none⟩) m c) ∧ Inv N ι' (σ.add (.cells cs 0 0)) w' ∧ Le ro ι w σ ι' w' (σ.add (.cells cs 0 0)) := by
  intro w'
  obtain ⟨h1, h2⟩ := hi.newRowR (ro := ro) hN hr rest el (w' := w') rfl rfl rfl rfl
  exact ⟨_, .sl _ _ _ _ _ _ _ _ _ (updI_self _ _ _ _) (by simp [hm]) (by simp only [Nat.zero_add]; rw [hc]; exact Nat.le_refl _) hs hmc (fun k hk => by cases hk) (fun _ => rfl), h1, h2⟩

/-- The object of a grown slice gets more cells, in place or in a row of its own. -/
theorem Inv.growIn (hi : Inv N ι σ w) {id cep mn : Nat} {cs new : List IV} {vals : List Value} (hat : σ.at id = some (.cells cs cep mn)) (hro : ro ≤ id) (hr : RvL ι new vals)
    {l : Loc} {c : Array Value} {el : TypeId} (hl : ι id cep = some l) (hcb : w.heap[l.b]? = some (.cells c el (0, 0))) (hlt : cs.length + vals.length ≤ c.size) :
    let w' := w.setRow l.b (c.toList.take cs.length ++ vals ++ c.toList.drop (cs.length + vals.length)).toArray
    let ι' := updI ι id (cep + 1) ⟨l.b, cs.length + new.length, l.lim⟩
    Inv N ι' (σ.put id (.cells (cs ++ new) (cep + 1) mn)) w' ∧ Le ro ι w σ ι' w' (σ.put id (.cells (cs ++ new) (cep + 1) mn)) := by
  intro w' ι'
  have hob := hi.obj id _ hat
  obtain ⟨⟨hmn, hno⟩, ⟨l0, hl0, hn0⟩, hall⟩ := hob
  obtain rfl : l = l0 := by rw [hl] at hl0; exact Option.some.inj hl0
  have hnone : ι id (cep + 1) = none := hno _ (by omega)
  have hext := updI_ext (l := ⟨l.b, cs.length + new.length, l.lim⟩) hnone
  have hlim : l.lim = c.size := by
    obtain ⟨l2, c2, el2, h1, _, h3, h4, _⟩ := hall cep hmn (Nat.le_refl _)
    rw [hl] at h1; cases h1
    rw [hcb] at h3; cases h3
    exact h4
  have hw' : w'.heap[l.b]? = some (.cells (c.toList.take cs.length ++ vals ++ c.toList.drop (cs.length + vals.length)).toArray el (0, 0)) := setRow_heap w l.b c _ el _ hcb
  have hvl := hr.1
  refine hi.put hat hro ⟨_, _, hl⟩ hext (fun i hne e => by simp [ι', updI, hne]) ?_ (by simp only [w']; rw [setRow_size]; exact Nat.le_refl _) (fun b _ hno => setRow_heap_ne _ _ _ _ ?_) rfl rfl rfl ?_
  · intro b hb
    rcases updI_own hb with hb | ⟨_, hb⟩
    · exact .inl hb
    · subst hb; exact .inl ⟨_, _, hl, rfl⟩
  · intro e; subst e; exact hno ⟨_, _, hl, rfl⟩
  · refine ⟨⟨by omega, fun e he => ?_⟩, ⟨_, updI_self _ _ _ _, by simp⟩, fun e he he' => ?_⟩
    · have : e ≠ cep + 1 := by omega
      simp [ι', updI, this, hno e (by omega)]
    · by_cases hee : e = cep + 1
      · subst hee
        refine ⟨_, _, el, updI_self _ _ _ _, by simp, hw', by simp; omega, fun k x hk hx => ?_⟩
        obtain ⟨l2, c2, el2, h1, _, h3, _, h5⟩ := hall cep hmn (Nat.le_refl _)
        rw [hl] at h1; cases h1
        rw [hcb] at h3; cases h3
        by_cases hkk : k < cs.length
        · rw [List.getElem?_append_left hkk] at hx
          obtain ⟨u, hu, hru⟩ := h5 k x (by omega) hx
          refine ⟨u, ?_, hru.mono hext⟩
          rw [List.getElem?_toArray, List.append_assoc, List.getElem?_append_left (by simp; omega), List.getElem?_take, if_pos hkk]
          simpa using hu
        · rw [List.getElem?_append_right (by omega)] at hx
          obtain ⟨u, hu, hru⟩ := hr.get hx
          have hul := (List.getElem?_eq_some_iff.1 hu).1
          refine ⟨u, ?_, hru.mono hext⟩
          rw [List.getElem?_toArray, List.getElem?_append_left (by simp; omega), List.getElem?_append_right (by simp; omega)]
          simp only [List.length_take, Array.length_toList, Nat.min_eq_left (show cs.length ≤ c.size by omega)]
          exact hu
      · obtain ⟨l2, c2, el2, h1, h2, h3, h4, h5⟩ := hall e he (by omega)
        by_cases hbb : l2.b = l.b
        · rw [hbb, hcb] at h3; cases h3
          refine ⟨l2, _, el, hext _ _ _ h1, by simp; omega, by rw [hbb]; exact hw', by simp; omega, fun k x hk hx => ?_⟩
          rw [List.getElem?_append_left (by omega)] at hx
          obtain ⟨u, hu, hru⟩ := h5 k x hk hx
          refine ⟨u, ?_, hru.mono hext⟩
          rw [List.getElem?_toArray, List.append_assoc, List.getElem?_append_left (by simp; omega), List.getElem?_take, if_pos (by omega)]
          simpa using hu
        · refine ⟨l2, c2, el2, hext _ _ _ h1, by simp; omega, by simp only [w']; rw [setRow_heap_ne _ _ _ _ hbb]; exact h3, h4, fun k x hk hx => ?_⟩
          rw [List.getElem?_append_left (by omega)] at hx
          obtain ⟨u, hu, hru⟩ := h5 k x hk hx
          exact ⟨u, hu, hru.mono hext⟩

theorem Inv.growNew (hi : Inv N ι σ w) {id cep mn : Nat} {cs new : List IV} {olds vals : List Value} (hat : σ.at id = some (.cells cs cep mn)) (hro : ro ≤ id) (hro' : RvL ι cs olds) (hr : RvL ι new vals)
    (rest : List Value) (el : TypeId) :
    let w' : World := { w with heap := w.heap.push (.cells (olds ++ vals ++ rest).toArray el), drawn := w.drawn + 1 }
    let ι' := updI ι id (cep + 1) ⟨w.heap.size, cs.length + new.length, (olds ++ vals ++ rest).length⟩
    Inv N ι' (σ.put id (.cells (cs ++ new) (cep + 1) mn)) w' ∧ Le ro ι w σ ι' w' (σ.put id (.cells (cs ++ new) (cep + 1) mn)) := by
  intro w' ι'
  have hob := hi.obj id _ hat
  obtain ⟨⟨hmn, hno⟩, ⟨l0, hl0, hn0⟩, hall⟩ := hob
  have hnone : ι id (cep + 1) = none := hno _ (by omega)
  have hext := updI_ext (l := ⟨w.heap.size, cs.length + new.length, (olds ++ vals ++ rest).length⟩) hnone
  have hold : ∀ b, b < w.heap.size → w'.heap[b]? = w.heap[b]? := fun b hb => by simp only [w']; rw [Array.getElem?_push, if_neg (by omega)]
  have hw' : w'.heap[w.heap.size]? = some (.cells (olds ++ vals ++ rest).toArray el (0, 0)) := by simp [w']
  refine hi.put hat hro ⟨_, _, hl0⟩ hext (fun i hne e => by simp [ι', updI, hne]) ?_ (by simp [w']) (fun b hb _ => hold b hb) rfl rfl rfl ?_
  · intro b hb
    rcases updI_own hb with hb | ⟨_, hb⟩
    · exact .inl hb
    · subst hb; exact .inr ⟨Nat.le_refl _, by simp [w']⟩
  · refine ⟨⟨by omega, fun e he => ?_⟩, ⟨_, updI_self _ _ _ _, by simp⟩, fun e he he' => ?_⟩
    · have : e ≠ cep + 1 := by omega
      simp [ι', updI, this, hno e (by omega)]
    · by_cases hee : e = cep + 1
      · subst hee
        refine ⟨_, _, el, updI_self _ _ _ _, by simp, hw', by simp, fun k x hk hx => ?_⟩
        obtain ⟨u, hu, hru⟩ := (hro'.append hr).get hx
        have hul := (List.getElem?_eq_some_iff.1 hu).1
        refine ⟨u, ?_, hru.mono hext⟩
        rw [List.getElem?_toArray, List.getElem?_append_left hul]
        exact hu
      · obtain ⟨l2, c2, el2, h1, h2, h3, h4, h5⟩ := hall e he (by omega)
        have hlt : l2.b < w.heap.size := hi.bnd id _ ⟨_, _, h1, rfl⟩
        refine ⟨l2, c2, el2, hext _ _ _ h1, by simp; omega, by rw [hold _ hlt]; exact h3, h4, fun k x hk hx => ?_⟩
        rw [List.getElem?_append_left (by omega)] at hx
        obtain ⟨u, hu, hru⟩ := h5 k x hk hx
        exact ⟨u, hu, hru.mono hext⟩
end Go.Ev
namespace Go.Ev
variable {P : Program} {N ro : Nat} {ι : Io} {w : World} {σ : St} {ρ : Operand → IV} {r : Operand → Value} {o : Oper} {out : OpOut}

/-- A value-giving computation of the model against the ideal one. -/
def GivesV (P : Program) (ro : Nat) (N : Nat) (ι : Io) (w : World) (σ : St) (s : Sem Value) (v : IV) (σ' : St) : Prop :=
  ∃ u w' ι', s.run P w = .ok u w' ∧ Rv ι' v u ∧ Inv N ι' σ' w' ∧ Le ro ι w σ ι' w' σ'

theorem run_choose_cap (need old : Nat) (el : TypeId) (w : World) : ∃ c, need ≤ c ∧ (choose (.appendCap need old el)).run P w = .ok c { w with drawn := w.drawn + 1 } := by
  refine ⟨(Question.appendCap need old el).cut (w.tape w.drawn (.appendCap need old el)), ?_, ?_⟩
  · simp only [Question.cut]; omega
  · simp [choose, Sem.run, Question.forced]

/-- What is fixed in one call of append. -/
structure AppArgs (P : Program) (elem : TypeId) (size bytes sLen n : Nat) (zero : Value) : Prop where
  hsize : sizeOf? P elem = some size
  hzero : zeroOf? P elem = some zero
  hbytes : (P.info? elem).map (·.bytes) = some bytes
  hpos : size ≠ 0
  hz : zero.cells.size = size
  hbig : (4 * (sLen + n) + 4096) * bytes ≤ 2 ^ 47
  hneed : sLen + n ≤ 2 ^ 40

def isIntT : TypeDesc → Bool
  | .int _ => true
  | _ => false
theorem isIntT_false {xd : TypeDesc} (h : ∀ k, xd ≠ .int k) : isIntT xd = false := by cases xd <;> first | rfl | grind
structure AppK (elem : TypeId) (base : Option Addr) (sLen sCap size : Nat) (x : Value) where
  big : Bool → Sem Value
  rest : Bool → Nat → Sem Value
  eq : ∀ {P : Program} {w : World} {argTypes : Array TypeId} {ty sT xT : TypeId}, argTypes[0]? = some sT → argTypes[1]? = some xT → P.underlying sT = some (.slice elem) → sizeOf? P elem = some size →
    (Builtin.append_ argTypes ty #[.slice base sLen sCap, x]).run P w = (do
      let u ← underlying xT
      let zeros ← pure (isIntT u)
      if zeros then big zeros
      else do
        let n ← Builtin.lenOf x
        rest zeros n).run P w
def appK (elem : TypeId) (base : Option Addr) (sLen sCap size : Nat) (x : Value) : AppK elem base sLen sCap size x := by
  apply AppK.mk
  intro P w argTypes ty sT xT h0 h1 hu hs
  unfold Builtin.append_
  rw [h0, h1]
  show Sem.run P (do
    let __x ← underlying sT
    _) w = _
  rw [Sem.run_bind, run_und hu, Result.andThen_ok]
  show Sem.run P (do
    let size ← sizeOf elem
    _) w = _
  rw [Sem.run_bind, run_size hs, Result.andThen_ok]
  rfl
def appTail (elem : TypeId) (zeros : Bool) (base : Option Addr) (sLen sCap size n : Nat) (x : Value) : Sem Value := (appK elem base sLen sCap size x).rest zeros n
theorem zeroC {z : Value} {size n : Nat} (h : z.cells.size = size) (hs : size ≠ 0) : Builtin.zeroCells z.cells n = ((List.replicate n z.cells.toList).flatten).toArray := by
  unfold Builtin.zeroCells
  rw [h]
  have := zero_row z.cells size n h hs
  rwa [h] at this
def NewOk (P : Program) (elem : TypeId) (size n : Nat) (x : Value) (vals : List Value) (w : World) : Bool → Prop
  | false => (Builtin.firstCells size n x).run P w = .ok vals.toArray w
  | true => ∃ z, zeroOf? P elem = some z ∧ z.cells.size = size ∧ size ≠ 0 ∧ vals = (List.replicate n z.cells.toList).flatten
theorem tail_in {elem : TypeId} {zeros : Bool} {base : Option Addr} {sLen sCap size n : Nat} {x : Value} {vals : List Value} (hle : sLen + n ≤ sCap) (hnew : NewOk P elem size n x vals w zeros) :
    (appTail elem zeros base sLen sCap size n x).run P w = (match base with
      | some a => (storeCells (a.add (sLen * size)) vals).run P w
      | none => .ok () w).andThen fun _ w' => .ok (.slice base (sLen + n) sCap) w' := by
  cases zeros
  · have hn : (Builtin.firstCells size n x).run P w = _ := hnew
    simp only [appTail, appK, if_pos hle, Sem.run_bind]
    cases base <;> simp [hn]
  have ⟨z, h0, h1, h2, h3⟩ := hnew
  subst h3
  simp only [appTail, appK, if_pos hle, Sem.run_bind]
  by_cases h4 : n = 0
  · subst h4
    cases base <;> simp
  · cases base <;> simp [run_zero h0, zeroC h1 h2, h4, h2, Nat.mul_ne_zero h4 h2]
theorem tail_new {elem : TypeId} {zeros : Bool} {base : Option Addr} {sLen sCap size n bytes : Nat} {zero x : Value} {olds vals : List Value} (ha : AppArgs P elem size bytes sLen n zero) (hgt : ¬ sLen + n ≤ sCap)
    (hnew : ∀ d, NewOk P elem size n x vals { w with drawn := d } zeros) (hold : ∀ d, (Builtin.firstCells size sLen (.slice base sLen sCap)).run P { w with drawn := d } = .ok olds.toArray { w with drawn := d }) :
    ∃ c rest, sLen + n ≤ c ∧ rest.length = (c - (sLen + n)) * size ∧
      (appTail elem zeros base sLen sCap size n x).run P w = .ok (.slice (some ⟨w.heap.size, 0, none⟩) (sLen + n) c) { w with heap := w.heap.push (.cells (olds ++ vals ++ rest).toArray elem), drawn := w.drawn + 1 } := by
  have ⟨i, hi, hb, hti⟩ := run_bytes ha.hbytes w
  have hti' : ∀ w' : World, (typeInfo elem).run P w' = .ok i w' := fun w' => by simp [typeInfo, hi]
  have ⟨c, hc, hch⟩ := run_choose_cap (P := P) (sLen + n) sCap elem w
  have ho := hold (w.drawn + 1)
  have h1 : ¬ ((sLen + n : Nat) : Int) > IntKind.i64.max := by
    have : IntKind.i64.max = 9223372036854775807 := by decide
    have := ha.hneed
    omega
  have h2 : ¬ Builtin.nextslicecap (sLen + n) sCap * i.bytes > 2 ^ 48 := by
    have hcap := nextcap_le (need := sLen + n) (old := sCap) (by omega)
    have : Builtin.nextslicecap (sLen + n) sCap * i.bytes ≤ (4 * (sLen + n) + 4096) * i.bytes := Nat.mul_le_mul_right _ hcap
    have := ha.hbig
    grind
  have hz0 : (zeroValue elem).run P { w with drawn := w.drawn + 1 } = .ok zero { w with drawn := w.drawn + 1 } := run_zero ha.hzero _
  have hrest : Builtin.zeroCells zero.cells (c - (sLen + n)) = ((List.replicate (c - (sLen + n)) zero.cells.toList).flatten).toArray := by
    unfold Builtin.zeroCells
    rw [ha.hz]
    have := zero_row zero.cells size (c - (sLen + n)) ha.hz ha.hpos
    simp_all [ha.hz]
  refine ⟨c, (List.replicate (c - (sLen + n)) zero.cells.toList).flatten, hc, len_cycle zero size _ ha.hz, ?_⟩
  cases zeros
  · have hn : (Builtin.firstCells size n x).run P { w with drawn := w.drawn + 1 } = _ := hnew (w.drawn + 1)
    simp only [appTail, appK, if_neg hgt, Sem.run_bind, hti', Result.andThen_ok, h1, false_and, if_false, h2, hch, run_askRoom, Bool.not_false, if_true, Sem.run_pure, List.getElem_toArray, List.getElem_cons_zero, List.getElem_cons_succ, ho, hn, hz0, hrest, newRow, run_newObj]
    simp
  have ⟨z, k0, k1, k2, k3⟩ := hnew (w.drawn + 1)
  cases ha.hzero.symm.trans k0
  subst k3
  have hN : n ≠ 0 → n * size ≠ 0 := fun h => Nat.mul_ne_zero h k2
  have hz' := zeroC (n := n) k1 k2
  by_cases h4 : n = 0
  · subst h4
    simp only [appTail, appK, if_neg hgt, Sem.run_bind, hti', Result.andThen_ok, h1, false_and, if_false, h2, hch, run_askRoom, Bool.not_true, Bool.false_eq_true, Nat.zero_mul, if_true, Sem.run_pure, List.getElem_toArray, List.getElem_cons_zero, ho, hz0, hrest, newRow, run_newObj]
    simp
  · simp only [appTail, appK, if_neg hgt, Sem.run_bind, hti', Result.andThen_ok, h1, false_and, if_false, h2, hch, run_askRoom, Bool.not_true, Bool.false_eq_true, if_neg (hN h4), Sem.run_pure, List.getElem_toArray, List.getElem_cons_zero, ho, hz', hz0, hrest, newRow, run_newObj]
    simp
theorem append_eq_f {argTypes : Array TypeId} {ty sT xT elem : TypeId} {xd : TypeDesc} {base : Option Addr} {sLen sCap size n : Nat} {x : Value} (h0 : argTypes[0]? = some sT) (h1 : argTypes[1]? = some xT)
    (hu : P.underlying sT = some (.slice elem)) (hx : P.underlying xT = some xd) (hd : ∀ k, xd ≠ .int k) (hs : sizeOf? P elem = some size) (hn : (Builtin.lenOf x).run P w = .ok n w) :
    (Builtin.append_ argTypes ty #[.slice base sLen sCap, x]).run P w = (appTail elem false base sLen sCap size n x).run P w := by
  rw [(appK elem base sLen sCap size x).eq h0 h1 hu hs, Sem.run_bind, run_und hx, Result.andThen_ok, isIntT_false hd]
  show Sem.run P (do
    let n ← Builtin.lenOf x
    _) w = _
  rw [Sem.run_bind, hn, Result.andThen_ok]
  rfl
theorem append_eq_t {argTypes : Array TypeId} {ty sT xT elem : TypeId} {k : IntKind} {base : Option Addr} {sLen sCap size bytes : Nat} {l : Int} (h0 : argTypes[0]? = some sT) (h1 : argTypes[1]? = some xT)
    (hu : P.underlying sT = some (.slice elem)) (hx : P.underlying xT = some (.int k)) (hs : sizeOf? P elem = some size) (hb : (P.info? elem).map (·.bytes) = some bytes) (hl0 : 0 ≤ l) (hl1 : l ≤ 1000000)
    (hbig : l.toNat * bytes ≤ 2 ^ 48) :
    (Builtin.append_ argTypes ty #[.slice base sLen sCap, .int .i64 l]).run P w = (appTail elem true base sLen sCap size l.toNat (.int .i64 l)).run P w := by
  have ⟨i, hi, hbi, hti⟩ := run_bytes hb w
  have wl : IntKind.i64.wrap l = l := IntWalk.i64_in _ (by omega)
  have c1 : ¬ l < 0 := by omega
  have c2 : ¬ l * (i.bytes : Int) > 2 ^ 48 := by
    grind
  rw [(appK elem base sLen sCap size _).eq h0 h1 hu hs, Sem.run_bind, run_und hx, Result.andThen_ok]
  show Sem.run P (if IntKind.i64.wrap l < 0 then _ else (do
    let t ← typeInfo elem
    if IntKind.i64.wrap l * (t.bytes : Int) > 2 ^ 48 then _ else _)) w = _
  rw [wl, if_neg c1, Sem.run_bind, hti, Result.andThen_ok, if_neg c2]
  rfl

theorem appendArg_ok {size n : Nat} {zero : Value} {xd : TypeDesc} {x : IV} {vx : Value} {new : List IV} {elem : TypeId} (hi : Inv N ι σ w) (hs : size ≠ 0) (hz : zero.cells.size = size) (hz0 : zeroOf? P elem = some zero)
    (h : appendArg size zero xd σ x = some (n, new)) (hx : Rv ι x vx) :
    ∃ vals, RvL ι new vals ∧ (∀ d, NewOk P elem size n vx vals { w with drawn := d } (isIntT xd)) ∧
      ((∃ k, xd = .int k ∧ ∃ l, vx = .int .i64 l ∧ 0 ≤ l ∧ l ≤ 1000000 ∧ n = l.toNat) ∨ ((∀ k, xd ≠ .int k) ∧ (Builtin.lenOf vx).run P w = .ok n w)) := by
  unfold appendArg at h
  split at h
  · rename_i k
    split at h
    · rename_i l
      split at h
      · rename_i hl
        cases h; cases hx
        refine ⟨_, rvl_cycle zero size l.toNat hz hs, fun d => ?_, .inl ⟨k, rfl, l, rfl, hl.1, hl.2, rfl⟩⟩
        exact ⟨_,hz0,hz,hs,rfl⟩
      · cases h
    · cases h
  · rename_i hd
    split at h
    · rename_i n' hn
      split at h
      · rename_i cs hc
        cases h
        obtain ⟨vs, h1, h2⟩ := firstC_ok (P := P) hi hc hx
        refine ⟨vs, h2, fun d => ?_, .inr ⟨hd, lenI_ok hn hx w⟩⟩
        rw [isIntT_false hd]
        exact h1 _ rfl
      · cases h
    · cases h

/-- What the tail of append gives, when a row of its own is made. -/
theorem tailNew_ok {elem : TypeId} {zeros : Bool} {size bytes sLen n sCap : Nat} {zero vx : Value} {base : Option Addr} {s v : IV} {new : List IV} {vals : List Value} {σ' : St} (hi : Inv N ι σ w)
    (ha : AppArgs P elem size bytes sLen n zero) (hgt : ¬ sLen + n ≤ sCap) (hr : RvL ι new vals) (hlen : new.length = n * size) (hnew : ∀ d, NewOk P elem size n vx vals { w with drawn := d } zeros)
    (hs : Rv ι s (.slice base sLen sCap)) (h : appendNew size sLen n new s σ = some (.val v σ')) (hN : σ'.n ≤ N) :
    GivesV P ro N ι w σ (appTail elem zeros base sLen sCap size n vx) v σ' := by
  unfold appendNew at h
  split at h
  · rename_i old ho
    split at h
    · rename_i hol
      cases h
      obtain ⟨olds, h1, h2⟩ := firstC_ok (P := P) hi ho hs
      obtain ⟨c, rest, hc, hrl, hrun⟩ := tail_new (base := base) ha hgt hnew (fun d => h1 _ rfl)
      have hpos := ha.hpos
      obtain ⟨ι', r1, r2, r3⟩ := hi.grown (ro := ro) (by simp at hN; omega) (h2.append hr) rest elem (size := size) (m := sLen + n) (c := c) (by omega) (by simp [hol, hlen, Nat.add_mul])
        (by
          have e1 := h2.1; have e2 := hr.1
          simp only [List.length_append, hrl, ← e1, ← e2, hol, hlen]
          rw [← Nat.add_mul, ← Nat.add_mul]
          congr 1; omega) hc
      exact ⟨_, _, ι', hrun, r1, r2, r3⟩
    · cases h
  · cases h

/-- An object's cells beyond some are let go. -/
theorem Inv.shrink (hi : Inv N ι σ w) {id cep mn k : Nat} {cs : List IV} {l : Loc} (hat : σ.at id = some (.cells cs cep mn)) (hro : ro ≤ id) (hl : ι id cep = some l) (hk : k ≤ cs.length) :
    Inv N (updI ι id (cep + 1) ⟨l.b, k, l.lim⟩) (σ.put id (.cells (cs.take k) (cep + 1) (cep + 1))) w ∧ Le ro ι w σ (updI ι id (cep + 1) ⟨l.b, k, l.lim⟩) w (σ.put id (.cells (cs.take k) (cep + 1) (cep + 1))) := by
  obtain ⟨⟨hmn, hno⟩, ⟨l0, hl0, hn0⟩, hall⟩ := hi.obj id _ hat
  obtain rfl : l = l0 := by rw [hl] at hl0; exact Option.some.inj hl0
  have hnone : ι id (cep + 1) = none := hno _ (by omega)
  have hext := updI_ext (l := ⟨l.b, k, l.lim⟩) hnone
  refine hi.put hat hro ⟨_, _, hl⟩ hext (fun i hne e => by simp [updI, hne]) ?_ (Nat.le_refl _) (fun _ _ _ => rfl) rfl rfl rfl ?_
  · intro b hb
    rcases updI_own hb with hb | ⟨_, hb⟩
    · exact .inl hb
    · subst hb; exact .inl ⟨_, _, hl, rfl⟩
  · refine ⟨⟨Nat.le_refl _, fun e he => ?_⟩, ⟨_, updI_self _ _ _ _, by simp; omega⟩, fun e he he' => ?_⟩
    · have : e ≠ cep + 1 := by omega
      simp [updI, this, hno e (by omega)]
    · have hee : e = cep + 1 := by omega
      subst hee
      obtain ⟨l2, c2, el2, h1, _, h3, h4, h5⟩ := hall cep hmn (Nat.le_refl _)
      rw [hl] at h1; cases h1
      refine ⟨_, c2, el2, updI_self _ _ _ _, by simp; omega, h3, h4, fun j x hj hx => ?_⟩
      simp only at hj
      rw [List.getElem?_take, if_pos hj] at hx
      obtain ⟨u, hu, hru⟩ := h5 j x (by omega) hx
      exact ⟨u, hu, hru.mono hext⟩

/-- append at the end of all that is known of an object. -/
theorem appendOwn_ok {elem : TypeId} {zeros : Bool} {st bytes sLen n id cep mn c : Nat} {zero vx : Value} {new cs : List IV} {vals : List Value} {l : Loc} {a : Addr} (hi : Inv N ι σ w)
    (ha : AppArgs P elem st bytes sLen n zero) (hr : RvL ι new vals) (hlen : new.length = n * st) (hok : new.all cellOk = true) (hnew : ∀ d, NewOk P elem st n vx vals { w with drawn := d } zeros)
    (hat : σ.at id = some (.cells cs cep mn)) (hro : ro ≤ id) (hl : ι id cep = some l) (hn : 0 + sLen * st ≤ l.n) (hlim : 0 + c * st ≤ l.lim) (hs0 : 0 < st) (hle : sLen ≤ c) (haa : 0 < c → a = ⟨l.b, 0, none⟩)
    (hlc : sLen * st = cs.length) (h0 : ¬ n = 0) :
    GivesV P ro N ι w σ (appTail elem zeros (some a) sLen c st n vx) (.sl id 0 (sLen + n) none (cep + 1) st) (σ.put id (.cells (cs ++ new) (cep + 1) mn)) := by
  have hw : ({ w with drawn := w.drawn } : World) = w := rfl
  have hsl' : Rv ι (.sl id 0 sLen none cep st) (.slice (some a) sLen c) := .sl _ _ _ _ _ _ l c a hl hn hlim hs0 hle (fun k hk => by cases hk) haa
  obtain ⟨⟨hmn, _⟩, ⟨l3, h3, h4⟩, _⟩ := hi.obj id _ hat
  rw [hl] at h3; cases h3
  by_cases hfit : sLen + n ≤ c
  · obtain ⟨l2, cc, el, hl2, hln2, hsz2, hcb, hlim2, _⟩ := obj_row (hi.obj id _ hat) hmn (Nat.le_refl _)
    rw [hl] at hl2; cases hl2
    have hmul : (sLen + n) * st ≤ c * st := Nat.mul_le_mul_right st hfit
    have hvl := hr.1
    have hlt : cs.length + vals.length ≤ cc.size := by rw [Nat.add_mul] at hmul; omega
    obtain ⟨r1, r2⟩ := hi.growIn (ro := ro) hat hro hr hl hcb hlt
    have hea := haa (by omega)
    subst hea
    refine ⟨.slice (some ⟨l.b, 0, none⟩) (sLen + n) c, _, _, ?_, ?_, r1, r2⟩
    · rw [tail_in hfit (hnew w.drawn), hw]
      simp only [add_none, Nat.zero_add, hlc, run_store_cells (P := P) hcb hlt (oneCell_ok hr hok), Result.andThen_ok]
    · exact .sl _ _ _ _ _ _ _ c _ (updI_self _ _ _ _) (by simp only [Nat.zero_add, hlen, ← hlc, Nat.add_mul]; exact Nat.le_refl _) hlim hs0 hfit (fun k hk => by cases hk) (fun _ => rfl)
  · have hfc : firstC st sLen σ (.sl id 0 sLen none cep st) = some cs := by
      simp only [firstC, hat]
      simp [hmn, hlc]
    obtain ⟨olds, h5, h6⟩ := firstC_ok (P := P) hi hfc hsl'
    obtain ⟨c', rest, hc', hrl, hrun⟩ := tail_new (base := some a) ha hfit hnew (fun d => h5 _ rfl)
    obtain ⟨r1, r2⟩ := hi.growNew (ro := ro) hat hro h6 hr rest elem
    refine ⟨_, _, _, hrun, ?_, r1, r2⟩
    refine .sl _ _ _ _ _ _ _ c' _ (updI_self _ _ _ _) ?_ ?_ hs0 hc' (fun k hk => by cases hk) (fun _ => rfl)
    · simp only [Nat.zero_add, hlen, ← hlc, Nat.add_mul]; exact Nat.le_refl _
    · have e1 := h6.1; have e2 := hr.1
      simp only [Nat.zero_add, List.length_append, hrl, ← e1, ← e2, hlen, ← hlc]
      rw [← Nat.add_mul, ← Nat.add_mul]
      exact Nat.mul_le_mul_right _ (by omega)

theorem appendTo_ok {elem : TypeId} {zeros : Bool} {size bytes sLen n : Nat} {zero vs vx : Value} {s v : IV} {new : List IV} {vals : List Value} {σ' : St} (hi : Inv N ι σ w)
    (ha : AppArgs P elem size bytes sLen n zero) (hr : RvL ι new vals) (hlen : new.length = n * size) (hok : new.all cellOk = true) (hnew : ∀ d, NewOk P elem size n vx vals { w with drawn := d } zeros)
    (hs : Rv ι s vs) (hsl : lenI s = some sLen) (h : appendTo ro size sLen n new s σ = some (.val v σ')) (hN : σ'.n ≤ N) :
    ∃ base sCap, vs = .slice base sLen sCap ∧ GivesV P ro N ι w σ (appTail elem zeros base sLen sCap size n vx) v σ' := by
  have hw : ({ w with drawn := w.drawn } : World) = w := rfl
  have hpos := ha.hpos
  have stay : ∀ {base : Option Addr} {sCap : Nat}, n = 0 → sLen ≤ sCap → (∃ a, base = some a) ∨ base = none → ∀ {u : IV}, Rv ι u (.slice base sLen sCap) →
      GivesV P ro N ι w σ (appTail elem zeros base sLen sCap size n vx) u σ := by
    intro base sCap h0 hle hb u hu
    subst h0
    have hv : vals = [] := List.eq_nil_of_length_eq_zero (by have := hr.1; rw [Nat.zero_mul] at hlen; omega)
    subst hv
    refine ⟨_, w, ι, ?_, hu, hi, Le.refl _ _ _ _⟩
    rw [tail_in (by simpa using hle) (hnew w.drawn)]
    cases base <;> simp [storeCells]
  unfold appendTo at h
  split at h
  · rename_i l c
    split at h
    · rename_i hlc
      obtain ⟨rfl, rfl⟩ := hlc
      have e0 : sLen = 0 := by simp [lenI] at hsl; exact hsl.symm
      subst e0
      cases hs
      refine ⟨none, 0, rfl, ?_⟩
      split at h
      · rename_i h0
        cases h
        exact stay h0 (Nat.le_refl _) (.inr rfl) (.raw _)
      · rename_i h0
        exact tailNew_ok hi ha (by omega) hr hlen hnew (.raw _) h hN
    · cases h
  · have e0 : sLen = 0 := by simp [lenI] at hsl; exact hsl.symm
    subst e0
    cases hs with
    | emp a =>
      refine ⟨some a, 0, rfl, ?_⟩
      split at h
      · rename_i h0
        cases h
        exact stay h0 (Nat.le_refl _) (.inl ⟨a, rfl⟩) (.emp a)
      · rename_i h0
        exact tailNew_ok hi ha (by omega) hr hlen hnew (.emp a) h hN
  · rename_i st es
    have e0 : sLen = es.length := by simp [lenI] at hsl; exact hsl.symm
    subst e0
    split at h
    · rename_i h0
      cases h
      cases hs with
      | tree _ _ b off c us hs0 hc hcs hu hh => exact ⟨_, c, rfl, stay h0 hc (.inl ⟨_, rfl⟩) (.tree _ _ b off c us hs0 hc hcs hu hh)⟩
      | treeE _ a c hs0 hn => exact ⟨a, c, rfl, stay h0 (Nat.zero_le _) (by cases a with | none => exact .inr rfl | some a => exact .inl ⟨a, rfl⟩) (.treeE _ a c hs0 hn)⟩
    · cases h
  · rename_i id off len cap ep st
    have e0 : sLen = len := by simp [lenI] at hsl; exact hsl.symm
    subst e0
    split at h
    · cases h
    · rename_i hst
      have hst : st = size := Classical.byContradiction hst
      subst hst
      cases hs with
      | sl _ _ _ _ _ _ l c a hl hn hlim hs0 hle hcap haa =>
        refine ⟨some a, c, rfl, ?_⟩
        have hsl' : Rv ι (.sl id off sLen cap ep st) (.slice (some a) sLen c) := .sl _ _ _ _ _ _ l c a hl hn hlim hs0 hle hcap haa
        split at h
        · rename_i h0
          cases h
          exact stay h0 hle (.inl ⟨a, rfl⟩) hsl'
        · rename_i h0
          split at h
          · rename_i k
            have hck := (hcap k rfl).1
            subst hck
            split at h
            · rename_i hfit
              split at h
              · rename_i cs cep mn hat
                split at h
                · rename_i hc
                  obtain ⟨hro, rfl, hoff⟩ := hc
                  cases h
                  have hoff' : off + sLen * st + new.length ≤ cs.length := by rw [hlen]; rw [Nat.add_mul] at hoff; omega
                  obtain ⟨l2, cc, el, hl2, hcb, hlt, r1, r2⟩ := hi.write (ro := ro) hat hro hoff' hr
                  rw [hl] at hl2; cases hl2
                  have hln : l.n = cs.length := by
                    obtain ⟨_, ⟨l3, h3, h4⟩, _⟩ := hi.obj id _ hat
                    rw [hl] at h3; cases h3; exact h4
                  have hea := haa (by omega)
                  subst hea
                  refine ⟨.slice (some ⟨l.b, off, none⟩) (sLen + n) c, _, ι, ?_, ?_, r1, r2⟩
                  · rw [tail_in hfit (hnew w.drawn), hw]
                    simp only [add_none, run_store_cells (P := P) hcb hlt (oneCell_ok hr hok), Result.andThen_ok]
                  · exact .sl _ _ _ _ _ _ l c _ hl (by omega) hlim hs0 hfit hcap (fun _ => rfl)
                · cases h
              · cases h
            · rename_i hfit
              exact tailNew_ok hi ha hfit hr hlen hnew hsl' h hN
          · split at h
            · rename_i cs cep mn hat
              split at h
              · rename_i hc
                obtain ⟨hro, rfl, rfl, hlc⟩ := hc
                cases h
                exact appendOwn_ok hi ha hr hlen hok hnew hat hro hl hn hlim hs0 hle haa hlc h0
              · split at h
                · rename_i hc
                  obtain ⟨hro, rfl, rfl, hlc⟩ := hc
                  cases h
                  obtain ⟨i1, l1⟩ := hi.shrink (ro := ro) hat hro hl hlc
                  have hx := l1.ext
                  have := appendOwn_ok (ro := ro) (id := id) (cep := ep + 1) (mn := ep + 1) (cs := cs.take (sLen * st)) (l := ⟨l.b, sLen * st, l.lim⟩) (a := a) i1 ha (hr.mono hx) hlen hok hnew (by rw [St.at_put, if_pos rfl]) hro (updI_self _ _ _ _) (by simp) hlim hs0 hle haa (by rw [List.length_take]; omega) h0
                  obtain ⟨u, w', ι', k1, k2, k3, k4⟩ := this
                  exact ⟨u, w', ι', k1, k2, k3, Le.trans (fun id h1 h2 => by simp only [St.n_put] at h2; omega) l1 k4⟩
                · cases h
            · cases h
  · cases h

theorem append_ok {argTypes : Array TypeId} {ty : TypeId} {s x v : IV} {vs vx : Value} {σ' : St} (hi : Inv N ι σ w) (hs : Rv ι s vs) (hx : Rv ι x vx) (h : appendI P ro argTypes s x σ = some (.val v σ')) (hN : σ'.n ≤ N) :
    GivesV P ro N ι w σ (Builtin.append_ argTypes ty #[vs, vx]) v σ' := by
  unfold appendI at h
  split at h
  · rename_i sT xT h0 h1
    split at h
    · rename_i elem xd hu hxd
      split at h
      · rename_i size zero bytes hsz hz hb
        split at h
        · cases h
        · rename_i hc
          have hs0 : size ≠ 0 := fun e => hc (.inl e)
          have hzs : zero.cells.size = size := Classical.byContradiction fun e => hc (.inr e)
          split at h
          · rename_i n new sLen hna hls
            split at h
            · rename_i hcond
              obtain ⟨hlen, hok, hbig, hneed⟩ := hcond
              obtain ⟨vals, hr, hnew, hcase⟩ := appendArg_ok hi hs0 hzs hz hna hx
              have ha : AppArgs P elem size bytes sLen n zero := ⟨hsz, hz, hb, hs0, hzs, hbig, hneed⟩
              obtain ⟨base, sCap, rfl, u, w', ι', hrun, g⟩ := appendTo_ok hi ha hr hlen hok hnew hs hls h hN
              refine ⟨u, w', ι', ?_, g⟩
              rcases hcase with ⟨k, rfl, l, rfl, hl0, hl1, rfl⟩ | ⟨hd, hn⟩
              · have hbb : l.toNat * bytes ≤ 2 ^ 48 := by
                  have : l.toNat * bytes ≤ (4 * (sLen + l.toNat) + 4096) * bytes := Nat.mul_le_mul_right _ (by omega)
                  omega
                rw [append_eq_t h0 h1 hu hxd hsz hb hl0 hl1 hbb]
                exact hrun
              · rw [append_eq_f h0 h1 hu hxd hd hsz hn]
                rw [isIntT_false hd] at hrun
                exact hrun
            · cases h
          · cases h
      · cases h
    · cases h
  · cases h
end Go.Ev
namespace Go.Ev
variable {P : Program} {N ro : Nat} {ι : Io} {w : World} {σ : St} {ρ : Operand → IV} {r : Operand → Value} {o : Oper} {out : OpOut}

/-- A bound as the model has it. -/
def Bd : Option Nat → Option Value → Prop
  | none, v => v = none
  | some n, v => ∃ k i, v = some (.int k i) ∧ 0 ≤ i ∧ i.toNat = n

theorem numI_ok {x : Option Operand} {q : Option Nat} (h : numI (x.map ρ) = some q) (hr : ∀ y, x = some y → Rv ι (ρ y) (r y)) : Bd q (x.map r) := by
  cases x with
  | none => simp [numI] at h; subst h; rfl
  | some y =>
    have hy := hr y rfl
    simp only [Option.map_some, numI] at h
    split at h
    · rename_i he; cases he
    · rename_i k i he
      simp only [Option.some.injEq] at he
      split at h
      · rename_i h0
        cases h
        exact ⟨k, i, by simp [rv_raw he hy], h0, rfl⟩
      · cases h
    · cases h

theorem run_bound {v : Value} {n y : Nat} {code : BoundsCode} (h : ∃ k i, v = .int k i ∧ 0 ≤ i ∧ i.toNat = n) (hle : n ≤ y) (w : World) : (Instr.sliceBound v y code).run P w = .ok n w := by
  obtain ⟨k, i, rfl, h0, h1⟩ := h
  have : i ≤ (y : Int) := by omega
  simp [Instr.sliceBound, asIntOf, h0, this, h1]

theorem run_bounds {isSlice : Bool} {len cap : Nat} {lo hi mx : Option Value} {ql qh qm : Option Nat} (hl : Bd ql lo) (hh : Bd qh hi) (hm : Bd qm mx) (hmh : ¬ (qm.isSome = true ∧ qh.isSome = false))
    (h1 : qm.getD cap ≤ cap) (h2 : ∀ h, qh = some h → h ≤ qm.getD cap) (h3 : ql.getD 0 ≤ qh.getD len) (w : World) :
    (Instr.sliceBounds isSlice len cap lo hi mx).run P w = .ok (ql.getD 0, qh.getD len, qm.getD cap) w := by
  have fin : ∀ (h m : Nat) (code : BoundsCode), ql.getD 0 ≤ h → Sem.run P (match lo with
      | some v => do
        let l ← Instr.sliceBound v h code
        pure (l, h, m)
      | none => do
        let l ← pure 0
        pure (l, h, m)) w = .ok (ql.getD 0, h, m) w := by
    intro h m code hle
    cases ql with
    | none => cases hl; rfl
    | some l =>
      obtain ⟨k, i, rfl, h0, h1⟩ := hl
      simp only [Sem.run_bind, run_bound (P := P) (v := .int k i) (n := l) (y := h) (code := code) ⟨k, i, rfl, h0, h1⟩ hle w, Result.andThen_ok, Sem.run_pure, Option.getD_some]
  unfold Instr.sliceBounds
  cases qm with
  | none =>
    cases hm
    cases qh with
    | none =>
      cases hh
      simp only [Sem.run_bind, Sem.run_pure, Result.andThen_ok, Option.getD_none]
      exact fin len cap _ h3
    | some h =>
      obtain ⟨k, i, rfl, h0, h4⟩ := hh
      have hb := run_bound (P := P) (v := .int k i) (n := h) (y := cap) (code := if isSlice then .sliceAcap else .sliceAlen) ⟨k, i, rfl, h0, h4⟩ (h2 h rfl) w
      simp only [Sem.run_bind, Sem.run_pure, Result.andThen_ok, hb, Option.getD_none, Option.getD_some]
      exact fin h cap _ h3
  | some m =>
    obtain ⟨km, im, rfl, hm0, hm1⟩ := hm
    have hbm := run_bound (P := P) (v := .int km im) (n := m) (y := cap) (code := if isSlice then .slice3Acap else .slice3Alen) ⟨km, im, rfl, hm0, hm1⟩ h1 w
    cases qh with
    | none => exact absurd ⟨rfl, rfl⟩ hmh
    | some h =>
      obtain ⟨k, i, rfl, h0, h4⟩ := hh
      have hb := run_bound (P := P) (v := .int k i) (n := h) (y := m) (code := .slice3B) ⟨k, i, rfl, h0, h4⟩ (h2 h rfl) w
      simp only [Sem.run_bind, Result.andThen_ok, hbm, hb, Option.getD_some]
      exact fin h m _ h3

theorem run_slice {t elem : TypeId} {sz len cap : Nat} {a : Option Addr} {lo hi mx : Option Value} {ql qh qm : Option Nat} (hu : P.underlying t = some (.slice elem)) (hs : sizeOf? P elem = some sz)
    (hl : Bd ql lo) (hh : Bd qh hi) (hm : Bd qm mx) (hmh : ¬ (qm.isSome = true ∧ qh.isSome = false)) (h1 : qm.getD cap ≤ cap) (h2 : ∀ h, qh = some h → h ≤ qm.getD cap) (h3 : ql.getD 0 ≤ qh.getD len) (w : World) :
    (Instr.sliceAt t (.slice a len cap) lo hi mx).run P w =
      .ok (.slice (if qm.getD cap = ql.getD 0 then a else a.map (·.add (ql.getD 0 * sz))) (qh.getD len - ql.getD 0) (qm.getD cap - ql.getD 0)) w := by
  have hb := run_bounds (P := P) (isSlice := true) hl hh hm hmh h1 h2 h3 w
  simp only [Instr.sliceAt, Sem.run_bind, run_und hu, Result.andThen_ok, Instr.slice, hb, run_size hs, Sem.run_pure]

theorem extract_eq (s : ByteArray) (l h : Nat) : (⟨((s.data.toList.drop l).take (h - l)).toArray⟩ : ByteArray) = s.extract l h := by
  apply ByteArray.ext
  apply Array.ext'
  simp [ByteArray.data_extract, List.extract_eq_take_drop]

theorem op_slice {t : TypeId} {x : Operand} {lo hi mx : Option Operand} (hi' : Inv N ι σ w) (hr : Rv ι (ρ x) (r x)) (hlo : ∀ y, lo = some y → Rv ι (ρ y) (r y)) (hhi : ∀ y, hi = some y → Rv ι (ρ y) (r y))
    (hmx : ∀ y, mx = some y → Rv ι (ρ y) (r y)) (ho : o.op = .slice t x lo hi mx) (h : evOp P ro ρ o σ = some out) : OutOk P ro N ι w σ r o out := by
  unfold evOp at h; rw [ho] at h; simp only at h
  split at h
  · rename_i v hv
    obtain rfl := ret_val h
    suffices hs : ∃ u, (Instr.sliceAt t (r x) (lo.map r) (hi.map r) (mx.map r)).run P w = .ok u w ∧ Rv ι v u by
      obtain ⟨u, h1, h2⟩ := hs
      exact OutOk.same hi' (u := u) (by simp [execOp, ho, h1]) h2
    generalize hq : r x = q at hr
    generalize hiq : ρ x = iq at hr hv
    unfold sliceI at hv
    split at hv
    · rename_i _ _ _ ql qh qm e1 e2 e3
      have bl := numI_ok e1 hlo
      have bh := numI_ok e2 hhi
      have bm := numI_ok e3 hmx
      clear e1 e2 e3
      split at hv
      · cases hv
      · rename_i hmh
        split at hv
        · rename_i hu
          split at hv
          · rename_i s
            split at hv
            · rename_i hc
              obtain ⟨rfl, h1, h2⟩ := hc
              cases hv; cases hr
              refine ⟨.string (s.extract (ql.getD 0) (qh.getD s.size)), ?_, by rw [extract_eq]; exact .raw _⟩
              have hb := run_bounds (P := P) (isSlice := false) (len := s.size) (cap := s.size) (mx := none) bl bh (qm := none) rfl (by simp) (Nat.le_refl _) (fun h hh => by subst hh; simpa using h2) h1 w
              have hmn : mx.map r = none := bm
              simp only [Instr.sliceAt, Sem.run_bind, run_und hu, Result.andThen_ok, Instr.slice, hmn, Option.isSome_none, Bool.false_eq_true, if_false, Sem.run_pure, hb]
            · cases hv
          · cases hv
        · rename_i elem hu
          split at hv
          · cases hv
          · rename_i sz hsz
            split at hv
            · split at hv
              · rename_i hc
                obtain ⟨h1, h2, h3⟩ := hc
                cases hv; cases hr
                have hb := run_slice (P := P) (a := none) (len := 0) (cap := 0) hu hsz bl bh bm hmh (by omega) (fun h hh => by subst hh; simp at h2; omega) (by omega) w
                rw [h1, h2, h3] at hb
                exact ⟨_, by simpa using hb, .raw _⟩
              · cases hv
            · split at hv
              · rename_i hc
                obtain ⟨h1, h2, h3⟩ := hc
                cases hv
                cases hr with
                | emp a =>
                  have hb := run_slice (P := P) (a := some a) (len := 0) (cap := 0) hu hsz bl bh bm hmh (by omega) (fun h hh => by subst hh; simp at h2; omega) (by omega) w
                  rw [h1, h2, h3] at hb
                  exact ⟨_, by simpa using hb, .emp a⟩
              · cases hv
            · rename_i id off len cap ep s
              split at hv
              · cases hv
              · rename_i hss
                have hss : sz = s := Classical.byContradiction hss
                subst hss
                cases hr with
                | sl _ _ _ _ _ _ l c a hl hn hlim hs0 hle hcap ha =>
                  have known : ∀ m : Nat, qm.getD c = m → m ≤ c → (off + m * sz ≤ l.n) → ql.getD 0 ≤ qh.getD len → qh.getD len ≤ m →
                      some v = some (if m = ql.getD 0 then .emp else .sl id (off + ql.getD 0 * sz) (qh.getD len - ql.getD 0) (some (m - ql.getD 0)) ep sz) →
                      ∃ u, (Instr.sliceAt t (.slice (some a) len c) (lo.map r) (hi.map r) (mx.map r)).run P w = .ok u w ∧ Rv ι v u := by
                    intro m e1 e2 e3 e4 e5 e6
                    have hb := run_slice (P := P) (a := some a) (len := len) (cap := c) hu hsz bl bh bm hmh (by omega) (fun h hh => by subst hh; simp only [Option.getD_some] at e5; omega) e4 w
                    rw [e1] at hb
                    refine ⟨_, hb, ?_⟩
                    by_cases hml : m = ql.getD 0
                    · rw [if_pos hml] at e6
                      cases e6
                      rw [if_pos hml, show qh.getD len - ql.getD 0 = 0 by omega, show m - ql.getD 0 = 0 by omega]
                      exact .emp a
                    · rw [if_neg hml] at e6
                      cases e6
                      rw [if_neg hml]
                      have hea := ha (by omega)
                      subst hea
                      simp only [Option.map_some, add_none]
                      have hm1 : ql.getD 0 * sz + (m - ql.getD 0) * sz = m * sz := by rw [← Nat.add_mul]; congr 1; omega
                      have hm2 : ql.getD 0 * sz + (qh.getD len - ql.getD 0) * sz = qh.getD len * sz := by rw [← Nat.add_mul]; congr 1; omega
                      have hm3 : qh.getD len * sz ≤ m * sz := Nat.mul_le_mul_right sz e5
                      have hm4 : m * sz ≤ c * sz := Nat.mul_le_mul_right sz e2
                      exact .sl _ _ _ _ _ _ l _ _ hl (by omega) (by omega) hs0 (by omega) (fun k hk => by cases hk; exact ⟨rfl, by omega⟩) (fun _ => rfl)
                  split at hv
                  · rename_i _ m
                    split at hv
                    · rename_i hc
                      obtain ⟨h1, h2, h3⟩ := hc
                      have hmn : m ≤ c ∧ off + m * sz ≤ l.n := by
                        cases cap with
                        | none =>
                          simp only [Option.getD_none] at h3
                          have : m * sz ≤ len * sz := Nat.mul_le_mul_right sz h3
                          exact ⟨by omega, by omega⟩
                        | some k =>
                          simp only [Option.getD_some] at h3
                          obtain ⟨hk, hk2⟩ := hcap k rfl
                          subst hk
                          have : m * sz ≤ c * sz := Nat.mul_le_mul_right sz h3
                          exact ⟨h3, by omega⟩
                      refine known m rfl hmn.1 hmn.2 h1 h2 ?_
                      rw [← hv]; split <;> rfl
                    · cases hv
                  · rename_i m
                    split at hv
                    · rename_i hc
                      obtain ⟨h1, h2⟩ := hc
                      obtain ⟨hk, hk2⟩ := hcap m rfl
                      subst hk
                      refine known c rfl (Nat.le_refl _) hk2 h1 h2 ?_
                      rw [← hv]; split <;> rfl
                    · cases hv
                  · split at hv
                    · rename_i hc
                      obtain ⟨h1, h2⟩ := hc
                      cases hv
                      have hb := run_slice (P := P) (a := some a) (len := len) (cap := c) hu hsz bl bh bm hmh (Nat.le_refl _) (fun h hh => by subst hh; simp only [Option.getD_some, Option.getD_none] at h2 ⊢; omega) h1 w
                      simp only [Option.getD_none] at hb
                      have hm1 : ql.getD 0 * sz + (c - ql.getD 0) * sz = c * sz := by rw [← Nat.add_mul]; congr 1; omega
                      have hm2 : ql.getD 0 * sz + (qh.getD len - ql.getD 0) * sz = qh.getD len * sz := by rw [← Nat.add_mul]; congr 1; omega
                      have hm3 : qh.getD len * sz ≤ len * sz := Nat.mul_le_mul_right sz h2
                      by_cases hcl : c = ql.getD 0
                      · rw [if_pos hcl] at hb
                        exact ⟨_, hb, .sl _ _ _ _ _ _ l _ _ hl (by omega) (by omega) hs0 (by omega) (fun k hk => by cases hk) (fun h0 => by omega)⟩
                      · rw [if_neg hcl] at hb
                        have hea := ha (by omega)
                        subst hea
                        simp only [Option.map_some, add_none] at hb
                        exact ⟨_, hb, .sl _ _ _ _ _ _ l _ _ hl (by omega) (by omega) hs0 (by omega) (fun k hk => by cases hk) (fun _ => rfl)⟩
                    · cases hv
            · rename_i s es
              split at hv
              · cases hv
              · rename_i hss
                have hss : sz = s := Classical.byContradiction hss
                subst hss
                cases hr with
                | tree _ _ b off c us hs0 hce hcs hu' hh =>
                  split at hv
                  · split at hv
                    · rename_i hc
                      obtain ⟨h1, h2⟩ := hc
                      cases hv
                      have hb := run_slice (P := P) (a := some ⟨b, off, none⟩) (len := es.length) (cap := c) hu hsz bl bh bm hmh (Nat.le_refl _) (fun h hh => by subst hh; simp only [Option.getD_some, Option.getD_none] at h2 ⊢; omega) h1 w
                      simp only [Option.getD_none] at hb
                      have hlen : ((es.take (qh.getD es.length)).drop (ql.getD 0)).length = qh.getD es.length - ql.getD 0 := by simp; omega
                      have hgen : ∀ bb oo, (c ≠ ql.getD 0 → bb = b ∧ oo = off + ql.getD 0 * sz) → Rv ι (.tree sz ((es.take (qh.getD es.length)).drop (ql.getD 0))) (.slice (some ⟨bb, oo, none⟩) (qh.getD es.length - ql.getD 0) (c - ql.getD 0)) := by
                        intro bb oo hbo
                        rw [← hlen]
                        refine .tree _ _ _ _ _ (fun k => us (ql.getD 0 * sz + k)) hs0 (by omega) (fun e he => hcs e (List.mem_of_mem_take (List.mem_of_mem_drop he))) (fun k hk => ?_) (fun i e j x he hx => ?_)
                        · rw [hlen] at hk
                          have hm1 : ql.getD 0 * sz + (qh.getD es.length - ql.getD 0) * sz = qh.getD es.length * sz := by rw [← Nat.add_mul]; congr 1; omega
                          have hm2 : qh.getD es.length * sz ≤ es.length * sz := Nat.mul_le_mul_right sz h2
                          have hne : c ≠ ql.getD 0 := by
                            intro hcl
                            have : qh.getD es.length - ql.getD 0 = 0 := by omega
                            rw [this] at hk; omega
                          obtain ⟨rfl, rfl⟩ := hbo hne
                          rw [show off + ql.getD 0 * sz + k = off + (ql.getD 0 * sz + k) by omega]
                          exact hu' _ (by omega)
                        · rw [List.getElem?_drop, List.getElem?_take] at he
                          split at he
                          · have := hh _ _ _ _ he hx
                            rwa [Nat.add_mul, Nat.add_assoc] at this
                          · cases he
                      by_cases hcl : c = ql.getD 0
                      · rw [if_pos hcl] at hb
                        exact ⟨_, hb, hgen b off (fun h => absurd hcl h)⟩
                      · rw [if_neg hcl] at hb
                        simp only [Option.map_some, add_none] at hb
                        exact ⟨_, hb, hgen b _ (fun _ => ⟨rfl, rfl⟩)⟩
                    · cases hv
                  · rename_i m
                    split at hv
                    · rename_i hc
                      obtain ⟨rfl, h1, h2⟩ := hc
                      cases hv
                      have hb := run_slice (P := P) (a := some ⟨b, off, none⟩) (len := es.length) (cap := c) hu hsz bl bh bm hmh (Nat.zero_le _) (fun h hh => by subst hh; simp only [Option.getD_some] at h2 ⊢; omega) (by omega) w
                      rw [h1, h2] at hb
                      exact ⟨_, by simpa using hb, .treeE _ _ _ hs0 (by simp)⟩
                    · cases hv
                | treeE _ a c hs0 hn =>
                  split at hv
                  · split at hv
                    · rename_i hc
                      obtain ⟨h1, h2⟩ := hc
                      cases hv
                      simp only [List.length_nil] at h1 h2
                      have hl0 : ql.getD 0 = 0 := by omega
                      have hh0 : qh.getD 0 = 0 := by omega
                      have hb := run_slice (P := P) (a := a) (len := 0) (cap := c) hu hsz bl bh bm hmh (Nat.le_refl _) (fun h hh => by subst hh; simp only [Option.getD_some, Option.getD_none] at hh0 ⊢; omega) (by omega) w
                      simp only [Option.getD_none, hl0, hh0] at hb
                      refine ⟨_, hb, ?_⟩
                      simp only [List.take_nil, List.drop_nil]
                      exact .treeE _ _ _ hs0 (fun hx => by
                        cases a with
                        | none => have := hn rfl; omega
                        | some a => split at hx <;> simp at hx)
                    · cases hv
                  · rename_i m
                    split at hv
                    · rename_i hc
                      obtain ⟨rfl, h1, h2⟩ := hc
                      cases hv
                      have hb := run_slice (P := P) (a := a) (len := 0) (cap := c) hu hsz bl bh bm hmh (Nat.zero_le _) (fun h hh => by subst hh; simp only [Option.getD_some] at h2 ⊢; omega) (by omega) w
                      simp only [List.length_nil] at h2
                      rw [h1, h2] at hb
                      exact ⟨_, by simpa using hb, .treeE _ _ _ hs0 (by simp)⟩
                    · cases hv
            · cases hv
        · rename_i n elem hu
          split at hv
          · rename_i id off ep ext s hs
            split at hv
            · rename_i hc
              obtain ⟨hs0, hne, rfl, h1, h2⟩ := hc
              cases hr with
              | ptr _ _ _ _ l hl hx =>
                have hb := run_bounds (P := P) (isSlice := false) (len := n) (cap := n) bl bh bm hmh (Nat.le_refl _) (fun h hh => by subst hh; simpa using h2) h1 w
                simp only [Option.getD_none] at hb
                have hrun : (Instr.sliceAt t (.pointer (some ⟨l.b, off, none⟩)) (lo.map r) (hi.map r) (mx.map r)).run P w =
                    .ok (.slice (some (if n = ql.getD 0 then ⟨l.b, off, none⟩ else (⟨l.b, off, none⟩ : Addr).add (ql.getD 0 * s))) (qh.getD n - ql.getD 0) (n - ql.getD 0)) w := by
                  simp only [Instr.sliceAt, Sem.run_bind, run_und hu, Result.andThen_ok, Instr.sureAddr, Sem.run_pure, hb, run_size hs]
                refine ⟨_, hrun, ?_⟩
                split at hv
                · rename_i hnl
                  cases hv
                  rw [if_pos hnl, show qh.getD n - ql.getD 0 = 0 by omega, show n - ql.getD 0 = 0 by omega]
                  exact .emp _
                · rename_i hnl
                  cases hv
                  rw [if_neg hnl, add_none]
                  have hm1 : ql.getD 0 * s + (n - ql.getD 0) * s = n * s := by rw [← Nat.add_mul]; congr 1; omega
                  have hm2 : ql.getD 0 * s + (qh.getD n - ql.getD 0) * s = qh.getD n * s := by rw [← Nat.add_mul]; congr 1; omega
                  have hm3 : qh.getD n * s ≤ n * s := Nat.mul_le_mul_right s h2
                  exact .sl _ _ _ _ _ _ l _ _ hl (by omega) (by omega) (by omega) (by omega) (fun k hk => by cases hk; exact ⟨rfl, by omega⟩) (fun _ => rfl)
            · cases hv
          · cases hv
        · cases hv
    · cases hv
  · cases h
end Go.Ev
namespace Go.Ev
variable {P : Program} {N ro : Nat} {ι : Io} {w : World} {σ : St} {ρ : Operand → IV} {r : Operand → Value} {o : Oper} {out : OpOut}

theorem exec_builtin {c : Call} {b : Builtin} (ho : o.op = .call c) (hb : c.callee = .builtin b) :
    execOp r o = builtin b c.argTypes o.type (c.args.map fun | .const _ => true | _ => false) (c.args.map r) := by
  simp only [execOp, ho, resolve, hb]
  rfl

/-- A builtin's outcome. -/
def BOk (P : Program) (ro : Nat) (N : Nat) (ι : Io) (w : World) (σ : St) (s : Sem Next) (out : OpOut) : Prop :=
  ∃ v σ', out = .val v σ' ∧ (σ'.n ≤ N → Gives ro N ι w σ (s.run P w) v σ')

theorem BOk.ofV {s : Sem Value} {v : IV} {σ' : St} (h : σ'.n ≤ N → GivesV P ro N ι w σ s v σ') : BOk P ro N ι w σ (do pure (.value (← s))) (.val v σ') := by
  refine ⟨v, σ', rfl, fun hN => ?_⟩
  obtain ⟨u, w', ι', h1, h2, h3, h4⟩ := h hN
  exact ⟨u, w', ι', .inl (by simp only [Sem.run_bind, h1, Result.andThen_ok, Sem.run_pure]), h2, h3, h4⟩
theorem BOk.same {s : Sem Value} {v : IV} {u : Value} (hi : Inv N ι σ w) (h : s.run P w = .ok u w) (hr : Rv ι v u) : BOk P ro N ι w σ (do pure (.value (← s))) (.val v σ) :=
  BOk.ofV fun _ => ⟨u, w, ι, h, hr, hi, Le.refl _ _ _ _⟩

theorem rvl_one {x : IV} {vs : List Value} (h : RvL ι [x] vs) : ∃ v, vs = [v] ∧ Rv ι x v := by
  obtain ⟨v, vs', rfl, h1, h2⟩ := h.uncons
  exact ⟨v, by rw [h2.of_nil], h1⟩
theorem rvl_two {x y : IV} {vs : List Value} (h : RvL ι [x, y] vs) : ∃ v u, vs = [v, u] ∧ Rv ι x v ∧ Rv ι y u := by
  obtain ⟨v, vs', rfl, h1, h2⟩ := h.uncons
  obtain ⟨u, rfl, h3⟩ := rvl_one h2
  exact ⟨v, u, rfl, h1, h3⟩

theorem lenB_ok {argTypes : Array TypeId} {ty : TypeId} {x v : IV} {u : Value} (hi : Inv N ι σ w) (hr : Rv ι x u) (h : lenB P argTypes x σ = some v) : ∃ z, (Builtin.len_ argTypes ty #[u]).run P w = .ok z w ∧ Rv ι v z := by
  unfold lenB at h
  cases hta : argTypes[0]? with
  | none => simp [hta] at h
  | some t =>
    rw [hta, Option.bind_some] at h
    have e1 : (#[u] : Array Value)[0]? = some u := rfl
    unfold Builtin.len_
    rw [hta, e1]
    split at h
    · rename_i hu; cases h; cases hr
      exact ⟨_, by simp only [Sem.run_bind, run_und hu, Result.andThen_ok, Sem.run_pure, goInt], .raw _⟩
    · rename_i hu; cases h; cases hr
      exact ⟨_, by simp only [Sem.run_bind, run_und hu, Result.andThen_ok, Sem.run_pure, goInt]; rfl, .raw _⟩
    · rename_i hu; cases h; cases hr <;>
      exact ⟨_, by simp only [Sem.run_bind, run_und hu, Result.andThen_ok, Sem.run_pure, goInt] <;> rfl, .raw _⟩
    · rename_i hu; cases h; cases hr
      exact ⟨_, by simp only [Sem.run_bind, run_und hu, Result.andThen_ok, Sem.run_pure, goInt], .raw _⟩
    · rename_i hu; cases h; cases hr
      exact ⟨_, by simp only [Sem.run_bind, run_und hu, Result.andThen_ok, Sem.run_pure, goInt], .raw _⟩
    · rename_i hu; cases h; cases hr
      exact ⟨_, by simp only [Sem.run_bind, run_und hu, Result.andThen_ok, Sem.run_pure, goInt], .raw _⟩
    · rename_i id hu
      split at h
      · rename_i es clock hat
        cases h
        cases hr with
        | map _ l hl =>
          obtain ⟨l', res, hl', hh, he⟩ := hi.obj id _ hat
          rw [hl] at hl'; cases hl'
          have : (getObj l.b).run P w = .ok (.map res clock) w := by simp [getObj, Sem.run, hh]
          refine ⟨.int .i64 res.size, ?_, ?_⟩
          · simp only [Sem.run_bind, run_und hu, Result.andThen_ok, this, Sem.run_pure, goInt]
          · rw [← he.1]; exact .raw _
      · cases h
    · rename_i n e hu; cases h
      exact ⟨.int .i64 n, by simp only [Sem.run_bind, run_und hu, Result.andThen_ok]; rfl, .raw _⟩
    · cases h

theorem capB_ok {argTypes : Array TypeId} {ty : TypeId} {x v : IV} {u : Value} (hr : Rv ι x u) (h : capB P argTypes x = some v) : ∃ z, (Builtin.cap_ argTypes ty #[u]).run P w = .ok z w ∧ Rv ι v z := by
  unfold capB at h
  cases hta : argTypes[0]? with
  | none => simp [hta] at h
  | some t =>
    rw [hta, Option.bind_some] at h
    have e1 : (#[u] : Array Value)[0]? = some u := rfl
    unfold Builtin.cap_
    rw [hta, e1]
    split at h
    · rename_i c _ _ hu; cases h
      cases hr with
      | sl _ _ _ _ _ _ l c' a hl hn hlim hs0 hle hcap ha =>
        obtain ⟨rfl, _⟩ := hcap _ rfl
        exact ⟨_, by simp only [Sem.run_bind, run_und hu, Result.andThen_ok, Sem.run_pure, goInt], .raw _⟩
    · rename_i hu; cases h; cases hr
      exact ⟨_, by simp only [Sem.run_bind, run_und hu, Result.andThen_ok, Sem.run_pure, goInt]; rfl, .raw _⟩
    · rename_i hu; cases h; cases hr
      exact ⟨_, by simp only [Sem.run_bind, run_und hu, Result.andThen_ok, Sem.run_pure, goInt], .raw _⟩
    · rename_i n e hu; cases h
      exact ⟨.int .i64 n, by simp only [Sem.run_bind, run_und hu, Result.andThen_ok]; rfl, .raw _⟩
    · cases h

theorem run_getObj {b : Nat} {ob : Go.Obj} (h : w.heap[b]? = some ob) (hc : ∀ c e f, ob ≠ .cells c e f) : (getObj b).run P w = .ok ob w := by
  simp only [getObj, Sem.run, h]
theorem run_setObj {b : Nat} {ob ob' : Go.Obj} (h : w.heap[b]? = some ob) (hc : ∀ c e f, ob ≠ .cells c e f) : (setObj b ob').run P w = .ok () { w with heap := w.heap.setIfInBounds b ob' } := by
  simp only [setObj, Sem.run, h]

/-- An object that is no row of cells is laid anew in its place. -/
theorem Inv.setObj' (hi : Inv N ι σ w) {id : Nat} {ob ob' : Ob} {l : Loc} {go : Go.Obj} (hat : σ.at id = some ob) (hro : ro ≤ id) (hl : ι id 0 = some l) (hob : ObjRel ι { w with heap := w.heap.setIfInBounds l.b go } id ob') :
    Inv N ι (σ.put id ob') { w with heap := w.heap.setIfInBounds l.b go } ∧ Le ro ι w σ ι { w with heap := w.heap.setIfInBounds l.b go } (σ.put id ob') := by
  refine hi.put hat hro ⟨_, _, hl⟩ (Ext.refl _) (fun _ _ _ => rfl) (fun b hb => .inl hb) (by simp) (fun b _ hno => ?_) rfl rfl rfl hob
  have : l.b ≠ b := fun e => hno ⟨0, l, hl, e⟩
  simp [this]

theorem clearB_ok {argTypes : Array TypeId} {ty : TypeId} {x : IV} {u : Value} (hi : Inv N ι σ w) (hr : Rv ι x u) (h : clearB P ro argTypes x σ = some out) :
    ∃ v σ', out = .val v σ' ∧ (σ'.n ≤ N → GivesV P ro N ι w σ (Builtin.clear_ argTypes ty #[u]) v σ') := by
  unfold clearB at h
  cases hta : argTypes[0]? with
  | none => simp [hta] at h
  | some t =>
    rw [hta, Option.bind_some] at h
    have e1 : (#[u] : Array Value)[0]? = some u := rfl
    have idle : ∀ {d : TypeDesc}, P.underlying t = some d → (∃ l c, u = .slice none l c) ∨ u = .map none ∨ (∃ a c, u = .slice a 0 c) →
        GivesV P ro N ι w σ (Builtin.clear_ argTypes ty #[u]) .undef σ := by
      intro d hu hc
      unfold Builtin.clear_
      rw [hta, e1]
      refine ⟨.tuple #[], w, ι, ?_, .raw _, hi, Le.refl _ _ _ _⟩
      rcases hc with ⟨l, c, rfl⟩ | rfl | ⟨a, c, rfl⟩
      · simp only [Sem.run_bind, run_und hu, Result.andThen_ok]
        cases d <;> rfl
      · simp only [Sem.run_bind, run_und hu, Result.andThen_ok]
        cases d <;> rfl
      · cases a <;> (simp only [Sem.run_bind, run_und hu, Result.andThen_ok]; cases d <;> rfl)
    split at h
    · rename_i hu; obtain rfl := ret_val h; cases hr
      exact ⟨_, _, rfl, fun _ => idle hu (.inl ⟨_, _, rfl⟩)⟩
    · rename_i hu; obtain rfl := ret_val h; cases hr
      exact ⟨_, _, rfl, fun _ => idle hu (.inr (.inl rfl))⟩
    · rename_i hu; obtain rfl := ret_val h; cases hr
      exact ⟨_, _, rfl, fun _ => idle hu (.inr (.inr ⟨_, _, rfl⟩))⟩
    · rename_i id hu
      split at h
      · rename_i es clock hat
        split at h
        · rename_i hro
          obtain rfl := ret_val h
          refine ⟨_, _, rfl, fun hN => ?_⟩
          unfold Builtin.clear_
          rw [hta, e1]
          cases hr with
          | map _ l hl =>
            obtain ⟨l', res, hl', hh, he⟩ := hi.obj id _ hat
            rw [hl] at hl'; cases hl'
            have hlt : l.b < w.heap.size := hi.bnd id _ ⟨_, _, hl, rfl⟩
            obtain ⟨h1, h2⟩ := hi.setObj' (ro := ro) (ob' := .map [] clock) (go := .map #[] clock) hat hro hl ⟨l, #[], hl, by simp [hlt], by simp, fun i e r h => by simp at h⟩
            refine ⟨.tuple #[], _, ι, ?_, .raw _, h1, h2⟩
            simp only [Sem.run_bind, run_und hu, Result.andThen_ok, run_getObj (P := P) hh (by simp), run_setObj (P := P) hh (by simp), Sem.run_pure]
        · cases h
      · cases h
    · rename_i elem id off len cap ep s hu
      split at h
      · rename_i h0
        obtain rfl := ret_val h
        subst h0
        cases hr with
        | sl _ _ _ _ _ _ l c' a hl hn hlim hs0 hle hcap ha => exact ⟨_, _, rfl, fun _ => idle hu (.inr (.inr ⟨_, _, rfl⟩))⟩
      · rename_i h0
        split at h
        · rename_i cs cep mn hat
          split at h
          · rename_i z hz
            split at h
            · rename_i hc
              obtain ⟨hs, hzs, hok, hro, rfl, hoff⟩ := hc
              obtain rfl := ret_val h
              refine ⟨_, _, rfl, fun hN => ?_⟩
              unfold Builtin.clear_
              rw [hta, e1]
              cases hr with
              | sl _ _ _ _ _ _ l c' a hl hn hlim hs0 hle hcap ha =>
                have hrc := rvl_cycle (ι := ι) z s len hzs hs
                have hlc := len_cycle z s len hzs
                obtain ⟨l2, cc, el, hl2, hcb, hlt, r1, r2⟩ := hi.write (ro := ro) (off := off) hat hro (by rw [hrc.1, hlc]; exact hoff) hrc
                rw [hl] at hl2; cases hl2
                have hea := ha (by omega)
                subst hea
                refine ⟨.tuple #[], _, ι, ?_, .raw _, r1, r2⟩
                have hzc : Builtin.zeroCells z.cells len = ((List.replicate len z.cells.toList).flatten).toArray := by
                  unfold Builtin.zeroCells
                  have := zero_row z.cells s len hzs hs
                  rwa [← hzs] at this
                simp only [Sem.run_bind, run_und hu, Result.andThen_ok]
                simp only [run_zero hz, Result.andThen_ok, hzc, run_store_cells (P := P) hcb hlt (oneCell_ok hrc hok), Sem.run_pure]
            · cases h
          · cases h
        · cases h
    · cases h

theorem copyB_ok {argTypes : Array TypeId} {ty : TypeId} {d s : IV} {vd vs : Value} (hi : Inv N ι σ w) (hd : Rv ι d vd) (hs : Rv ι s vs) (h : copyB P ro argTypes d s σ = some out) :
    ∃ v σ', out = .val v σ' ∧ (σ'.n ≤ N → GivesV P ro N ι w σ (Builtin.copy_ argTypes ty #[vd, vs]) v σ') := by
  unfold copyB at h
  cases hta : argTypes[0]? with
  | none => simp [hta] at h
  | some t =>
    rw [hta, Option.bind_some] at h
    split at h
    · rename_i elem hu
      split at h
      · rename_i size dl sl hsz hdl hsl
        split at h
        · rename_i new hnew
          split at h
          · cases h
          · rename_i hc
            have hlen : new.length = Nat.min sl dl * size := Classical.byContradiction fun e => hc (.inl e)
            have hok : new.all cellOk = true := by cases hb : new.all cellOk with | true => rfl | false => exact absurd (.inr hb) hc
            obtain ⟨vals, hfc, hrv⟩ := firstC_ok (P := P) hi hnew hs
            have hlv := lenI_ok (P := P) hsl hs w
            have e0 : (#[vd, vs] : Array Value)[0]? = some vd := rfl
            have e1 : (#[vd, vs] : Array Value)[1]? = some vs := rfl
            have run : ∀ {base : Option Addr} {cap : Nat}, vd = .slice base dl cap → (Builtin.copy_ argTypes ty #[vd, vs]).run P w =
                ((match base with | some a => (storeCells a vals).run P w | none => .ok () w).andThen fun _ w' => .ok (.int .i64 (Nat.min sl dl)) w') := by
              intro base cap hv
              unfold Builtin.copy_
              rw [hta, e0, e1]
              subst hv
              simp only [Sem.run_bind, run_und hu, Result.andThen_ok, hlv, run_size hsz, hfc w rfl]
              cases base <;> simp [goInt]
            split at h
            · obtain rfl := ret_val h
              refine ⟨_, _, rfl, fun _ => ?_⟩
              have h0 : dl = 0 := by simp [lenI] at hdl; exact hdl.symm
              subst h0
              cases hd
              exact ⟨_, w, ι, run rfl, .raw _, hi, Le.refl _ _ _ _⟩
            · obtain rfl := ret_val h
              refine ⟨_, _, rfl, fun _ => ?_⟩
              have h0 : dl = 0 := by simp [lenI] at hdl; exact hdl.symm
              subst h0
              cases hd with
              | emp a =>
                have hv0 : vals = [] := List.eq_nil_of_length_eq_zero (by have := hrv.1; have : Nat.min sl 0 = 0 := Nat.min_zero sl; rw [this] at hlen; omega)
                subst hv0
                exact ⟨_, w, ι, (run rfl).trans (by simp [storeCells]), .raw _, hi, Le.refl _ _ _ _⟩
            · rename_i id off len cap ep st
              have h0 : len = dl := by simp [lenI] at hdl; exact hdl
              subst h0
              cases hd with
              | sl _ _ _ _ _ _ l c' a hl hn hlim hs0 hle hcap ha =>
                split at h
                · rename_i hz
                  obtain rfl := ret_val h
                  refine ⟨_, _, rfl, fun _ => ?_⟩
                  have hv0 : vals = [] := List.eq_nil_of_length_eq_zero (by have := hrv.1; rw [hz] at hlen; omega)
                  subst hv0
                  refine ⟨.int .i64 (Nat.min sl len), w, ι, (run rfl).trans (by simp [storeCells]), ?_, hi, Le.refl _ _ _ _⟩
                  rw [hz]; exact .raw _
                · rename_i hz
                  split at h
                  · rename_i cs cep mn hat
                    split at h
                    · rename_i hcc
                      obtain ⟨rfl, hro, rfl, hoff⟩ := hcc
                      obtain rfl := ret_val h
                      refine ⟨_, _, rfl, fun _ => ?_⟩
                      obtain ⟨l2, cc, el, hl2, hcb, hlt, r1, r2⟩ := hi.write (ro := ro) (off := off) hat hro (by rw [hlen]; exact hoff) hrv
                      rw [hl] at hl2; cases hl2
                      have hpos : 0 < len := by
                        rcases Nat.eq_zero_or_pos len with h | h
                        · subst h; exact absurd (Nat.min_zero sl) hz
                        · exact h
                      have hea := ha (by omega)
                      subst hea
                      refine ⟨_, _, ι, (run rfl).trans ?_, .raw _, r1, r2⟩
                      simp only [run_store_cells (P := P) hcb hlt (oneCell_ok hrv hok), Result.andThen_ok]
                    · cases h
                  · cases h
            · cases h
        · cases h
      · cases h
    · cases h
end Go.Ev
