/- A part of the verified evaluator of closed runs (EvOps6): lemmas and definitions over the model, without conditions of their own. -/
import Derived.Test.YtcapkpeaofppnaaGreatDoorEvOps5
namespace Go.Ev
variable {P : Program} {N ro : Nat} {ι : Io} {w : World} {σ : St} {ρ : Operand → IV} {r : Operand → Value} {o : Oper} {out : OpOut}

/-- A value-giving computation of the model against the ideal one. -/
def GivesV (P : Program) (ro : Nat) (N : Nat) (ι : Io) (w : World) (σ : St) (s : Sem Value) (v : IV) (σ' : St) : Prop :=
  ∃ u w' ι', s.run P w = .ok u w' ∧ Rv ι' v u ∧ Inv N ι' σ' w' ∧ Le ro ι w σ ι' w' σ'

theorem run_choose_cap (need old : Nat) (el : TypeId) (w : World) : ∃ c, need ≤ c ∧ (choose (.appendCap need old el)).run P w = .ok c { w with drawn := w.drawn + 1 } := by
  refine ⟨(Question.appendCap need old el).cut (w.tape w.drawn (.appendCap need old el)), ?_, ?_⟩
  · simp only [Question.cut]; omega
  · simp [choose, Sem.run, Question.forced]

/-- What is fixed in one call of append. -/
structure AppArgs (P : Program) (elem : TypeId) (size bytes sLen n : Nat) (zero : Value) : Prop where
  hsize : sizeOf? P elem = some size
  hzero : zeroOf? P elem = some zero
  hbytes : (P.info? elem).map (·.bytes) = some bytes
  hpos : size ≠ 0
  hz : zero.cells.size = size
  hbig : (4 * (sLen + n) + 4096) * bytes ≤ 2 ^ 47
  hneed : sLen + n ≤ 2 ^ 40

def isIntT : TypeDesc → Bool
  | .int _ => true
  | _ => false
theorem isIntT_false {xd : TypeDesc} (h : ∀ k, xd ≠ .int k) : isIntT xd = false := by cases xd <;> first | rfl | grind
structure AppK (elem : TypeId) (base : Option Addr) (sLen sCap size : Nat) (x : Value) where
  big : Bool → Sem Value
  rest : Bool → Nat → Sem Value
  eq : ∀ {P : Program} {w : World} {argTypes : Array TypeId} {ty sT xT : TypeId}, argTypes[0]? = some sT → argTypes[1]? = some xT → P.underlying sT = some (.slice elem) → sizeOf? P elem = some size →
    (Builtin.append_ argTypes ty #[.slice base sLen sCap, x]).run P w = (do
      let u ← underlying xT
      let zeros ← pure (isIntT u)
      if zeros then big zeros
      else do
        let n ← Builtin.lenOf x
        rest zeros n).run P w
def appK (elem : TypeId) (base : Option Addr) (sLen sCap size : Nat) (x : Value) : AppK elem base sLen sCap size x := by
  apply AppK.mk
  intro P w argTypes ty sT xT h0 h1 hu hs
  unfold Builtin.append_
  rw [h0, h1]
  show Sem.run P (do
    let __x ← underlying sT
    _) w = _
  rw [Sem.run_bind, run_und hu, Result.andThen_ok]
  show Sem.run P (do
    let size ← sizeOf elem
    _) w = _
  rw [Sem.run_bind, run_size hs, Result.andThen_ok]
  rfl
def appTail (elem : TypeId) (zeros : Bool) (base : Option Addr) (sLen sCap size n : Nat) (x : Value) : Sem Value := (appK elem base sLen sCap size x).rest zeros n
theorem zeroC {z : Value} {size n : Nat} (h : z.cells.size = size) (hs : size ≠ 0) : Builtin.zeroCells z.cells n = ((List.replicate n z.cells.toList).flatten).toArray := by
  unfold Builtin.zeroCells
  rw [h]
  have := zero_row z.cells size n h hs
  rwa [h] at this
def NewOk (P : Program) (elem : TypeId) (size n : Nat) (x : Value) (vals : List Value) (w : World) : Bool → Prop
  | false => (Builtin.firstCells size n x).run P w = .ok vals.toArray w
  | true => ∃ z, zeroOf? P elem = some z ∧ z.cells.size = size ∧ size ≠ 0 ∧ vals = (List.replicate n z.cells.toList).flatten
theorem tail_in {elem : TypeId} {zeros : Bool} {base : Option Addr} {sLen sCap size n : Nat} {x : Value} {vals : List Value} (hle : sLen + n ≤ sCap) (hnew : NewOk P elem size n x vals w zeros) :
    (appTail elem zeros base sLen sCap size n x).run P w = (match base with
      | some a => (storeCells (a.add (sLen * size)) vals).run P w
      | none => .ok () w).andThen fun _ w' => .ok (.slice base (sLen + n) sCap) w' := by
  cases zeros
  · have hn : (Builtin.firstCells size n x).run P w = _ := hnew
    simp only [appTail, appK, if_pos hle, Sem.run_bind]
    cases base <;> simp [hn]
  have ⟨z, h0, h1, h2, h3⟩ := hnew
  subst h3
  simp only [appTail, appK, if_pos hle, Sem.run_bind]
  by_cases h4 : n = 0
  · subst h4
    cases base <;> simp
  · cases base <;> simp [run_zero h0, zeroC h1 h2, h4, h2, Nat.mul_ne_zero h4 h2]
theorem tail_new {elem : TypeId} {zeros : Bool} {base : Option Addr} {sLen sCap size n bytes : Nat} {zero x : Value} {olds vals : List Value} (ha : AppArgs P elem size bytes sLen n zero) (hgt : ¬ sLen + n ≤ sCap)
    (hnew : ∀ d, NewOk P elem size n x vals { w with drawn := d } zeros) (hold : ∀ d, (Builtin.firstCells size sLen (.slice base sLen sCap)).run P { w with drawn := d } = .ok olds.toArray { w with drawn := d }) :
    ∃ c rest, sLen + n ≤ c ∧ rest.length = (c - (sLen + n)) * size ∧
      (appTail elem zeros base sLen sCap size n x).run P w = .ok (.slice (some ⟨w.heap.size, 0, none⟩) (sLen + n) c) { w with heap := w.heap.push (.cells (olds ++ vals ++ rest).toArray elem), drawn := w.drawn + 1 } := by
  have ⟨i, hi, hb, hti⟩ := run_bytes ha.hbytes w
  have hti' : ∀ w' : World, (typeInfo elem).run P w' = .ok i w' := fun w' => by simp [typeInfo, hi]
  have ⟨c, hc, hch⟩ := run_choose_cap (P := P) (sLen + n) sCap elem w
  have ho := hold (w.drawn + 1)
  have h1 : ¬ ((sLen + n : Nat) : Int) > IntKind.i64.max := by
    have : IntKind.i64.max = 9223372036854775807 := by decide
    have := ha.hneed
    omega
  have h2 : ¬ Builtin.nextslicecap (sLen + n) sCap * i.bytes > 2 ^ 48 := by
    have hcap := nextcap_le (need := sLen + n) (old := sCap) (by omega)
    have : Builtin.nextslicecap (sLen + n) sCap * i.bytes ≤ (4 * (sLen + n) + 4096) * i.bytes := Nat.mul_le_mul_right _ hcap
    have := ha.hbig
    grind
  have hz0 : (zeroValue elem).run P { w with drawn := w.drawn + 1 } = .ok zero { w with drawn := w.drawn + 1 } := run_zero ha.hzero _
  have hrest : Builtin.zeroCells zero.cells (c - (sLen + n)) = ((List.replicate (c - (sLen + n)) zero.cells.toList).flatten).toArray := by
    unfold Builtin.zeroCells
    rw [ha.hz]
    have := zero_row zero.cells size (c - (sLen + n)) ha.hz ha.hpos
    simp_all [ha.hz]
  refine ⟨c, (List.replicate (c - (sLen + n)) zero.cells.toList).flatten, hc, len_cycle zero size _ ha.hz, ?_⟩
  cases zeros
  · have hn : (Builtin.firstCells size n x).run P { w with drawn := w.drawn + 1 } = _ := hnew (w.drawn + 1)
    simp only [appTail, appK, if_neg hgt, Sem.run_bind, hti', Result.andThen_ok, h1, false_and, if_false, h2, hch, run_askRoom, Bool.not_false, if_true, Sem.run_pure, List.getElem_toArray, List.getElem_cons_zero, List.getElem_cons_succ, ho, hn, hz0, hrest, newRow, run_newObj]
    simp
  have ⟨z, k0, k1, k2, k3⟩ := hnew (w.drawn + 1)
  cases ha.hzero.symm.trans k0
  subst k3
  have hN : n ≠ 0 → n * size ≠ 0 := fun h => Nat.mul_ne_zero h k2
  have hz' := zeroC (n := n) k1 k2
  by_cases h4 : n = 0
  · subst h4
    simp only [appTail, appK, if_neg hgt, Sem.run_bind, hti', Result.andThen_ok, h1, false_and, if_false, h2, hch, run_askRoom, Bool.not_true, Bool.false_eq_true, Nat.zero_mul, if_true, Sem.run_pure, List.getElem_toArray, List.getElem_cons_zero, ho, hz0, hrest, newRow, run_newObj]
    simp
  · simp only [appTail, appK, if_neg hgt, Sem.run_bind, hti', Result.andThen_ok, h1, false_and, if_false, h2, hch, run_askRoom, Bool.not_true, Bool.false_eq_true, if_neg (hN h4), Sem.run_pure, List.getElem_toArray, List.getElem_cons_zero, ho, hz', hz0, hrest, newRow, run_newObj]
    simp
theorem append_eq_f {argTypes : Array TypeId} {ty sT xT elem : TypeId} {xd : TypeDesc} {base : Option Addr} {sLen sCap size n : Nat} {x : Value} (h0 : argTypes[0]? = some sT) (h1 : argTypes[1]? = some xT)
    (hu : P.underlying sT = some (.slice elem)) (hx : P.underlying xT = some xd) (hd : ∀ k, xd ≠ .int k) (hs : sizeOf? P elem = some size) (hn : (Builtin.lenOf x).run P w = .ok n w) :
    (Builtin.append_ argTypes ty #[.slice base sLen sCap, x]).run P w = (appTail elem false base sLen sCap size n x).run P w := by
  rw [(appK elem base sLen sCap size x).eq h0 h1 hu hs, Sem.run_bind, run_und hx, Result.andThen_ok, isIntT_false hd]
  show Sem.run P (do
    let n ← Builtin.lenOf x
    _) w = _
  rw [Sem.run_bind, hn, Result.andThen_ok]
  rfl
theorem append_eq_t {argTypes : Array TypeId} {ty sT xT elem : TypeId} {k : IntKind} {base : Option Addr} {sLen sCap size bytes : Nat} {l : Int} (h0 : argTypes[0]? = some sT) (h1 : argTypes[1]? = some xT)
    (hu : P.underlying sT = some (.slice elem)) (hx : P.underlying xT = some (.int k)) (hs : sizeOf? P elem = some size) (hb : (P.info? elem).map (·.bytes) = some bytes) (hl0 : 0 ≤ l) (hl1 : l ≤ 1000000)
    (hbig : l.toNat * bytes ≤ 2 ^ 48) :
    (Builtin.append_ argTypes ty #[.slice base sLen sCap, .int .i64 l]).run P w = (appTail elem true base sLen sCap size l.toNat (.int .i64 l)).run P w := by
  have ⟨i, hi, hbi, hti⟩ := run_bytes hb w
  have wl : IntKind.i64.wrap l = l := IntWalk.i64_in _ (by omega)
  have c1 : ¬ l < 0 := by omega
  have c2 : ¬ l * (i.bytes : Int) > 2 ^ 48 := by
    grind
  rw [(appK elem base sLen sCap size _).eq h0 h1 hu hs, Sem.run_bind, run_und hx, Result.andThen_ok]
  show Sem.run P (if IntKind.i64.wrap l < 0 then _ else (do
    let t ← typeInfo elem
    if IntKind.i64.wrap l * (t.bytes : Int) > 2 ^ 48 then _ else _)) w = _
  rw [wl, if_neg c1, Sem.run_bind, hti, Result.andThen_ok, if_neg c2]
  rfl

theorem appendArg_ok {size n : Nat} {zero : Value} {xd : TypeDesc} {x : IV} {vx : Value} {new : List IV} {elem : TypeId} (hi : Inv N ι σ w) (hs : size ≠ 0) (hz : zero.cells.size = size) (hz0 : zeroOf? P elem = some zero)
    (h : appendArg size zero xd σ x = some (n, new)) (hx : Rv ι x vx) :
    ∃ vals, RvL ι new vals ∧ (∀ d, NewOk P elem size n vx vals { w with drawn := d } (isIntT xd)) ∧
      ((∃ k, xd = .int k ∧ ∃ l, vx = .int .i64 l ∧ 0 ≤ l ∧ l ≤ 1000000 ∧ n = l.toNat) ∨ ((∀ k, xd ≠ .int k) ∧ (Builtin.lenOf vx).run P w = .ok n w)) := by
  unfold appendArg at h
  split at h
  · rename_i k
    split at h
    · rename_i l
      split at h
      · rename_i hl
        cases h; cases hx
        refine ⟨_, rvl_cycle zero size l.toNat hz hs, fun d => ?_, .inl ⟨k, rfl, l, rfl, hl.1, hl.2, rfl⟩⟩
        exact ⟨_,hz0,hz,hs,rfl⟩
      · cases h
    · cases h
  · rename_i hd
    split at h
    · rename_i n' hn
      split at h
      · rename_i cs hc
        cases h
        obtain ⟨vs, h1, h2⟩ := firstC_ok (P := P) hi hc hx
        refine ⟨vs, h2, fun d => ?_, .inr ⟨hd, lenI_ok hn hx w⟩⟩
        rw [isIntT_false hd]
        exact h1 _ rfl
      · cases h
    · cases h

/-- What the tail of append gives, when a row of its own is made. -/
theorem tailNew_ok {elem : TypeId} {zeros : Bool} {size bytes sLen n sCap : Nat} {zero vx : Value} {base : Option Addr} {s v : IV} {new : List IV} {vals : List Value} {σ' : St} (hi : Inv N ι σ w)
    (ha : AppArgs P elem size bytes sLen n zero) (hgt : ¬ sLen + n ≤ sCap) (hr : RvL ι new vals) (hlen : new.length = n * size) (hnew : ∀ d, NewOk P elem size n vx vals { w with drawn := d } zeros)
    (hs : Rv ι s (.slice base sLen sCap)) (h : appendNew size sLen n new s σ = some (.val v σ')) (hN : σ'.n ≤ N) :
    GivesV P ro N ι w σ (appTail elem zeros base sLen sCap size n vx) v σ' := by
  unfold appendNew at h
  split at h
  · rename_i old ho
    split at h
    · rename_i hol
      cases h
      obtain ⟨olds, h1, h2⟩ := firstC_ok (P := P) hi ho hs
      obtain ⟨c, rest, hc, hrl, hrun⟩ := tail_new (base := base) ha hgt hnew (fun d => h1 _ rfl)
      have hpos := ha.hpos
      obtain ⟨ι', r1, r2, r3⟩ := hi.grown (ro := ro) (by simp at hN; omega) (h2.append hr) rest elem (size := size) (m := sLen + n) (c := c) (by omega) (by simp [hol, hlen, Nat.add_mul])
        (by
          have e1 := h2.1; have e2 := hr.1
          simp only [List.length_append, hrl, ← e1, ← e2, hol, hlen]
          rw [← Nat.add_mul, ← Nat.add_mul]
          congr 1; omega) hc
      exact ⟨_, _, ι', hrun, r1, r2, r3⟩
    · cases h
  · cases h

/-- An object's cells beyond some are let go. -/
theorem Inv.shrink (hi : Inv N ι σ w) {id cep mn k : Nat} {cs : List IV} {l : Loc} (hat : σ.at id = some (.cells cs cep mn)) (hro : ro ≤ id) (hl : ι id cep = some l) (hk : k ≤ cs.length) :
    Inv N (updI ι id (cep + 1) ⟨l.b, k, l.lim⟩) (σ.put id (.cells (cs.take k) (cep + 1) (cep + 1))) w ∧ Le ro ι w σ (updI ι id (cep + 1) ⟨l.b, k, l.lim⟩) w (σ.put id (.cells (cs.take k) (cep + 1) (cep + 1))) := by
  obtain ⟨⟨hmn, hno⟩, ⟨l0, hl0, hn0⟩, hall⟩ := hi.obj id _ hat
  obtain rfl : l = l0 := by rw [hl] at hl0; exact Option.some.inj hl0
  have hnone : ι id (cep + 1) = none := hno _ (by omega)
  have hext := updI_ext (l := ⟨l.b, k, l.lim⟩) hnone
  refine hi.put hat hro ⟨_, _, hl⟩ hext (fun i hne e => by simp [updI, hne]) ?_ (Nat.le_refl _) (fun _ _ _ => rfl) rfl rfl rfl ?_
  · intro b hb
    rcases updI_own hb with hb | ⟨_, hb⟩
    · exact .inl hb
    · subst hb; exact .inl ⟨_, _, hl, rfl⟩
  · refine ⟨⟨Nat.le_refl _, fun e he => ?_⟩, ⟨_, updI_self _ _ _ _, by simp; omega⟩, fun e he he' => ?_⟩
    · have : e ≠ cep + 1 := by omega
      simp [updI, this, hno e (by omega)]
    · have hee : e = cep + 1 := by omega
      subst hee
      obtain ⟨l2, c2, el2, h1, _, h3, h4, h5⟩ := hall cep hmn (Nat.le_refl _)
      rw [hl] at h1; cases h1
      refine ⟨_, c2, el2, updI_self _ _ _ _, by simp; omega, h3, h4, fun j x hj hx => ?_⟩
      simp only at hj
      rw [List.getElem?_take, if_pos hj] at hx
      obtain ⟨u, hu, hru⟩ := h5 j x (by omega) hx
      exact ⟨u, hu, hru.mono hext⟩

/-- append at the end of all that is known of an object. -/
theorem appendOwn_ok {elem : TypeId} {zeros : Bool} {st bytes sLen n id cep mn c : Nat} {zero vx : Value} {new cs : List IV} {vals : List Value} {l : Loc} {a : Addr} (hi : Inv N ι σ w)
    (ha : AppArgs P elem st bytes sLen n zero) (hr : RvL ι new vals) (hlen : new.length = n * st) (hok : new.all cellOk = true) (hnew : ∀ d, NewOk P elem st n vx vals { w with drawn := d } zeros)
    (hat : σ.at id = some (.cells cs cep mn)) (hro : ro ≤ id) (hl : ι id cep = some l) (hn : 0 + sLen * st ≤ l.n) (hlim : 0 + c * st ≤ l.lim) (hs0 : 0 < st) (hle : sLen ≤ c) (haa : 0 < c → a = ⟨l.b, 0, none⟩)
    (hlc : sLen * st = cs.length) (h0 : ¬ n = 0) :
    GivesV P ro N ι w σ (appTail elem zeros (some a) sLen c st n vx) (.sl id 0 (sLen + n) none (cep + 1) st) (σ.put id (.cells (cs ++ new) (cep + 1) mn)) := by
  have hw : ({ w with drawn := w.drawn } : World) = w := rfl
  have hsl' : Rv ι (.sl id 0 sLen none cep st) (.slice (some a) sLen c) := .sl _ _ _ _ _ _ l c a hl hn hlim hs0 hle (fun k hk => by cases hk) haa
  obtain ⟨⟨hmn, _⟩, ⟨l3, h3, h4⟩, _⟩ := hi.obj id _ hat
  rw [hl] at h3; cases h3
  by_cases hfit : sLen + n ≤ c
  · obtain ⟨l2, cc, el, hl2, hln2, hsz2, hcb, hlim2, _⟩ := obj_row (hi.obj id _ hat) hmn (Nat.le_refl _)
    rw [hl] at hl2; cases hl2
    have hmul : (sLen + n) * st ≤ c * st := Nat.mul_le_mul_right st hfit
    have hvl := hr.1
    have hlt : cs.length + vals.length ≤ cc.size := by rw [Nat.add_mul] at hmul; omega
    obtain ⟨r1, r2⟩ := hi.growIn (ro := ro) hat hro hr hl hcb hlt
    have hea := haa (by omega)
    subst hea
    refine ⟨.slice (some ⟨l.b, 0, none⟩) (sLen + n) c, _, _, ?_, ?_, r1, r2⟩
    · rw [tail_in hfit (hnew w.drawn), hw]
      simp only [add_none, Nat.zero_add, hlc, run_store_cells (P := P) hcb hlt (oneCell_ok hr hok), Result.andThen_ok]
    · exact .sl _ _ _ _ _ _ _ c _ (updI_self _ _ _ _) (by simp only [Nat.zero_add, hlen, ← hlc, Nat.add_mul]; exact Nat.le_refl _) hlim hs0 hfit (fun k hk => by cases hk) (fun _ => rfl)
  · have hfc : firstC st sLen σ (.sl id 0 sLen none cep st) = some cs := by
      simp only [firstC, hat]
      simp [hmn, hlc]
    obtain ⟨olds, h5, h6⟩ := firstC_ok (P := P) hi hfc hsl'
    obtain ⟨c', rest, hc', hrl, hrun⟩ := tail_new (base := some a) ha hfit hnew (fun d => h5 _ rfl)
    obtain ⟨r1, r2⟩ := hi.growNew (ro := ro) hat hro h6 hr rest elem
    refine ⟨_, _, _, hrun, ?_, r1, r2⟩
    refine .sl _ _ _ _ _ _ _ c' _ (updI_self _ _ _ _) ?_ ?_ hs0 hc' (fun k hk => by cases hk) (fun _ => rfl)
    · simp only [Nat.zero_add, hlen, ← hlc, Nat.add_mul]; exact Nat.le_refl _
    · have e1 := h6.1; have e2 := hr.1
      simp only [Nat.zero_add, List.length_append, hrl, ← e1, ← e2, hlen, ← hlc]
      rw [← Nat.add_mul, ← Nat.add_mul]
      exact Nat.mul_le_mul_right _ (by omega)

theorem appendTo_ok {elem : TypeId} {zeros : Bool} {size bytes sLen n : Nat} {zero vs vx : Value} {s v : IV} {new : List IV} {vals : List Value} {σ' : St} (hi : Inv N ι σ w)
    (ha : AppArgs P elem size bytes sLen n zero) (hr : RvL ι new vals) (hlen : new.length = n * size) (hok : new.all cellOk = true) (hnew : ∀ d, NewOk P elem size n vx vals { w with drawn := d } zeros)
    (hs : Rv ι s vs) (hsl : lenI s = some sLen) (h : appendTo ro size sLen n new s σ = some (.val v σ')) (hN : σ'.n ≤ N) :
    ∃ base sCap, vs = .slice base sLen sCap ∧ GivesV P ro N ι w σ (appTail elem zeros base sLen sCap size n vx) v σ' := by
  have hw : ({ w with drawn := w.drawn } : World) = w := rfl
  have hpos := ha.hpos
  have stay : ∀ {base : Option Addr} {sCap : Nat}, n = 0 → sLen ≤ sCap → (∃ a, base = some a) ∨ base = none → ∀ {u : IV}, Rv ι u (.slice base sLen sCap) →
      GivesV P ro N ι w σ (appTail elem zeros base sLen sCap size n vx) u σ := by
    intro base sCap h0 hle hb u hu
    subst h0
    have hv : vals = [] := List.eq_nil_of_length_eq_zero (by have := hr.1; rw [Nat.zero_mul] at hlen; omega)
    subst hv
    refine ⟨_, w, ι, ?_, hu, hi, Le.refl _ _ _ _⟩
    rw [tail_in (by simpa using hle) (hnew w.drawn)]
    cases base <;> simp [storeCells]
  unfold appendTo at h
  split at h
  · rename_i l c
    split at h
    · rename_i hlc
      obtain ⟨rfl, rfl⟩ := hlc
      have e0 : sLen = 0 := by simp [lenI] at hsl; exact hsl.symm
      subst e0
      cases hs
      refine ⟨none, 0, rfl, ?_⟩
      split at h
      · rename_i h0
        cases h
        exact stay h0 (Nat.le_refl _) (.inr rfl) (.raw _)
      · rename_i h0
        exact tailNew_ok hi ha (by omega) hr hlen hnew (.raw _) h hN
    · cases h
  · have e0 : sLen = 0 := by simp [lenI] at hsl; exact hsl.symm
    subst e0
    cases hs with
    | emp a =>
      refine ⟨some a, 0, rfl, ?_⟩
      split at h
      · rename_i h0
        cases h
        exact stay h0 (Nat.le_refl _) (.inl ⟨a, rfl⟩) (.emp a)
      · rename_i h0
        exact tailNew_ok hi ha (by omega) hr hlen hnew (.emp a) h hN
  · rename_i st es
    have e0 : sLen = es.length := by simp [lenI] at hsl; exact hsl.symm
    subst e0
    split at h
    · rename_i h0
      cases h
      cases hs with
      | tree _ _ b off c us hs0 hc hcs hu hh => exact ⟨_, c, rfl, stay h0 hc (.inl ⟨_, rfl⟩) (.tree _ _ b off c us hs0 hc hcs hu hh)⟩
      | treeE _ a c hs0 hn => exact ⟨a, c, rfl, stay h0 (Nat.zero_le _) (by cases a with | none => exact .inr rfl | some a => exact .inl ⟨a, rfl⟩) (.treeE _ a c hs0 hn)⟩
    · cases h
  · rename_i id off len cap ep st
    have e0 : sLen = len := by simp [lenI] at hsl; exact hsl.symm
    subst e0
    split at h
    · cases h
    · rename_i hst
      have hst : st = size := Classical.byContradiction hst
      subst hst
      cases hs with
      | sl _ _ _ _ _ _ l c a hl hn hlim hs0 hle hcap haa =>
        refine ⟨some a, c, rfl, ?_⟩
        have hsl' : Rv ι (.sl id off sLen cap ep st) (.slice (some a) sLen c) := .sl _ _ _ _ _ _ l c a hl hn hlim hs0 hle hcap haa
        split at h
        · rename_i h0
          cases h
          exact stay h0 hle (.inl ⟨a, rfl⟩) hsl'
        · rename_i h0
          split at h
          · rename_i k
            have hck := (hcap k rfl).1
            subst hck
            split at h
            · rename_i hfit
              split at h
              · rename_i cs cep mn hat
                split at h
                · rename_i hc
                  obtain ⟨hro, rfl, hoff⟩ := hc
                  cases h
                  have hoff' : off + sLen * st + new.length ≤ cs.length := by rw [hlen]; rw [Nat.add_mul] at hoff; omega
                  obtain ⟨l2, cc, el, hl2, hcb, hlt, r1, r2⟩ := hi.write (ro := ro) hat hro hoff' hr
                  rw [hl] at hl2; cases hl2
                  have hln : l.n = cs.length := by
                    obtain ⟨_, ⟨l3, h3, h4⟩, _⟩ := hi.obj id _ hat
                    rw [hl] at h3; cases h3; exact h4
                  have hea := haa (by omega)
                  subst hea
                  refine ⟨.slice (some ⟨l.b, off, none⟩) (sLen + n) c, _, ι, ?_, ?_, r1, r2⟩
                  · rw [tail_in hfit (hnew w.drawn), hw]
                    simp only [add_none, run_store_cells (P := P) hcb hlt (oneCell_ok hr hok), Result.andThen_ok]
                  · exact .sl _ _ _ _ _ _ l c _ hl (by omega) hlim hs0 hfit hcap (fun _ => rfl)
                · cases h
              · cases h
            · rename_i hfit
              exact tailNew_ok hi ha hfit hr hlen hnew hsl' h hN
          · split at h
            · rename_i cs cep mn hat
              split at h
              · rename_i hc
                obtain ⟨hro, rfl, rfl, hlc⟩ := hc
                cases h
                exact appendOwn_ok hi ha hr hlen hok hnew hat hro hl hn hlim hs0 hle haa hlc h0
              · split at h
                · rename_i hc
                  obtain ⟨hro, rfl, rfl, hlc⟩ := hc
                  cases h
                  obtain ⟨i1, l1⟩ := hi.shrink (ro := ro) hat hro hl hlc
                  have hx := l1.ext
                  have := appendOwn_ok (ro := ro) (id := id) (cep := ep + 1) (mn := ep + 1) (cs := cs.take (sLen * st)) (l := ⟨l.b, sLen * st, l.lim⟩) (a := a) i1 ha (hr.mono hx) hlen hok hnew (by rw [St.at_put, if_pos rfl]) hro (updI_self _ _ _ _) (by simp) hlim hs0 hle haa (by rw [List.length_take]; omega) h0
                  obtain ⟨u, w', ι', k1, k2, k3, k4⟩ := this
                  exact ⟨u, w', ι', k1, k2, k3, Le.trans (fun id h1 h2 => by simp only [St.n_put] at h2; omega) l1 k4⟩
                · cases h
            · cases h
  · cases h

theorem append_ok {argTypes : Array TypeId} {ty : TypeId} {s x v : IV} {vs vx : Value} {σ' : St} (hi : Inv N ι σ w) (hs : Rv ι s vs) (hx : Rv ι x vx) (h : appendI P ro argTypes s x σ = some (.val v σ')) (hN : σ'.n ≤ N) :
    GivesV P ro N ι w σ (Builtin.append_ argTypes ty #[vs, vx]) v σ' := by
  unfold appendI at h
  split at h
  · rename_i sT xT h0 h1
    split at h
    · rename_i elem xd hu hxd
      split at h
      · rename_i size zero bytes hsz hz hb
        split at h
        · cases h
        · rename_i hc
          have hs0 : size ≠ 0 := fun e => hc (.inl e)
          have hzs : zero.cells.size = size := Classical.byContradiction fun e => hc (.inr e)
          split at h
          · rename_i n new sLen hna hls
            split at h
            · rename_i hcond
              obtain ⟨hlen, hok, hbig, hneed⟩ := hcond
              obtain ⟨vals, hr, hnew, hcase⟩ := appendArg_ok hi hs0 hzs hz hna hx
              have ha : AppArgs P elem size bytes sLen n zero := ⟨hsz, hz, hb, hs0, hzs, hbig, hneed⟩
              obtain ⟨base, sCap, rfl, u, w', ι', hrun, g⟩ := appendTo_ok hi ha hr hlen hok hnew hs hls h hN
              refine ⟨u, w', ι', ?_, g⟩
              rcases hcase with ⟨k, rfl, l, rfl, hl0, hl1, rfl⟩ | ⟨hd, hn⟩
              · have hbb : l.toNat * bytes ≤ 2 ^ 48 := by
                  have : l.toNat * bytes ≤ (4 * (sLen + l.toNat) + 4096) * bytes := Nat.mul_le_mul_right _ (by omega)
                  omega
                rw [append_eq_t h0 h1 hu hxd hsz hb hl0 hl1 hbb]
                exact hrun
              · rw [append_eq_f h0 h1 hu hxd hd hsz hn]
                rw [isIntT_false hd] at hrun
                exact hrun
            · cases h
          · cases h
      · cases h
    · cases h
  · cases h
end Go.Ev
