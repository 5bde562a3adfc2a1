/- A part of the verified evaluator of closed runs (EvOps1): lemmas and definitions over the model, without conditions of their own. -/
import Derived.Test.YtcapkpeaofppnaaGreatDoorEvRun
namespace Go.Ev
variable {P : Program} {N ro : Nat} {ι : Io} {w : World} {σ : St} {ρ : Operand → IV} {r : Operand → Value} {o : Oper} {out : OpOut}

/-- An operation's outcome in the model is the ideal one. -/
def Gives (ro : Nat) (N : Nat) (ι : Io) (w : World) (σ : St) (res : Result Next) (v : IV) (σ' : St) : Prop :=
  ∃ u w' ι', (res = .ok (.value u) w' ∨ (res = .ok .skip w' ∧ u = Go.undef)) ∧ Rv ι' v u ∧ Inv N ι' σ' w' ∧ Le ro ι w σ ι' w' σ'

def DfRel (ι : Io) : Df → Deferred → Prop
  | .coll id, d => ∃ l, ι id 0 = some l ∧ d = { target := .collected l.b, args := #[] }
  | .call f args, d => ∃ cap us vs : List Value, d = { target := .fn (.func f) cap.toArray, args := us.toArray } ∧ RvL ι args vs ∧ vs = us ++ cap

def OutOk (P : Program) (ro : Nat) (N : Nat) (ι : Io) (w : World) (σ : St) (r : Operand → Value) (o : Oper) : OpOut → Prop
  | .val v σ' => σ'.n ≤ N → Gives ro N ι w σ ((execOp r o).run P w) v σ'
  | .enter f args => ∃ us : List Value, (execOp r o).run P w = .ok (.enter f us.toArray) w ∧ RvL ι args us
  | .round id args => ∃ l, ∃ us : List Value, ι id 0 = some l ∧ (execOp r o).run P w = (Instr.yield l.b us.toArray).run P w ∧ RvL ι args us
  | .dfr d => ∃ dd, (execOp r o).run P w = .ok (.defer dd) w ∧ DfRel ι d dd ∧ ∃ c, o.op = .defer c
  | .pan v => ∃ u, (execOp r o).run P w = .halt (.panic u) w ∧ Rv ι v u

theorem Gives.same (hi : Inv N ι σ w) {res : Result Next} {v : IV} {u : Value} (h : res = .ok (.value u) w) (hr : Rv ι v u) : Gives ro N ι w σ res v σ :=
  ⟨u, w, ι, .inl h, hr, hi, Le.refl _ _ _ _⟩
theorem OutOk.same (hi : Inv N ι σ w) {v : IV} {u : Value} (h : (execOp r o).run P w = .ok (.value u) w) (hr : Rv ι v u) : OutOk P ro N ι w σ r o (.val v σ) :=
  fun _ => Gives.same hi h hr

theorem ret_val {v : IV} (h : ret v σ = some out) : out = .val v σ := by cases h; rfl

theorem op_move {x : Operand} (hi : Inv N ι σ w) (hr : Rv ι (ρ x) (r x)) (ho : o.op = .move x ∨ o.op = .assign x) : OutOk P ro N ι w σ r o (.val (ρ x) σ) :=
  OutOk.same hi (by rcases ho with ho | ho <;> simp [execOp, ho]) hr

theorem op_pick {c a b : Operand} (hi : Inv N ι σ w) (hc : Rv ι (ρ c) (r c)) (ha : Rv ι (ρ a) (r a)) (hb : Rv ι (ρ b) (r b)) (ho : o.op = .pick c a b) (h : evOp P ro ρ o σ = some out) :
    OutOk P ro N ι w σ r o out := by
  unfold evOp at h; rw [ho] at h; simp only at h
  split at h
  · rename_i t ht
    rw [ht] at hc
    have hrc : r c = .bool t := by generalize hu : r c = u at hc; cases hc; rfl
    obtain rfl := ret_val h
    cases t
    · exact OutOk.same hi (u := r b) (by simp [execOp, ho, hrc, asBool]) hb
    · exact OutOk.same hi (u := r a) (by simp [execOp, ho, hrc, asBool]) ha
  · cases h

theorem objRel_new {cs : List IV} {vs rest : List Value} {el : TypeId} {w' : World} {l : Loc} {id : Nat} (hr : RvL ι cs vs) (hl : ι id 0 = some l) (hno : ∀ e, 0 < e → ι id e = none) (hn : l.n = cs.length) (hlim : l.lim = (vs ++ rest).length)
    (hh : w'.heap[l.b]? = some (.cells (vs ++ rest).toArray el (0, 0))) : ObjRel ι w' id (.cells cs 0 0) := by
  refine ⟨⟨Nat.le_refl _, hno⟩, ⟨l, hl, hn⟩, fun e _ he => ?_⟩
  obtain rfl : e = 0 := by omega
  refine ⟨l, (vs ++ rest).toArray, el, hl, by omega, hh, by simpa using hlim, fun k x _ hx => ?_⟩
  obtain ⟨u, hu, hru⟩ := hr.get hx
  refine ⟨u, ?_, hru⟩
  have hlt := (List.getElem?_eq_some_iff.1 hu).1
  rw [List.getElem?_toArray, List.getElem?_append_left hlt]
  exact hu

/-- A new row of cells, with cells behind it that nobody knows. -/
theorem Inv.newRowR (hi : Inv N ι σ w) (hN : σ.n < N) {cs : List IV} {vs : List Value} (hr : RvL ι cs vs) (rest : List Value) (el : TypeId) {w' : World} (hw : w'.heap = w.heap.push (.cells (vs ++ rest).toArray el))
    (hos : w'.os = w.os) (htp : w'.tape = w.tape) (hou : w'.output = w.output) :
    Inv N (updI ι σ.n 0 ⟨w.heap.size, cs.length, (vs ++ rest).length⟩) (σ.add (.cells cs 0 0)) w' ∧ Le ro ι w σ (updI ι σ.n 0 ⟨w.heap.size, cs.length, (vs ++ rest).length⟩) w' (σ.add (.cells cs 0 0)) := by
  have hx : ∀ e, ι σ.n e = none := hi.fresh _ (Nat.le_refl _) hN
  have hh : w'.heap[w.heap.size]? = some (.cells (vs ++ rest).toArray el (0, 0)) := by rw [hw]; simp
  refine hi.add hN hw hos htp hou rfl (objRel_new (rest := rest) (hr.mono (updI_ext (hx 0))) (updI_self _ _ _ _) (fun e he => ?_) rfl rfl hh)
  have : e ≠ 0 := by omega
  simp [updI, this, hx e]
/-- A new row of cells. -/
theorem Inv.newRow (hi : Inv N ι σ w) (hN : σ.n < N) {cs : List IV} {vs : List Value} (hr : RvL ι cs vs) (el : TypeId) :
    let l : Loc := ⟨w.heap.size, cs.length, vs.length⟩
    let w' : World := { w with heap := w.heap.push (.cells vs.toArray el) }
    Inv N (updI ι σ.n 0 l) (σ.add (.cells cs 0 0)) w' ∧ Le ro ι w σ (updI ι σ.n 0 l) w' (σ.add (.cells cs 0 0)) := by
  intro l w'
  have := hi.newRowR (ro := ro) hN hr [] el (w' := w') (by simp [w']) rfl rfl rfl
  simpa [l] using this

theorem op_alloc {t : TypeId} (hi : Inv N ι σ w) (ho : o.op = .alloc t) (h : evOp P ro ρ o σ = some out) : OutOk P ro N ι w σ r o out := by
  unfold evOp at h; rw [ho] at h; simp only at h
  split at h
  · rename_i z hz
    obtain rfl := ret_val h
    intro hN
    obtain ⟨h1, h2⟩ := hi.newRow (ro := ro) (by simp at hN; omega) (RvL.raws (ι := ι) z.cells.toList) t
    refine ⟨.pointer (some ⟨w.heap.size, 0, none⟩), _, _, .inl ?_, ?_, h1, h2⟩
    · simp [execOp, ho, Instr.alloc, run_zero hz, newVar, newRow]
    · exact .ptr _ _ _ _ _ (updI_self _ _ _ _) (by simp)
  · cases h

theorem op_box {t : TypeId} {x : Operand} (hi : Inv N ι σ w) (hr : Rv ι (ρ x) (r x)) (ho : o.op = .box t x) (h : evOp P ro ρ o σ = some out) : OutOk P ro N ι w σ r o out := by
  unfold evOp at h; rw [ho] at h; simp only at h
  split at h
  · rename_i hok
    obtain rfl := ret_val h
    intro hN
    obtain ⟨h1, h2⟩ := hi.newRow (ro := ro) (by simp at hN; omega) (hr.cells_ok hok) t
    refine ⟨.pointer (some ⟨w.heap.size, 0, none⟩), _, _, .inl ?_, ?_, h1, h2⟩
    · simp [execOp, ho, Instr.box, newVar, newRow]
    · have := (hr.cells_ok hok).1
      exact .ptr _ _ _ _ _ (updI_self _ _ _ _) (by simp only [Nat.zero_add]; omega)
  · cases h

theorem op_load {t : TypeId} {x : Operand} (hi : Inv N ι σ w) (hr : Rv ι (ρ x) (r x)) (ho : o.op = .load t x) (h : evOp P ro ρ o σ = some out) : OutOk P ro N ι w σ r o out := by
  unfold evOp at h; rw [ho] at h; simp only at h
  split at h
  · rename_i id off ep ext hx
    rw [hx] at hr
    split at h
    · rename_i s cs cep mn hs hat
      split at h
      · rename_i hc
        split at h
        · rename_i v hp
          obtain rfl := ret_val h
          obtain ⟨a, u, ha, hrun, hru⟩ := run_load_ptr hi hs hat hc.1 hc.2.1 hc.2.2 hp hr
          exact OutOk.same hi (u := u) (by simp [execOp, ho, Instr.loadAt, Instr.sureAddr, ha, hrun]) hru
        · cases h
      · cases h
    · cases h
  · rename_i cs hx
    rw [hx] at hr
    split at h
    · rename_i v hp
      obtain rfl := ret_val h
      generalize hq : r x = q at hr
      cases hr with
      | tptr _ b off us hu hh =>
        have hrow : RowAt w b off ((List.range cs.length).map us) := by
          intro j v hj
          simp only [List.getElem?_map, Option.map_eq_some_iff] at hj
          obtain ⟨j', hj', rfl⟩ := hj
          have : j' = j ∧ j < cs.length := by
            rw [List.getElem?_eq_some_iff] at hj'
            obtain ⟨h1, h2⟩ := hj'
            simp at h1 h2
            exact ⟨h2.symm, h1⟩
          obtain ⟨rfl, hlt⟩ := this
          have hm := hu j' hlt
          unfold cellM at hm
          cases hb : ι.m b with
          | none => simp [hb] at hm
          | some c =>
            obtain ⟨el, f, hh'⟩ := hi.mem b c hb
            rw [cell_of hh']
            simpa [hb] using hm
        have hl : RvL ι cs ((List.range cs.length).map us) := by
          refine ⟨by simp, fun i c v h1 h2 => ?_⟩
          have hlt := (List.getElem?_eq_some_iff.1 h1).1
          have : v = us i := by
            simp [hlt] at h2
            exact h2.symm
          subst this; exact hh i c h1
        obtain ⟨u, h1, h2⟩ := run_loadAt (k := 0) hp hl hrow
        exact OutOk.same hi (u := u) (by simp at h1; simp [execOp, ho, Instr.loadAt, Instr.sureAddr, hq, h1]) h2
    · cases h
  · cases h
end Go.Ev
