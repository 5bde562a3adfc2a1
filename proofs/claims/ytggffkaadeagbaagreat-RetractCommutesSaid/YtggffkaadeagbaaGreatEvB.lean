/- Lemmas over the model, without conditions of their own: operations of the ideal machine are sound (1). -/
import Derived.Test.YtggffkaadeagbaaGreatEvA
import Derived.Lib.Strings
import Derived.IntWalk
set_option linter.all false
namespace Go.Ev
variable {P : Program} {N ro : Nat} {ι : Io} {w : World} {σ : St} {ρ : Operand → IV} {r : Operand → Value} {o : Oper} {out : OpOut}
def Gives (ro : Nat) (N : Nat) (ι : Io) (w : World) (σ : St) (res : Result Next) (v : IV) (σ' : St) : Prop :=
  ∃ u w' ι', (res = .ok (.value u) w' ∨ (res = .ok .skip w' ∧ u = Go.undef)) ∧ Rv ι' v u ∧ Inv N ι' σ' w' ∧ Le ro ι w σ ι' w' σ'
def DfRel (ι : Io) : Df → Deferred → Prop
  | .coll id, d => ∃ l, ι id 0 = some l ∧ d = { target := .collected l.b, args := #[] }
  | .call f args, d => ∃ cap us vs : List Value, d = { target := .fn (.func f) cap.toArray, args := us.toArray } ∧ RvL ι args vs ∧ vs = us ++ cap
def OutOk (P : Program) (ro : Nat) (N : Nat) (ι : Io) (w : World) (σ : St) (r : Operand → Value) (o : Oper) : OpOut → Prop
  | .val v σ' => σ'.n ≤ N → Gives ro N ι w σ ((execOp r o).run P w) v σ'
  | .enter f args => ∃ us : List Value, (execOp r o).run P w = .ok (.enter f us.toArray) w ∧ RvL ι args us
  | .round id args => ∃ l, ∃ us : List Value, ι id 0 = some l ∧ (execOp r o).run P w = (Instr.yield l.b us.toArray).run P w ∧ RvL ι args us
  | .dfr d => ∃ dd, (execOp r o).run P w = .ok (.defer dd) w ∧ DfRel ι d dd ∧ ∃ c, o.op = .defer c
  | .pan v => ∃ u, (execOp r o).run P w = .halt (.panic u) w ∧ Rv ι v u
theorem Gives.same (hi : Inv N ι σ w) {res : Result Next} {v : IV} {u : Value} (h : res = .ok (.value u) w) (hr : Rv ι v u) : Gives ro N ι w σ res v σ :=
  ⟨u, w, ι, .inl h, hr, hi, Le.refl _ _ _ _⟩
theorem OutOk.same (hi : Inv N ι σ w) {v : IV} {u : Value} (h : (execOp r o).run P w = .ok (.value u) w) (hr : Rv ι v u) : OutOk P ro N ι w σ r o (.val v σ) :=
  fun _ => Gives.same hi h hr
theorem ret_val {v : IV} (h : ret v σ = some out) : out = .val v σ := by cases h; rfl
theorem op_move {x : Operand} (hi : Inv N ι σ w) (hr : Rv ι (ρ x) (r x)) (ho : o.op = .move x ∨ o.op = .assign x) : OutOk P ro N ι w σ r o (.val (ρ x) σ) :=
  OutOk.same hi (by rcases ho with ho | ho <;> simp [execOp, ho]) hr
theorem op_pick {c a b : Operand} (hi : Inv N ι σ w) (hc : Rv ι (ρ c) (r c)) (ha : Rv ι (ρ a) (r a)) (hb : Rv ι (ρ b) (r b)) (ho : o.op = .pick c a b) (h : evOp P ro ρ o σ = some out) :
    OutOk P ro N ι w σ r o out := by
  unfold evOp at h; rw [ho] at h; simp only at h
  split at h
  · rename_i t ht
    rw [ht] at hc
    have hrc : r c = .bool t := by generalize hu : r c = u at hc; cases hc; rfl
    obtain rfl := ret_val h
    cases t
    · exact OutOk.same hi (u := r b) (by simp [execOp, ho, hrc, asBool]) hb
    · exact OutOk.same hi (u := r a) (by simp [execOp, ho, hrc, asBool]) ha
  · cases h
theorem objRel_new {cs : List IV} {vs rest : List Value} {el : TypeId} {w' : World} {l : Loc} {id : Nat} (hr : RvL ι cs vs) (hl : ι id 0 = some l) (hno : ∀ e, 0 < e → ι id e = none) (hn : l.n = cs.length) (hlim : l.lim = (vs ++ rest).length)
    (hh : w'.heap[l.b]? = some (.cells (vs ++ rest).toArray el (0, 0))) : ObjRel ι w' id (.cells cs 0 0) := by
  refine ⟨⟨Nat.le_refl _, hno⟩, ⟨l, hl, hn⟩, fun e _ he => ?_⟩
  obtain rfl : e = 0 := by omega
  refine ⟨l, (vs ++ rest).toArray, el, hl, by omega, hh, by simpa using hlim, fun k x _ hx => ?_⟩
  obtain ⟨u, hu, hru⟩ := hr.get hx
  refine ⟨u, ?_, hru⟩
  have hlt := (List.getElem?_eq_some_iff.1 hu).1
  rw [List.getElem?_toArray, List.getElem?_append_left hlt]
  exact hu
theorem Inv.newRowR (hi : Inv N ι σ w) (hN : σ.n < N) {cs : List IV} {vs : List Value} (hr : RvL ι cs vs) (rest : List Value) (el : TypeId) {w' : World} (hw : w'.heap = w.heap.push (.cells (vs ++ rest).toArray el))
    (hos : w'.os = w.os) (htp : w'.tape = w.tape) (hou : w'.output = w.output) :
    Inv N (updI ι σ.n 0 ⟨w.heap.size, cs.length, (vs ++ rest).length⟩) (σ.add (.cells cs 0 0)) w' ∧ Le ro ι w σ (updI ι σ.n 0 ⟨w.heap.size, cs.length, (vs ++ rest).length⟩) w' (σ.add (.cells cs 0 0)) := by
  have hx : ∀ e, ι σ.n e = none := hi.fresh _ (Nat.le_refl _) hN
  have hh : w'.heap[w.heap.size]? = some (.cells (vs ++ rest).toArray el (0, 0)) := by rw [hw]; simp
  refine hi.add hN hw hos htp hou rfl (objRel_new (rest := rest) (hr.mono (updI_ext (hx 0))) (updI_self _ _ _ _) (fun e he => ?_) rfl rfl hh)
  have : e ≠ 0 := by omega
  simp [updI, this, hx e]
theorem Inv.newRow (hi : Inv N ι σ w) (hN : σ.n < N) {cs : List IV} {vs : List Value} (hr : RvL ι cs vs) (el : TypeId) :
    let l : Loc := ⟨w.heap.size, cs.length, vs.length⟩
    let w' : World := { w with heap := w.heap.push (.cells vs.toArray el) }
    Inv N (updI ι σ.n 0 l) (σ.add (.cells cs 0 0)) w' ∧ Le ro ι w σ (updI ι σ.n 0 l) w' (σ.add (.cells cs 0 0)) := by
  intro l w'
  have := hi.newRowR (ro := ro) hN hr [] el (w' := w') (by simp [w']) rfl rfl rfl
  simpa [l] using this
theorem op_alloc {t : TypeId} (hi : Inv N ι σ w) (ho : o.op = .alloc t) (h : evOp P ro ρ o σ = some out) : OutOk P ro N ι w σ r o out := by
  unfold evOp at h; rw [ho] at h; simp only at h
  split at h
  · rename_i z hz
    obtain rfl := ret_val h
    intro hN
    obtain ⟨h1, h2⟩ := hi.newRow (ro := ro) (by simp at hN; omega) (RvL.raws (ι := ι) z.cells.toList) t
    refine ⟨.pointer (some ⟨w.heap.size, 0, none⟩), _, _, .inl ?_, ?_, h1, h2⟩
    · simp [execOp, ho, Instr.alloc, run_zero hz, newVar, newRow]
    · exact .ptr _ _ _ _ _ (updI_self _ _ _ _) (by simp)
  · cases h
theorem op_box {t : TypeId} {x : Operand} (hi : Inv N ι σ w) (hr : Rv ι (ρ x) (r x)) (ho : o.op = .box t x) (h : evOp P ro ρ o σ = some out) : OutOk P ro N ι w σ r o out := by
  unfold evOp at h; rw [ho] at h; simp only at h
  split at h
  · rename_i hok
    obtain rfl := ret_val h
    intro hN
    obtain ⟨h1, h2⟩ := hi.newRow (ro := ro) (by simp at hN; omega) (hr.cells_ok hok) t
    refine ⟨.pointer (some ⟨w.heap.size, 0, none⟩), _, _, .inl ?_, ?_, h1, h2⟩
    · simp [execOp, ho, Instr.box, newVar, newRow]
    · have := (hr.cells_ok hok).1
      exact .ptr _ _ _ _ _ (updI_self _ _ _ _) (by simp only [Nat.zero_add]; omega)
  · cases h
theorem op_load {t : TypeId} {x : Operand} (hi : Inv N ι σ w) (hr : Rv ι (ρ x) (r x)) (ho : o.op = .load t x) (h : evOp P ro ρ o σ = some out) : OutOk P ro N ι w σ r o out := by
  unfold evOp at h; rw [ho] at h; simp only at h
  split at h
  · rename_i id off ep ext hx
    rw [hx] at hr
    split at h
    · rename_i s cs cep mn hs hat
      split at h
      · rename_i hc
        split at h
        · rename_i v hp
          obtain rfl := ret_val h
          obtain ⟨a, u, ha, hrun, hru⟩ := run_load_ptr hi hs hat hc.1 hc.2.1 hc.2.2 hp hr
          exact OutOk.same hi (u := u) (by simp [execOp, ho, Instr.loadAt, Instr.sureAddr, ha, hrun]) hru
        · cases h
      · cases h
    · cases h
  · rename_i cs hx
    rw [hx] at hr
    split at h
    · rename_i v hp
      obtain rfl := ret_val h
      generalize hq : r x = q at hr
      cases hr with
      | tptr _ b off us hu hh =>
        have hrow : RowAt w b off ((List.range cs.length).map us) := by
          intro j v hj
          simp only [List.getElem?_map, Option.map_eq_some_iff] at hj
          obtain ⟨j', hj', rfl⟩ := hj
          have : j' = j ∧ j < cs.length := by
            rw [List.getElem?_eq_some_iff] at hj'
            obtain ⟨h1, h2⟩ := hj'
            simp at h1 h2
            exact ⟨h2.symm, h1⟩
          obtain ⟨rfl, hlt⟩ := this
          have hm := hu j' hlt
          unfold cellM at hm
          cases hb : ι.m b with
          | none => simp [hb] at hm
          | some c =>
            obtain ⟨el, f, hh'⟩ := hi.mem b c hb
            rw [cell_of hh']
            simpa [hb] using hm
        have hl : RvL ι cs ((List.range cs.length).map us) := by
          refine ⟨by simp, fun i c v h1 h2 => ?_⟩
          have hlt := (List.getElem?_eq_some_iff.1 h1).1
          have : v = us i := by
            simp [hlt] at h2
            exact h2.symm
          subst this; exact hh i c h1
        obtain ⟨u, h1, h2⟩ := run_loadAt (k := 0) hp hl hrow
        exact OutOk.same hi (u := u) (by simp at h1; simp [execOp, ho, Instr.loadAt, Instr.sureAddr, hq, h1]) h2
    · cases h
  · cases h
end Go.Ev
namespace Go.Ev
variable {P : Program} {N ro : Nat} {ι : Io} {w : World} {σ : St} {ρ : Operand → IV} {r : Operand → Value} {o : Oper} {out : OpOut}
theorem setRow_heap_ne (w : World) (g : Nat) (cs : Array Value) (b : Nat) (h : b ≠ g) : (w.setRow g cs).heap[b]? = w.heap[b]? := by
  simp only [World.setRow, Array.getElem?_modify]
  rw [if_neg (by omega)]
theorem setRow_size (w : World) (g : Nat) (cs : Array Value) : (w.setRow g cs).heap.size = w.heap.size := by simp [World.setRow]
theorem oneCell_ok {cs : List IV} {vs : List Value} (hr : RvL ι cs vs) (h : cs.all cellOk = true) : ∀ v ∈ vs, v.oneCell' = true := by
  intro v hv
  obtain ⟨i, hi⟩ := List.mem_iff_getElem?.1 hv
  have hlt : i < cs.length := by have := (List.getElem?_eq_some_iff.1 hi).1; have := hr.1; omega
  have hc := hr.2 i cs[i] v (List.getElem?_eq_getElem hlt) hi
  have hk := cellOk_ok hc (List.all_eq_true.1 h _ (List.getElem_mem hlt))
  cases v <;> first | rfl | exact absurd rfl (hk.1 _) | exact absurd rfl (hk.2 _)
theorem splice_take (A : List Value) (n off : Nat) (vals : List Value) (h1 : off + vals.length ≤ n) (h2 : n ≤ A.length) (k : Nat) (hk : k < n) :
    (A.take off ++ vals ++ A.drop (off + vals.length))[k]? = ((A.take n).take off ++ vals ++ (A.take n).drop (off + vals.length))[k]? := by
  have e1 : (A.take n).take off = A.take off := by rw [List.take_take, Nat.min_eq_left (by omega)]
  have e2 : A.drop (off + vals.length) = (A.take n).drop (off + vals.length) ++ A.drop n := by
    have hA : A = A.take n ++ A.drop n := (List.take_append_drop n A).symm
    have hl : (A.take n).length = n := by rw [List.length_take]; omega
    have := List.drop_append_of_le_length (l₁ := A.take n) (l₂ := A.drop n) (i := off + vals.length) (by omega)
    rw [← hA] at this
    exact this
  rw [e1, e2, ← List.append_assoc]
  refine List.getElem?_append_left ?_
  simp only [List.length_append, List.length_take, List.length_drop]
  omega
theorem Inv.write (hi : Inv N ι σ w) {id off cep mn : Nat} {cs new : List IV} {vals : List Value} (hat : σ.at id = some (.cells cs cep mn)) (hro : ro ≤ id) (hoff : off + new.length ≤ cs.length)
    (hr : RvL ι new vals) : ∃ l c el, ι id cep = some l ∧ w.heap[l.b]? = some (.cells c el (0, 0)) ∧ off + vals.length ≤ c.size ∧
      Inv N ι (σ.put id (.cells (splice cs off new) cep cep)) (w.setRow l.b (c.toList.take off ++ vals ++ c.toList.drop (off + vals.length)).toArray) ∧
      Le ro ι w σ ι (w.setRow l.b (c.toList.take off ++ vals ++ c.toList.drop (off + vals.length)).toArray) (σ.put id (.cells (splice cs off new) cep cep)) := by
  have hob := hi.obj id _ hat
  obtain ⟨hmn, ⟨l0, hl0, hn0⟩, _⟩ := hob
  obtain ⟨l, c, el, hl, hn, hsz, hc, hlim, hrow⟩ := obj_row (hi.obj id _ hat) hmn.1 (Nat.le_refl _)
  obtain rfl : l = l0 := by rw [hl] at hl0; exact Option.some.inj hl0
  have hvl := hr.1
  have hlt : off + vals.length ≤ c.size := by omega
  refine ⟨l, c, el, hl, hc, hlt, ?_⟩
  refine hi.put hat hro ⟨_, _, hl⟩ (Ext.refl _) (fun _ _ _ => rfl) (fun b hb => .inl hb) (by rw [setRow_size]; exact Nat.le_refl _) (fun b _ hno => setRow_heap_ne _ _ _ _ ?_) rfl rfl rfl ?_
  · intro e; subst e; exact hno ⟨_, _, hl, rfl⟩
  · refine ⟨⟨Nat.le_refl _, hmn.2⟩, ⟨l, hl, by simp [splice, hn0]; omega⟩, fun e he he' => ?_⟩
    obtain rfl : e = cep := by omega
    refine ⟨l, _, el, hl, by simp [splice]; omega, setRow_heap w l.b c _ el _ hc, by simp; omega, fun k x hk hx => ?_⟩
    rw [hn0, List.take_length] at hrow
    have hc0 : cs.length ≤ c.toList.length := by simp; omega
    have hrow' : RvL ι (splice cs off new) ((c.toList.take cs.length).take off ++ vals ++ (c.toList.take cs.length).drop (off + vals.length)) := hrow.splice off hr
    obtain ⟨u, hu, hru⟩ := hrow'.get hx
    refine ⟨u, ?_, hru⟩
    simp only [List.getElem?_toArray]
    rw [← hu]
    exact splice_take c.toList cs.length off vals (by omega) hc0 k (by omega)
theorem run_store_cells {l : Loc} {c : Array Value} {el : TypeId} {off : Nat} {vals : List Value} (hc : w.heap[l.b]? = some (.cells c el (0, 0))) (hlt : off + vals.length ≤ c.size) (h1 : ∀ v ∈ vals, v.oneCell' = true) :
    (storeCells ⟨l.b, off, none⟩ vals).run P w = .ok () (w.setRow l.b (c.toList.take off ++ vals ++ c.toList.drop (off + vals.length)).toArray) := by
  have := run_storeCells_at (P := P) l.b off el vals 0 c w hc (by omega) h1
  simpa using this
theorem op_store {t : TypeId} {a x : Operand} (hi : Inv N ι σ w) (ha : Rv ι (ρ a) (r a)) (hx : Rv ι (ρ x) (r x)) (ho : o.op = .store t a x) (h : evOp P ro ρ o σ = some out) : OutOk P ro N ι w σ r o out := by
  unfold evOp at h; rw [ho] at h; simp only at h
  split at h
  · rename_i id off ep ext hp
    rw [hp] at ha
    split at h
    · rename_i s cs cep mn hs hat
      split at h
      · rename_i hc
        obtain ⟨hro, hlen, hext, hep, hoff, hok⟩ := hc
        obtain rfl := ret_val h
        intro hN
        subst hep
        have hcells := hx.cells_ok hok
        obtain ⟨l, c, el, hl, hcb, hlt, h1, h2⟩ := hi.write (ro := ro) hat hro (by rw [hlen]; exact hoff) hcells
        generalize hq : r a = q at ha
        cases ha with
        | ptr _ _ _ _ l' hl' hx' =>
          rw [hl] at hl'; cases hl'
          refine ⟨Go.undef, _, _, .inr ⟨?_, rfl⟩, .raw _, h1, h2⟩
          have hsz : (r x).cells.size = s := by have := hcells.1; simp at this; omega
          simp [execOp, ho, Instr.storeAt, Instr.sureAddr, hq, storeVar, run_size hs, hsz, run_store_cells (P := P) hcb hlt (oneCell_ok hcells hok)]
      · cases h
    · cases h
  · cases h
theorem op_nilCheck {x : Operand} (hi : Inv N ι σ w) (hr : Rv ι (ρ x) (r x)) (ho : o.op = .nilCheck x) (h : evOp P ro ρ o σ = some out) : OutOk P ro N ι w σ r o out := by
  unfold evOp at h; rw [ho] at h; simp only at h
  split at h
  all_goals first | (cases h; done) | skip
  all_goals
    rename_i hx
    rw [hx] at hr
    obtain rfl := ret_val h
    generalize hq : r x = q at hr
    refine OutOk.same hi (u := q) ?_ hr
    cases hr <;> simp [execOp, ho, hq]
theorem eval_bin {op : BinOp} {t yT : TypeId} {x y : Operand} (ho : o.op = .binOp op t x y yT) {v : Value} (h : (do eqGuard op t x y (r x) (r y); binOp op t (r x) (r y) : Sem Value).run P w = .ok v w) :
    (execOp r o).run P w = .ok (.value v) w := by
  simp only [execOp, ho, Sem.run_bind] at h ⊢
  rw [h]; rfl
theorem toList_eq (s : ByteArray) : s.toList = s.data.toList := Lib.toList_data s
theorem nilEq1_eq {t : TypeId} {a b : IV} {u v : Value} (d : Nat) (h : nilEq1 P t a b = true) (ha : Rv ι a u) (hb : Rv ι b v) :
    ((Op.equalIn (d + 1) t u v).run P w = .ok false w) ∧ ((Op.equalIn (d + 1) t v u).run P w = .ok false w) := by
  unfold nilEq1 at h
  split at h
  all_goals first | (cases h; done) | skip
  all_goals
    split at h
    · rename_i hu
      cases ha
      cases hb
      refine ⟨?_, ?_⟩ <;> simp only [Op.equalIn, Sem.run_bind, run_und hu, Result.andThen_ok] <;> rfl
    · cases h
theorem bin_of_equal {t : TypeId} {u v : Value} {c : Bool} (he : (Op.equalIn (9999 + 1) t u v).run P w = .ok c w) :
    (do pure (.bool (← Op.equal t u v)) : Sem Value).run P w = .ok (.bool c) w ∧ (do pure (.bool (!(← Op.equal t u v))) : Sem Value).run P w = .ok (.bool !c) w := by
  have he' : (Op.equal t u v).run P w = .ok c w := he
  constructor <;> simp only [Sem.run_bind, he', Result.andThen_ok, Sem.run_pure]
theorem nilEq1_ok {t : TypeId} {a b : IV} {u v : Value} {x y : Operand} (h : nilEq1 P t a b = true) (ha : Rv ι a u) (hb : Rv ι b v) :
    ((∀ op, (eqGuard op t x y u v).run P w = .ok () w) ∧ (Go.binOp .eql t u v).run P w = .ok (.bool false) w ∧ (Go.binOp .neq t u v).run P w = .ok (.bool true) w) ∧
    ((∀ op, (eqGuard op t x y v u).run P w = .ok () w) ∧ (Go.binOp .eql t v u).run P w = .ok (.bool false) w ∧ (Go.binOp .neq t v u).run P w = .ok (.bool true) w) := by
  have h1 := nilEq1_eq (w := w) 9999 h ha hb
  have h2 := bin_of_equal h1.1
  have h3 := bin_of_equal h1.2
  unfold nilEq1 at h
  split at h
  all_goals first | (cases h; done) | skip
  all_goals
    cases ha
    cases hb
    exact ⟨⟨fun op => by cases op <;> rfl, h2.1, h2.2⟩, ⟨fun op => by cases op <;> rfl, h3.1, h3.2⟩⟩
theorem nilEq_ok {t : TypeId} {a b : IV} {u v : Value} {x y : Operand} (h : nilEq P t a b = true) (ha : Rv ι a u) (hb : Rv ι b v) :
    (∀ op, (eqGuard op t x y u v).run P w = .ok () w) ∧ (Go.binOp .eql t u v).run P w = .ok (.bool false) w ∧ (Go.binOp .neq t u v).run P w = .ok (.bool true) w := by
  unfold nilEq at h
  rw [Bool.or_eq_true] at h
  rcases h with h | h
  · exact (nilEq1_ok (w := w) (x := x) (y := y) h ha hb).1
  · exact (nilEq1_ok (w := w) (x := x) (y := y) h hb ha).2
theorem ptrEq_ok {t : TypeId} {a b : IV} {u v : Value} {x y : Operand} {c : Bool} (h : ptrEq P t a b = some c) (ha : Rv ι a u) (hb : Rv ι b v) :
    (∀ op, (eqGuard op t x y u v).run P w = .ok () w) ∧ (Go.binOp .eql t u v).run P w = .ok (.bool c) w ∧ (Go.binOp .neq t u v).run P w = .ok (.bool !c) w := by
  unfold ptrEq at h
  split at h
  · rename_i i off e x1 j off' f y1
    split at h
    · rename_i el hu
      split at h
      · rename_i s hs
        split at h
        · rename_i hc
          obtain ⟨rfl, rfl, h0⟩ := hc
          cases h
          cases ha with
          | ptr _ off _ _ l hl _ =>
            cases hb with
            | ptr _ off' _ _ l' hl' _ =>
              rw [hl] at hl'; cases hl'
              have he : ∀ d, (Op.equalIn (d + 1) t (.pointer (some ⟨l.b, off, none⟩)) (.pointer (some ⟨l.b, off', none⟩))).run P w = .ok (off == off') w := by
                intro d
                simp only [Op.equalIn, Sem.run_bind, run_und hu, Result.andThen_ok, run_size hs, ne_eq, h0, not_false_eq_true, if_true, sameAddr, beq_self_eq_true]
                by_cases hh : off = off'
                · subst hh; simp
                · have : ((⟨l.b, off, none⟩ : Addr) == ⟨l.b, off', none⟩) = false := by simp [hh]
                  simp [this, hh]
              have h2 := bin_of_equal (he 9999)
              exact ⟨fun op => by cases op <;> rfl, h2.1, h2.2⟩
        · cases h
      · cases h
    · cases h
  · cases h
theorem op_bin {op : BinOp} {t yT : TypeId} {x y : Operand} (hi : Inv N ι σ w) (hx : Rv ι (ρ x) (r x)) (hy : Rv ι (ρ y) (r y)) (ho : o.op = .binOp op t x y yT) (h : evOp P ro ρ o σ = some out) :
    OutOk P ro N ι w σ r o out := by
  unfold evOp at h; rw [ho] at h; simp only at h
  split at h
  · rename_i v hv
    obtain rfl := ret_val h
    suffices hs : ∃ u, (do eqGuard op t x y (r x) (r y); binOp op t (r x) (r y) : Sem Value).run P w = .ok u w ∧ Rv ι v u by
      obtain ⟨u, h1, h2⟩ := hs
      exact OutOk.same hi (eval_bin ho h1) h2
    generalize hrx : r x = a at hx
    generalize hry : r y = b at hy
    generalize hix : ρ x = ix at hx hv
    generalize hiy : ρ y = iy at hy hv
    unfold binI at hv
    have strs : ∀ (s u : ByteArray), ix = .raw (.string s) → iy = .raw (.string u) → a = .string s ∧ b = .string u := by
      intro s u h1 h2; subst h1 h2; cases hx; cases hy; exact ⟨rfl, rfl⟩
    split at hv
    · rename_i s u; obtain ⟨rfl, rfl⟩ := strs s u rfl rfl; cases hv
      exact ⟨_, by simp [eqGuard, Go.binOp, Op.stringOp, toList_eq], .raw _⟩
    · rename_i s u; obtain ⟨rfl, rfl⟩ := strs s u rfl rfl; cases hv
      exact ⟨_, by simp [eqGuard, Go.binOp, Op.stringOp, toList_eq], .raw _⟩
    · rename_i s u; obtain ⟨rfl, rfl⟩ := strs s u rfl rfl; cases hv
      exact ⟨_, by simp [eqGuard, Go.binOp, Op.stringOp, toList_eq], .raw _⟩
    · rename_i s u; obtain ⟨rfl, rfl⟩ := strs s u rfl rfl; cases hv
      exact ⟨_, by simp [eqGuard, Go.binOp, Op.stringOp, toList_eq], .raw _⟩
    · rename_i s u; obtain ⟨rfl, rfl⟩ := strs s u rfl rfl; cases hv
      exact ⟨_, by simp [eqGuard, Go.binOp, Op.stringOp, toList_eq], .raw _⟩
    · rename_i s u; obtain ⟨rfl, rfl⟩ := strs s u rfl rfl; cases hv
      exact ⟨_, by simp [eqGuard, Go.binOp, Op.stringOp, toList_eq], .raw _⟩
    · rename_i s u; obtain ⟨rfl, rfl⟩ := strs s u rfl rfl
      split at hv
      · rename_i hsz
        cases hv
        refine ⟨_, ?_, .raw _⟩
        have e : (⟨(s.data.toList ++ u.data.toList).toArray⟩ : ByteArray) = s ++ u := by
          apply ByteArray.ext
          simp
        rw [e]
        have hm : ¬ ((s.size + u.size : Nat) : Int) > IntKind.i64.max := by
          have : IntKind.i64.max = 9223372036854775807 := by decide
          rw [this]; omega
        simp only [eqGuard, Go.binOp, Op.stringOp, if_neg hm]
        simp
      · cases hv
    · split at hv
      · rename_i u1 u2 h1 h2
        rw [toRaw_ok h1 hx, toRaw_ok h2 hy]
        simp only [Option.map_eq_some_iff] at hv
        obtain ⟨z, hz, rfl⟩ := hv
        exact ⟨z, pureRun_run w _ hz, Rv.lift z⟩
      · split at hv
        · rename_i hnil
          obtain ⟨hg, he⟩ := nilEq_ok (w := w) (x := x) (y := y) hnil hx hy
          split at hv
          · cases hv; exact ⟨.bool false, by simp only [Sem.run_bind, hg .eql, Result.andThen_ok, he.1], .raw _⟩
          · cases hv; exact ⟨.bool true, by simp only [Sem.run_bind, hg .neq, Result.andThen_ok, he.2], .raw _⟩
          · cases hv
        · split at hv
          · obtain ⟨hg, he⟩ := ptrEq_ok (w := w) (x := x) (y := y) ‹ptrEq P t ix iy = some _› hx hy
            cases hv; exact ⟨.bool _, by simp only [Sem.run_bind, hg .eql, Result.andThen_ok, he.1], .raw _⟩
          · obtain ⟨hg, he⟩ := ptrEq_ok (w := w) (x := x) (y := y) ‹ptrEq P t ix iy = some _› hx hy
            cases hv; exact ⟨.bool _, by simp only [Sem.run_bind, hg .neq, Result.andThen_ok, he.2], .raw _⟩
          · cases hv
  · cases h
end Go.Ev
namespace Go.Ev
variable {P : Program} {N ro : Nat} {ι : Io} {w : World} {σ : St} {ρ : Operand → IV} {r : Operand → Value} {o : Oper} {out : OpOut}
theorem rv_raw {x : IV} {v u : Value} (hx : x = .raw v) (h : Rv ι x u) : u = v := by subst hx; cases h; rfl
theorem op_un {op : UnOp} {t : TypeId} {x : Operand} (hi : Inv N ι σ w) (hr : Rv ι (ρ x) (r x)) (ho : o.op = .unOp op t x) (h : evOp P ro ρ o σ = some out) : OutOk P ro N ι w σ r o out := by
  unfold evOp at h; rw [ho] at h; simp only at h
  split at h
  · rename_i v hx
    split at h
    · rename_i z hz
      obtain rfl := ret_val h
      have e := rv_raw hx hr
      have := pureRun_run w _ hz
      exact OutOk.same hi (u := z) (by simp [execOp, ho, e, this]) (Rv.lift z)
    · cases h
  · cases h
theorem op_convert {s t : TypeId} {x : Operand} (hi : Inv N ι σ w) (hr : Rv ι (ρ x) (r x)) (ho : o.op = .convert s t x) (h : evOp P ro ρ o σ = some out) : OutOk P ro N ι w σ r o out := by
  unfold evOp at h; rw [ho] at h; simp only at h
  split at h
  · rename_i v hx
    split at h
    · rename_i d hs hu
      obtain rfl := ret_val h
      have e := rv_raw hx hr
      refine OutOk.same hi (u := .string v) ?_ (.raw _)
      have : (convert s t (.string v)).run P w = .ok (.string v) w := by
        simp only [convert, Sem.run_bind, run_und hs, run_und hu, Result.andThen_ok]; rfl
      simp [execOp, ho, e, this]
    · cases h
  · rename_i v _ hx
    split at h
    · rename_i z hz
      obtain rfl := ret_val h
      have e := rv_raw hx hr
      have := pureRun_run w _ hz
      exact OutOk.same hi (u := z) (by simp [execOp, ho, e, this]) (Rv.lift z)
    · cases h
  · cases h
theorem op_makeInterface {t : TypeId} {x : Operand} (hi : Inv N ι σ w) (hr : Rv ι (ρ x) (r x)) (ho : o.op = .makeInterface t x) (h : evOp P ro ρ o σ = some out) : OutOk P ro N ι w σ r o out := by
  unfold evOp at h; rw [ho] at h; simp only at h
  split at h
  · cases h
  · rename_i d hd hu
    obtain rfl := ret_val h
    refine OutOk.same hi (u := .iface t (r x)) ?_ (.ifc _ _ _ hr)
    simp only [execOp, ho, Instr.makeInterface, Sem.run_bind, run_und hu, Result.andThen_ok]
    cases d <;> first | rfl | (exact absurd rfl (hd _))
  · cases h
theorem op_makeFunc {f : Fn} {first cap : Array Operand} (hi : Inv N ι σ w) (hr : ∀ x ∈ first ++ cap, Rv ι (ρ x) (r x)) (ho : o.op = .makeFunc f first cap) (h : evOp P ro ρ o σ = some out) : OutOk P ro N ι w σ r o out := by
  unfold evOp at h; rw [ho] at h; simp only at h
  obtain rfl := ret_val h
  have h1 : RvL ι (first.toList.map ρ) (first.toList.map r) := RvL.of_map fun a ha => hr a (by simp at ha ⊢; exact .inl ha)
  have h2 : RvL ι (cap.toList.map ρ) (cap.toList.map r) := RvL.of_map fun a ha => hr a (by simp at ha ⊢; exact .inr ha)
  refine OutOk.same hi (u := .func f (first.toList.map r).toArray (cap.toList.map r).toArray) ?_ (.fn _ _ _ _ _ h1.1 h1.2 h2.1 h2.2)
  simp only [execOp, ho, Instr.makeFunc, Sem.run_bind, Sem.run_pure, Result.andThen_ok]
  congr 3 <;> (apply Array.ext'; simp)
theorem op_extract {x : Operand} {i : Nat} (hi : Inv N ι σ w) (hr : Rv ι (ρ x) (r x)) (ho : o.op = .extract x i) (h : evOp P ro ρ o σ = some out) : OutOk P ro N ι w σ r o out := by
  unfold evOp at h; rw [ho] at h; simp only at h
  split at h
  · rename_i vs hx
    split at h
    · rename_i v hv
      obtain rfl := ret_val h
      rw [hx] at hr
      generalize hq : r x = q at hr
      cases hr with
      | tup _ us hl hh =>
        obtain ⟨u, hu, hru⟩ := RvL.get ⟨hl, hh⟩ hv
        exact OutOk.same hi (u := u) (by simp [execOp, ho, Instr.extract, hq, hu]) hru
    · cases h
  · rename_i vs hx
    split at h
    · rename_i v hv
      obtain rfl := ret_val h
      have e := rv_raw hx hr
      exact OutOk.same hi (u := v) (by simp [execOp, ho, Instr.extract, e, hv]) (.raw _)
    · cases h
  · cases h
theorem Inv.newMap (hi : Inv N ι σ w) (hN : σ.n < N) :
    Inv N (updI ι σ.n 0 ⟨w.heap.size, 1, 1⟩) (σ.add (.map [] 0)) { w with heap := w.heap.push (.map #[] 0) } ∧
    Le ro ι w σ (updI ι σ.n 0 ⟨w.heap.size, 1, 1⟩) { w with heap := w.heap.push (.map #[] 0) } (σ.add (.map [] 0)) := by
  refine hi.add hN rfl rfl rfl rfl rfl ⟨_, #[], updI_self _ _ _ _, by simp, by simp, fun i e r h => by simp at h⟩
theorem op_makeMap {t : TypeId} {x : Option Operand} (hi : Inv N ι σ w) (hr : ∀ y ∈ x.toArray, Rv ι (ρ y) (r y)) (ho : o.op = .makeMap t x) (h : evOp P ro ρ o σ = some out) : OutOk P ro N ι w σ r o out := by
  unfold evOp at h; rw [ho] at h; simp only at h
  have key : out = .val (.map σ.n) (σ.add (.map [] 0)) → (execOp r o).run P w = .ok (.value (.map (some w.heap.size))) { w with heap := w.heap.push (.map #[] 0) } → OutOk P ro N ι w σ r o out := by
    intro h1 h2
    subst h1
    intro hN
    obtain ⟨h3, h4⟩ := hi.newMap (ro := ro) (by simp at hN; omega)
    exact ⟨_, _, _, .inl h2, .map _ _ (updI_self _ _ _ _), h3, h4⟩
  split at h
  · exact key (ret_val h) (by simp [execOp, ho, Instr.makeMap])
  · rename_i y
    split at h
    · rename_i hu hx
      have e := rv_raw hx (hr _ (by simp))
      exact key (ret_val h) (by simp [execOp, ho, Instr.makeMap, run_und hu, e, asInt, asIntOf])
    · cases h
theorem op_fieldAddr {s : TypeId} {x : Operand} {f : Nat} (hi : Inv N ι σ w) (hr : Rv ι (ρ x) (r x)) (ho : o.op = .fieldAddr s x f) (h : evOp P ro ρ o σ = some out) : OutOk P ro N ι w σ r o out := by
  unfold evOp at h; rw [ho] at h; simp only at h
  split at h
  · rename_i fields hu
    split at h
    · rename_i fd hf
      split at h
      · rename_i sz id off ep ext hs hx
        split at h
        · rename_i hc
          obtain rfl := ret_val h
          rw [hx] at hr
          generalize hq : r x = q at hr
          cases hr with
          | ptr _ _ _ _ l hl hle =>
            refine OutOk.same hi (u := .pointer (some ⟨l.b, off + fd.offset, none⟩)) ?_ (.ptr _ _ _ _ l hl (by omega))
            simp [execOp, ho, Instr.fieldAt, run_und hu, hf, Instr.sureAddr, hq, fieldPlace, run_size hs, hc.1, add_none]
        · cases h
      · rename_i sz cs hs hx
        split at h
        · rename_i hc
          obtain rfl := ret_val h
          rw [hx] at hr
          generalize hq : r x = q at hr
          cases hr with
          | tptr _ b off us hu' hh =>
            refine OutOk.same hi (u := .pointer (some ⟨b, off + fd.offset, none⟩)) ?_ (.tptr _ _ _ (fun k => us (fd.offset + k)) (fun k hk => ?_) (fun j c hj => ?_))
            · simp [execOp, ho, Instr.fieldAt, run_und hu, hf, Instr.sureAddr, hq, fieldPlace, run_size hs, hc.1, add_none]
            · simp at hk
              rw [show off + fd.offset + k = off + (fd.offset + k) by omega]
              exact hu' _ (by omega)
            · rw [List.getElem?_take] at hj
              split at hj
              · exact hh _ c (by simpa using hj)
              · cases hj
        · cases h
      · cases h
    · cases h
  · cases h
theorem op_field {t : TypeId} {x : Operand} {f : Nat} (hi : Inv N ι σ w) (hr : Rv ι (ρ x) (r x)) (ho : o.op = .field t x f) (h : evOp P ro ρ o σ = some out) : OutOk P ro N ι w σ r o out := by
  unfold evOp at h; rw [ho] at h; simp only at h
  split at h
  · rename_i fields cs hu hx
    split at h
    · rename_i fd hf
      split at h
      · rename_i v hp
        obtain rfl := ret_val h
        rw [hx] at hr
        generalize hq : r x = q at hr
        cases hr with
        | agg _ us hl hh =>
          obtain ⟨u, h1, h2⟩ := run_part hp ⟨hl, hh⟩ w
          exact OutOk.same hi (u := u) (by simp [execOp, ho, Instr.field, run_und hu, hf, asAgg, hq, h1]) h2
      · cases h
    · cases h
  · cases h
theorem op_indexAddr {t : TypeId} {x ix : Operand} (hi : Inv N ι σ w) (hr : Rv ι (ρ x) (r x)) (hrx : Rv ι (ρ ix) (r ix)) (ho : o.op = .indexAddr t x ix) (h : evOp P ro ρ o σ = some out) : OutOk P ro N ι w σ r o out := by
  unfold evOp at h; rw [ho] at h; simp only at h
  split at h
  · rename_i elem k i hu hix
    have ei := rv_raw hix hrx
    split at h
    · rename_i id off len cap ep s hx
      split at h
      · rename_i hc
        obtain ⟨hs, h0, hlt⟩ := hc
        obtain rfl := ret_val h
        rw [hx] at hr
        generalize hq : r x = q at hr
        have hn : i.toNat < len := by omega
        have hmul : i.toNat * s + s ≤ len * s := by
          have : (i.toNat + 1) * s ≤ len * s := Nat.mul_le_mul_right s hn
          rw [Nat.add_mul] at this; omega
        cases hr with
        | sl _ _ _ _ _ _ l c a hl hle hlim hs0 hlc hcap ha =>
          have hmul2 : len * s ≤ c * s := Nat.mul_le_mul_right s hlc
          refine OutOk.same hi (u := .pointer (some ⟨l.b, off + i.toNat * s, none⟩)) ?_ (.ptr _ _ _ _ l hl (by omega))
          have ea := ha (by omega)
          subst ea
          simp [execOp, ho, Instr.indexAt, ei, asIntOf, run_und hu, hq, h0, hlt, run_size hs, add_none]
      · cases h
    · rename_i s es hx
      split at h
      · rename_i hc
        obtain ⟨hs, h0⟩ := hc
        split at h
        · rename_i e he
          split at h
          · rename_i hce
            obtain rfl := ret_val h
            rw [hx] at hr
            generalize hq : r x = q at hr
            have hlt := (List.getElem?_eq_some_iff.1 he).1
            have hlt' : i < es.length := by omega
            have hmul : i.toNat * s + s ≤ es.length * s := by
              have : (i.toNat + 1) * s ≤ es.length * s := Nat.mul_le_mul_right s hlt
              rw [Nat.add_mul] at this; omega
            cases hr with
            | tree _ _ b off c us hs0 hc hcs hu' hh =>
              refine OutOk.same hi (u := .pointer (some ⟨b, off + i.toNat * s, none⟩)) ?_ (.tptr _ _ _ (fun k => us (i.toNat * s + k)) (fun k hk => ?_) (fun j c hj => hh _ _ _ _ he hj))
              · simp [execOp, ho, Instr.indexAt, ei, asIntOf, run_und hu, hq, h0, hlt', run_size hs, add_none]
              · rw [show off + i.toNat * s + k = off + (i.toNat * s + k) by omega]
                exact hu' _ (by omega)
            | treeE => simp at hlt
          · cases h
        · cases h
      · cases h
    · cases h
  · rename_i n elem k i hu hix
    have ei := rv_raw hix hrx
    split at h
    · rename_i id off ep ext s hx hs
      split at h
      · rename_i hc
        obtain ⟨hs0, h0, hlt, hle'⟩ := hc
        obtain rfl := ret_val h
        rw [hx] at hr
        generalize hq : r x = q at hr
        cases hr with
        | ptr _ _ _ _ l hl hle =>
          refine OutOk.same hi (u := .pointer (some ⟨l.b, off + i.toNat * s, none⟩)) ?_ (.ptr _ _ _ _ l hl (by omega))
          simp [execOp, ho, Instr.indexAt, ei, asIntOf, run_und hu, hq, Instr.sureAddr, h0, hlt, run_size hs, add_none]
      · cases h
    · cases h
  · cases h
theorem op_index {t : TypeId} {x ix : Operand} (hi : Inv N ι σ w) (hr : Rv ι (ρ x) (r x)) (hrx : Rv ι (ρ ix) (r ix)) (ho : o.op = .index t x ix) (h : evOp P ro ρ o σ = some out) : OutOk P ro N ι w σ r o out := by
  unfold evOp at h; rw [ho] at h; simp only at h
  split at h
  · rename_i s k i hu hx hix
    have ei := rv_raw hix hrx
    have ex := rv_raw hx hr
    split at h
    · rename_i h0
      split at h
      · rename_i b hb
        obtain rfl := ret_val h
        refine OutOk.same hi (u := .int .u8 b.toNat) ?_ (.raw _)
        have hb' : s[i.toNat]? = some b := by
          obtain ⟨hlt, he⟩ := List.getElem?_eq_some_iff.1 hb
          have hlt' : i.toNat < s.size := by simpa using hlt
          rw [getElem?_pos s i.toNat hlt']
          simpa [ByteArray.getElem_eq_getElem_data] using he
        simp [execOp, ho, Instr.index, ei, ex, asIntOf, run_und hu, h0, hb']
      · cases h
    · cases h
  · rename_i n elem cs k i hu hx hix
    have ei := rv_raw hix hrx
    split at h
    · rename_i s hs
      split at h
      · rename_i hc
        split at h
        · rename_i v hp
          obtain rfl := ret_val h
          rw [hx] at hr
          generalize hq : r x = q at hr
          cases hr with
          | agg _ us hl hh =>
            obtain ⟨u, h1, h2⟩ := run_part hp ⟨hl, hh⟩ w
            exact OutOk.same hi (u := u) (by simp [execOp, ho, Instr.index, ei, hq, asIntOf, run_und hu, hc.1, hc.2, run_size hs, h1]) h2
        · cases h
      · cases h
    · cases h
  · cases h
end Go.Ev
namespace Go.Ev
variable {P : Program} {N ro : Nat} {ι : Io} {w : World} {σ : St} {ρ : Operand → IV} {r : Operand → Value} {o : Oper} {out : OpOut}
theorem range_cycle (l : List Value) (s : Nat) (hl : l.length = s) : ∀ n, (List.range (n * s)).map (fun i => l[i % s]!) = (List.replicate n l).flatten
  | 0 => by simp
  | n + 1 => by
    rw [Nat.add_mul, Nat.one_mul, List.range_add, List.map_append, range_cycle l s hl n, List.replicate_succ', List.flatten_append]
    congr 1
    simp only [List.flatten_cons, List.flatten_nil, List.append_nil, List.map_map]
    apply List.ext_getElem?
    intro i
    by_cases hi : i < s
    · have h1 : (n * s + i) % s = i := by rw [Nat.mul_comm, Nat.mul_add_mod, Nat.mod_eq_of_lt hi]
      simp [hi, h1, hl]
    · rw [List.getElem?_eq_none (by simp; omega), List.getElem?_eq_none (by omega)]
theorem cycle_raw (l : List Value) (s n : Nat) (hl : l.length = s) (hs : s ≠ 0) : cycle (l.map .raw) (n * s) = ((List.replicate n l).flatten).map .raw := by
  unfold cycle
  split
  · rename_i z hz
    cases l with
    | nil => simp at hz
    | cons a l =>
      cases l with
      | nil =>
        simp only [List.map_cons, List.map_nil, List.cons.injEq, and_true] at hz
        subst hz
        have hs1 : s = 1 := by simpa using hl.symm
        subst hs1
        rw [Nat.mul_one]
        clear hl hs
        induction n with
        | zero => rfl
        | succ n ih => rw [List.replicate_succ, List.replicate_succ, List.flatten_cons, ih]; rfl
      | cons b l => simp at hz
  · rw [List.length_map, hl, Nat.mul_div_cancel _ (by omega), List.map_flatten]
    simp
theorem zero_row (z : Array Value) (s n : Nat) (hz : z.size = s) (hs : s ≠ 0) : (Array.range (n * s)).map (fun i => z[i % z.size]!) = (((List.replicate n z.toList).flatten)).toArray := by
  apply Array.ext'
  have := range_cycle z.toList s (by simpa using hz) n
  simp only [Array.toList_map, Array.toList_range, hz]
  rw [← this]
  apply List.map_congr_left
  intro i _
  simp [List.getElem!_eq_getElem?_getD, Array.getElem!_eq_getD]
theorem rvl_cycle (z : Value) (s n : Nat) (hz : z.cells.size = s) (hs : s ≠ 0) : RvL ι (cycle (z.cells.toList.map .raw) (n * s)) ((List.replicate n z.cells.toList).flatten) := by
  rw [cycle_raw _ s n (by simpa using hz) hs]
  exact RvL.raws _
theorem len_cycle (z : Value) (s n : Nat) (hz : z.cells.size = s) : ((List.replicate n z.cells.toList).flatten).length = n * s := by
  simp [hz]
theorem foldl_set (off : Nat) : ∀ (l : List Value) (k : Nat) (A : Array Value) (i : Nat), off + k + l.length ≤ A.size →
    ((l.zipIdx k).foldl (fun cs (x : Value × Nat) => cs.setIfInBounds (off + x.2) x.1) A)[i]? = if off + k ≤ i ∧ i < off + k + l.length then l[i - off - k]? else A[i]?
  | [], k, A, i, _ => by
    have : ¬ (off + k ≤ i ∧ i < off + k + 0) := by omega
    simp
    intro h1 h2; omega
  | v :: l, k, A, i, h => by
    simp only [List.length_cons] at h
    simp only [List.zipIdx_cons, List.foldl_cons]
    rw [foldl_set off l (k + 1) _ i (by simp; omega)]
    by_cases h1 : off + (k + 1) ≤ i ∧ i < off + (k + 1) + l.length
    · rw [if_pos h1, if_pos (by simp; omega)]
      have : i - off - k = (i - off - (k + 1)) + 1 := by omega
      rw [this, List.getElem?_cons_succ]
    · rw [if_neg h1]
      by_cases h2 : i = off + k
      · subst h2
        rw [if_pos (by simp)]
        have : off + k < A.size := by omega
        simp [this]
      · rw [if_neg (by simp; omega), Array.getElem?_setIfInBounds, if_neg (by omega)]
theorem fill_ok {place : Nat → Option (Nat × Nat)} : ∀ {parts : List (Nat × IV)} {parts' : List (Nat × Value)} {cs cs' : List IV} {A : Array Value},
    fillI place cs parts = some cs' → RvL ι cs A.toList → parts.length = parts'.length → (∀ (i : Nat) (p : Nat × IV) (q : Nat × Value), parts[i]? = some p → parts'[i]? = some q → p.1 = q.1 ∧ Rv ι p.2 q.2) →
    ∃ A', Instr.fill place A parts' = some A' ∧ RvL ι cs' A'.toList
  | [], parts', cs, cs', A, h, hr, hl, hp => by
    cases parts' with
    | nil => simp only [fillI, Option.some.injEq] at h; subst h; exact ⟨A, rfl, hr⟩
    | cons p q => simp at hl
  | (i, x) :: rest, parts', cs, cs', A, h, hr, hl, hp => by
    cases parts' with
    | nil => simp at hl
    | cons q rest' =>
      obtain ⟨j, v⟩ := q
      obtain ⟨h1, h2⟩ := hp 0 _ _ rfl rfl
      simp only at h1 h2
      subst h1
      simp only [fillI] at h
      split at h
      · cases h
      · rename_i off size hpl
        split at h
        · rename_i hc
          obtain ⟨hlen, hle, hok⟩ := hc
          have hcells := h2.cells_ok hok
          have hvs : v.cells.size = size := by have := hcells.1; simp at this; omega
          have hAs : cs.length = A.size := by have := hr.1; simpa using this
          have hA : (v.cells.zipIdx.foldl (fun cs (x : Value × Nat) => cs.setIfInBounds (off + x.2) x.1) A).toList = A.toList.take off ++ v.cells.toList ++ A.toList.drop (off + v.cells.toList.length) := by
            apply List.ext_getElem?
            intro k
            have hf := foldl_set off v.cells.toList 0 A k (by simp; omega)
            have e : v.cells.zipIdx.foldl (fun cs (x : Value × Nat) => cs.setIfInBounds (off + x.2) x.1) A = (v.cells.toList.zipIdx 0).foldl (fun cs (x : Value × Nat) => cs.setIfInBounds (off + x.2) x.1) A := by
              rw [← Array.foldl_toList]; simp
            rw [Array.getElem?_toList, e, hf]
            simp only [Nat.add_zero, Nat.sub_zero, Array.length_toList]
            by_cases h3 : k < off
            · rw [if_neg (by omega), List.append_assoc, List.getElem?_append_left (by simp; omega), List.getElem?_take, if_pos h3, Array.getElem?_toList]
            · by_cases h4 : k < off + v.cells.size
              · rw [if_pos (by omega), List.getElem?_append_left (by simp; omega), List.getElem?_append_right (by simp; omega)]
                congr 1; simp; omega
              · rw [if_neg (by omega), List.getElem?_append_right (by simp; omega), List.getElem?_drop, Array.getElem?_toList]
                congr 1; simp; omega
          have hr' := hr.splice off hcells
          rw [← hA] at hr'
          obtain ⟨A', h5, h6⟩ := fill_ok h hr' (by simpa using hl) (fun i p q hp1 hq1 => hp (i + 1) p q hp1 hq1)
          refine ⟨A', ?_, h6⟩
          simp only [Instr.fill, hpl]
          rw [if_neg (by simp; omega)]
          exact h5
        · cases h
theorem parts_ok {parts : Array (Nat × Operand)} (hr : ∀ x ∈ (parts.toList.map (·.2)), Rv ι (ρ x) (r x)) :
    ∀ (i : Nat) (p : Nat × IV) (q : Nat × Value), (parts.toList.map fun (y : Nat × Operand) => (y.1, ρ y.2))[i]? = some p → ((parts.map fun (y : Nat × Operand) => (y.1, r y.2)).toList)[i]? = some q → p.1 = q.1 ∧ Rv ι p.2 q.2 := by
  intro i p q h1 h2
  simp only [List.getElem?_map, Option.map_eq_some_iff, Array.toList_map] at h1 h2
  obtain ⟨a, ha, rfl⟩ := h1
  obtain ⟨b, hb, rfl⟩ := h2
  rw [ha] at hb; cases hb
  exact ⟨rfl, hr _ (List.mem_map.2 ⟨a, List.mem_of_getElem? ha, rfl⟩)⟩
theorem run_places {fields : List Field} (h : ∀ f ∈ fields, (sizeOf? P f.type).isSome = true) :
    (fields.mapM fun f => (do pure (f.offset, ← sizeOf f.type) : Sem (Nat × Nat))).run P w = .ok (fields.map fun f => (f.offset, (sizeOf? P f.type).getD 0)) w := by
  induction fields with
  | nil => rfl
  | cons f fs ih =>
    obtain ⟨s, hs⟩ := Option.isSome_iff_exists.1 (h f (by simp))
    rw [List.mapM_cons]
    simp only [Sem.run_bind, run_size hs, Result.andThen_ok, Sem.run_pure, ih (fun g hg => h g (by simp [hg])), List.map_cons, hs, Option.getD_some]
theorem op_build {t : TypeId} {parts : Array (Nat × Operand)} (hi : Inv N ι σ w) (hr : ∀ x ∈ (parts.toList.map (·.2)), Rv ι (ρ x) (r x)) (ho : o.op = .build t parts) (h : evOp P ro ρ o σ = some out) :
    OutOk P ro N ι w σ r o out := by
  unfold evOp at h; rw [ho] at h; simp only at h
  split at h
  · rename_i z fields hz hu
    split at h
    · rename_i cs hf
      split at h
      · rename_i hall
        obtain rfl := ret_val h
        obtain ⟨A', h1, h2⟩ := fill_ok (ι := ι) hf (A := z.cells) (RvL.raws _) (by simp) (parts_ok hr)
        refine OutOk.same hi (u := .agg A') ?_ ?_
        · have hp := run_places (P := P) (w := w) (fields := fields.toList) (fun f hf => Array.all_eq_true_iff_forall_mem.1 hall f (by simpa using hf))
          have hpl : (fields.mapM fun f => (do pure (f.offset, ← sizeOf f.type) : Sem (Nat × Nat))).run P w = .ok (fields.map fun f => (f.offset, (sizeOf? P f.type).getD 0)) w := by
            rw [Array.mapM_eq_mapM_toList, Sem.run_map, hp]
            simp only [Result.andThen_ok]
            congr 1
            apply Array.ext'
            simp
          have hplace : (fun (i : Nat) => (fields.map fun (f : Field) => (f.offset, (sizeOf? P f.type).getD 0))[i]?) = (fun (i : Nat) => (fields[i]?).bind fun (f : Field) => (sizeOf? P f.type).map fun s => (f.offset, s)) := by
            funext i
            rw [Array.getElem?_map]
            cases hfi : fields[i]? with
            | none => rfl
            | some f =>
              obtain ⟨s, hs⟩ := Option.isSome_iff_exists.1 (Array.all_eq_true_iff_forall_mem.1 hall f (Array.mem_of_getElem? hfi))
              simp [hs]
          rw [← hplace] at h1
          simp only [execOp, ho, Instr.build, Sem.run_bind, run_zero hz, run_und hu, hpl, Result.andThen_ok, h1, Sem.run_pure]
        · have := Rv.agg (ι := ι) cs A'.toList h2.1 h2.2
          simpa using this
      · cases h
    · cases h
  · rename_i z n elem hz hu
    split at h
    · rename_i s hs
      split at h
      · rename_i cs hf
        obtain rfl := ret_val h
        obtain ⟨A', h1, h2⟩ := fill_ok (ι := ι) hf (A := z.cells) (RvL.raws _) (by simp) (parts_ok hr)
        refine OutOk.same hi (u := .agg A') ?_ ?_
        · simp only [execOp, ho, Instr.build, Sem.run_bind, run_zero hz, run_und hu, run_size hs, Result.andThen_ok, h1, Sem.run_pure]
        · have := Rv.agg (ι := ι) cs A'.toList h2.1 h2.2
          simpa using this
      · cases h
    · cases h
  · cases h
theorem op_buildSlice {t : TypeId} {len : Nat} {parts : Array (Nat × Operand)} (hi : Inv N ι σ w) (hr : ∀ x ∈ (parts.toList.map (·.2)), Rv ι (ρ x) (r x)) (ho : o.op = .buildSlice t len parts)
    (h : evOp P ro ρ o σ = some out) : OutOk P ro N ι w σ r o out := by
  unfold evOp at h; rw [ho] at h; simp only at h
  split at h
  · rename_i elem hu
    split at h
    · rename_i s z hs hz
      split at h
      · cases h
      · rename_i hc
        have hs0 : s ≠ 0 := fun e => hc (.inl e)
        have hzs : z.cells.size = s := Classical.byContradiction fun e => hc (.inr (.inl e))
        have hbig : len * s ≤ 2 ^ 20 := by
          have : ¬ len * s > 2 ^ 20 := fun e => hc (.inr (.inr e))
          omega
        split at h
        · rename_i cs hf
          split at h
          · rename_i hcs
            obtain ⟨hlen, hok⟩ := hcs
            have hrow0 := zero_row z.cells s len hzs hs0
            obtain ⟨A', h1, h2⟩ := fill_ok (ι := ι) hf (A := ((List.replicate len z.cells.toList).flatten).toArray) (by simpa using rvl_cycle z s len hzs hs0) (by simp) (parts_ok hr)
            have hrun : (execOp r o).run P w = .ok (.value (.slice (some ⟨w.heap.size, 0, none⟩) len len)) { w with heap := w.heap.push (.cells A' elem) } := by
              simp only [execOp, ho, Instr.buildSlice, Sem.run_bind, run_und hu, run_size hs, Result.andThen_ok]
              rw [if_neg (by omega)]
              by_cases h0 : len * s = 0
              · have hl0 : len = 0 := by rcases Nat.mul_eq_zero.1 h0 with h | h; exact h; exact absurd h hs0
                have e0 : Array.range (len * s) = #[] := by rw [h0]; rfl
                have e1 : ((List.replicate len z.cells.toList).flatten).toArray = #[] := by rw [hl0]; rfl
                rw [e1] at h1
                simp only [if_pos h0, Sem.run_pure, Result.andThen_ok, e0, Array.map_empty, h1, newRow, Sem.run_bind, run_newObj]
              · simp only [h0, if_false, Sem.run_bind, run_zero hz, Result.andThen_ok, Sem.run_pure, hrow0, h1]
                simp [newRow]
            split at h
            · rename_i hl0
              obtain rfl := ret_val h
              subst hl0
              intro hN
              obtain ⟨h3, h4⟩ := hi.push (ro := ro) (w' := { w with heap := w.heap.push (.cells A' elem) }) (o := .cells A' elem) rfl rfl rfl rfl
              exact ⟨_, _, _, .inl hrun, .emp _, h3, h4⟩
            · obtain rfl := ret_val h
              intro hN
              have hA : A' = A'.toList.toArray := by simp
              obtain ⟨h3, h4⟩ := hi.newRow (ro := ro) (by simp at hN; omega) h2 elem
              have hAl : cs.length = A'.size := by have := h2.1; simpa using this
              refine ⟨_, _, _, .inl hrun, ?_, by simpa using h3, by simpa using h4⟩
              exact .sl _ _ _ _ _ _ _ _ _ (updI_self _ _ _ _) (by simp; omega) (by simp; omega) (by omega) (Nat.le_refl _) (fun k hk => by cases hk; exact ⟨rfl, by simp; omega⟩) (fun _ => rfl)
          · cases h
        · cases h
    · cases h
  · cases h
theorem op_makeSlice {t : TypeId} {l c : Operand} (hi : Inv N ι σ w) (hrl : Rv ι (ρ l) (r l)) (hrc : Rv ι (ρ c) (r c)) (ho : o.op = .makeSlice t l c)
    (h : evOp P ro ρ o σ = some out) : OutOk P ro N ι w σ r o out := by
  unfold evOp at h; rw [ho] at h; simp only at h
  split at h
  · rename_i elem k1 li k2 ci hu hl hc
    have el := rv_raw hl hrl
    have ec := rv_raw hc hrc
    split at h
    · rename_i s z bytes hs hz hb
      split at h
      · cases h
      · rename_i hcond
        have hs0 : s ≠ 0 := fun e => hcond (.inl e)
        have hzs : z.cells.size = s := Classical.byContradiction fun e => hcond (.inr (.inl e))
        have hlc : 0 ≤ li ∧ li ≤ ci ∧ ci ≤ 1000000 := Classical.byContradiction fun e => hcond (.inr (.inr (.inl e)))
        have hbb : bytes ≤ 1000000 := by
          have : ¬ bytes > 1000000 := fun e => hcond (.inr (.inr (.inr e)))
          omega
        obtain ⟨i, hi', hbi, hti⟩ := run_bytes hb w
        have wl : IntKind.i64.wrap li = li := IntWalk.i64_in _ (by omega)
        have wc : IntKind.i64.wrap ci = ci := IntWalk.i64_in _ (by omega)
        have hrow0 := zero_row z.cells s ci.toNat hzs hs0
        have c1 : ¬ ci < 0 := by omega
        have c2 : ¬ (2 ^ 48 : Int) < (i.bytes : Int) * ci := by
          have h1 : (i.bytes : Int) * ci ≤ 1000000 * 1000000 := by
            have hb1 : (i.bytes : Int) ≤ 1000000 := by omega
            exact Int.mul_le_mul hb1 hlc.2.2 (by omega) (by omega)
          omega
        have c3 : ¬ li < 0 := by omega
        have c4 : ¬ ci < li := by omega
        have hrun : (execOp r o).run P w = .ok (.value (.slice (some ⟨w.heap.size, 0, none⟩) li.toNat ci.toNat)) { w with heap := w.heap.push (.cells ((List.replicate ci.toNat z.cells.toList).flatten).toArray elem) } := by
          simp only [execOp, ho, Instr.makeSlice, Sem.run_bind, run_und hu, el, ec, asInt, asIntOf, Sem.run_pure, Result.andThen_ok, hti, wl, wc, gt_iff_lt, c1, c2, c3, c4, decide_false, Bool.or_self, Bool.false_eq_true, if_false, run_askRoom, run_size hs]
          by_cases h0 : ci.toNat * s = 0
          · have hc0 : ci.toNat = 0 := by rcases Nat.mul_eq_zero.1 h0 with h | h; exact h; exact absurd h hs0
            have e0 : Array.range (ci.toNat * s) = #[] := by rw [h0]; rfl
            have e1 : ((List.replicate ci.toNat z.cells.toList).flatten).toArray = #[] := by rw [hc0]; rfl
            simp only [if_pos h0, Sem.run_pure, Result.andThen_ok, e0, e1, Array.map_empty, newRow, Sem.run_bind, run_newObj]
          · simp only [if_neg h0, Sem.run_bind, run_zero hz, Result.andThen_ok, Sem.run_pure, hrow0, newRow, run_newObj]
        split at h
        · rename_i hc0
          obtain rfl := ret_val h
          intro hN
          obtain ⟨h3, h4⟩ := hi.push (ro := ro) (w' := { w with heap := w.heap.push (.cells ((List.replicate ci.toNat z.cells.toList).flatten).toArray elem) }) (o := .cells ((List.replicate ci.toNat z.cells.toList).flatten).toArray elem) rfl rfl rfl rfl
          have hl0 : li = 0 := by omega
          subst hc0 hl0
          exact ⟨_, _, ι, .inl hrun, .emp _, h3, h4⟩
        · obtain rfl := ret_val h
          intro hN
          have h2 := rvl_cycle (ι := ι) z s ci.toNat hzs hs0
          have hlen := len_cycle z s ci.toNat hzs
          obtain ⟨h3, h4⟩ := hi.newRow (ro := ro) (by simp at hN; omega) h2 elem
          refine ⟨_, _, _, .inl hrun, ?_, h3, h4⟩
          have hle : li.toNat * s ≤ ci.toNat * s := Nat.mul_le_mul_right s (by omega)
          exact .sl _ _ _ _ _ _ _ _ _ (updI_self _ _ _ _) (by simp only [Nat.zero_add]; rw [h2.1, hlen]; exact hle) (by simp only [Nat.zero_add]; rw [hlen]; exact Nat.le_refl _) (by omega) (by omega) (fun k hk => by cases hk; exact ⟨rfl, by simp only [Nat.zero_add]; rw [h2.1, hlen]; exact Nat.le_refl _⟩) (fun _ => rfl)
    · cases h
  · cases h
end Go.Ev
