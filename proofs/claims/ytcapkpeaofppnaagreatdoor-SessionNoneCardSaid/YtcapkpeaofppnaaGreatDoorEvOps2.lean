/- A part of the verified evaluator of closed runs (EvOps2): lemmas and definitions over the model, without conditions of their own. -/
import Derived.Test.YtcapkpeaofppnaaGreatDoorEvOps1
import Derived.Lib.Strings
namespace Go.Ev
variable {P : Program} {N ro : Nat} {ι : Io} {w : World} {σ : St} {ρ : Operand → IV} {r : Operand → Value} {o : Oper} {out : OpOut}

theorem setRow_heap_ne (w : World) (g : Nat) (cs : Array Value) (b : Nat) (h : b ≠ g) : (w.setRow g cs).heap[b]? = w.heap[b]? := by
  simp only [World.setRow, Array.getElem?_modify]
  rw [if_neg (by omega)]
theorem setRow_size (w : World) (g : Nat) (cs : Array Value) : (w.setRow g cs).heap.size = w.heap.size := by simp [World.setRow]

theorem oneCell_ok {cs : List IV} {vs : List Value} (hr : RvL ι cs vs) (h : cs.all cellOk = true) : ∀ v ∈ vs, v.oneCell' = true := by
  intro v hv
  obtain ⟨i, hi⟩ := List.mem_iff_getElem?.1 hv
  have hlt : i < cs.length := by have := (List.getElem?_eq_some_iff.1 hi).1; have := hr.1; omega
  have hc := hr.2 i cs[i] v (List.getElem?_eq_getElem hlt) hi
  have hk := cellOk_ok hc (List.all_eq_true.1 h _ (List.getElem_mem hlt))
  cases v <;> first | rfl | exact absurd rfl (hk.1 _) | exact absurd rfl (hk.2 _)

theorem splice_take (A : List Value) (n off : Nat) (vals : List Value) (h1 : off + vals.length ≤ n) (h2 : n ≤ A.length) (k : Nat) (hk : k < n) :
    (A.take off ++ vals ++ A.drop (off + vals.length))[k]? = ((A.take n).take off ++ vals ++ (A.take n).drop (off + vals.length))[k]? := by
  have e1 : (A.take n).take off = A.take off := by rw [List.take_take, Nat.min_eq_left (by omega)]
  have e2 : A.drop (off + vals.length) = (A.take n).drop (off + vals.length) ++ A.drop n := by
    have hA : A = A.take n ++ A.drop n := (List.take_append_drop n A).symm
    have hl : (A.take n).length = n := by rw [List.length_take]; omega
    have := List.drop_append_of_le_length (l₁ := A.take n) (l₂ := A.drop n) (i := off + vals.length) (by omega)
    rw [← hA] at this
    exact this
  rw [e1, e2, ← List.append_assoc]
  refine List.getElem?_append_left ?_
  simp only [List.length_append, List.length_take, List.length_drop]
  omega

/-- Cells written into an object at its present epoch. -/
theorem Inv.write (hi : Inv N ι σ w) {id off cep mn : Nat} {cs new : List IV} {vals : List Value} (hat : σ.at id = some (.cells cs cep mn)) (hro : ro ≤ id) (hoff : off + new.length ≤ cs.length)
    (hr : RvL ι new vals) : ∃ l c el, ι id cep = some l ∧ w.heap[l.b]? = some (.cells c el (0, 0)) ∧ off + vals.length ≤ c.size ∧
      Inv N ι (σ.put id (.cells (splice cs off new) cep cep)) (w.setRow l.b (c.toList.take off ++ vals ++ c.toList.drop (off + vals.length)).toArray) ∧
      Le ro ι w σ ι (w.setRow l.b (c.toList.take off ++ vals ++ c.toList.drop (off + vals.length)).toArray) (σ.put id (.cells (splice cs off new) cep cep)) := by
  have hob := hi.obj id _ hat
  obtain ⟨hmn, ⟨l0, hl0, hn0⟩, _⟩ := hob
  obtain ⟨l, c, el, hl, hn, hsz, hc, hlim, hrow⟩ := obj_row (hi.obj id _ hat) hmn.1 (Nat.le_refl _)
  obtain rfl : l = l0 := by rw [hl] at hl0; exact Option.some.inj hl0
  have hvl := hr.1
  have hlt : off + vals.length ≤ c.size := by omega
  refine ⟨l, c, el, hl, hc, hlt, ?_⟩
  refine hi.put hat hro ⟨_, _, hl⟩ (Ext.refl _) (fun _ _ _ => rfl) (fun b hb => .inl hb) (by rw [setRow_size]; exact Nat.le_refl _) (fun b _ hno => setRow_heap_ne _ _ _ _ ?_) rfl rfl rfl ?_
  · intro e; subst e; exact hno ⟨_, _, hl, rfl⟩
  · refine ⟨⟨Nat.le_refl _, hmn.2⟩, ⟨l, hl, by simp [splice, hn0]; omega⟩, fun e he he' => ?_⟩
    obtain rfl : e = cep := by omega
    refine ⟨l, _, el, hl, by simp [splice]; omega, setRow_heap w l.b c _ el _ hc, by simp; omega, fun k x hk hx => ?_⟩
    rw [hn0, List.take_length] at hrow
    have hc0 : cs.length ≤ c.toList.length := by simp; omega
    have hrow' : RvL ι (splice cs off new) ((c.toList.take cs.length).take off ++ vals ++ (c.toList.take cs.length).drop (off + vals.length)) := hrow.splice off hr
    obtain ⟨u, hu, hru⟩ := hrow'.get hx
    refine ⟨u, ?_, hru⟩
    simp only [List.getElem?_toArray]
    rw [← hu]
    exact splice_take c.toList cs.length off vals (by omega) hc0 k (by omega)

theorem run_store_cells {l : Loc} {c : Array Value} {el : TypeId} {off : Nat} {vals : List Value} (hc : w.heap[l.b]? = some (.cells c el (0, 0))) (hlt : off + vals.length ≤ c.size) (h1 : ∀ v ∈ vals, v.oneCell' = true) :
    (storeCells ⟨l.b, off, none⟩ vals).run P w = .ok () (w.setRow l.b (c.toList.take off ++ vals ++ c.toList.drop (off + vals.length)).toArray) := by
  have := run_storeCells_at (P := P) l.b off el vals 0 c w hc (by omega) h1
  simpa using this

theorem op_store {t : TypeId} {a x : Operand} (hi : Inv N ι σ w) (ha : Rv ι (ρ a) (r a)) (hx : Rv ι (ρ x) (r x)) (ho : o.op = .store t a x) (h : evOp P ro ρ o σ = some out) : OutOk P ro N ι w σ r o out := by
  unfold evOp at h; rw [ho] at h; simp only at h
  split at h
  · rename_i id off ep ext hp
    rw [hp] at ha
    split at h
    · rename_i s cs cep mn hs hat
      split at h
      · rename_i hc
        obtain ⟨hro, hlen, hext, hep, hoff, hok⟩ := hc
        obtain rfl := ret_val h
        intro hN
        subst hep
        have hcells := hx.cells_ok hok
        obtain ⟨l, c, el, hl, hcb, hlt, h1, h2⟩ := hi.write (ro := ro) hat hro (by rw [hlen]; exact hoff) hcells
        generalize hq : r a = q at ha
        cases ha with
        | ptr _ _ _ _ l' hl' hx' =>
          rw [hl] at hl'; cases hl'
          refine ⟨Go.undef, _, _, .inr ⟨?_, rfl⟩, .raw _, h1, h2⟩
          have hsz : (r x).cells.size = s := by have := hcells.1; simp at this; omega
          simp [execOp, ho, Instr.storeAt, Instr.sureAddr, hq, storeVar, run_size hs, hsz, run_store_cells (P := P) hcb hlt (oneCell_ok hcells hok)]
      · cases h
    · cases h
  · cases h

theorem op_nilCheck {x : Operand} (hi : Inv N ι σ w) (hr : Rv ι (ρ x) (r x)) (ho : o.op = .nilCheck x) (h : evOp P ro ρ o σ = some out) : OutOk P ro N ι w σ r o out := by
  unfold evOp at h; rw [ho] at h; simp only at h
  split at h
  all_goals first | (cases h; done) | skip
  all_goals
    rename_i hx
    rw [hx] at hr
    obtain rfl := ret_val h
    generalize hq : r x = q at hr
    refine OutOk.same hi (u := q) ?_ hr
    cases hr <;> simp [execOp, ho, hq]

theorem eval_bin {op : BinOp} {t yT : TypeId} {x y : Operand} (ho : o.op = .binOp op t x y yT) {v : Value} (h : (do eqGuard op t x y (r x) (r y); binOp op t (r x) (r y) : Sem Value).run P w = .ok v w) :
    (execOp r o).run P w = .ok (.value v) w := by
  simp only [execOp, ho, Sem.run_bind] at h ⊢
  rw [h]; rfl

theorem toList_eq (s : ByteArray) : s.toList = s.data.toList := Lib.toList_data s

theorem nilEq1_eq {t : TypeId} {a b : IV} {u v : Value} (d : Nat) (h : nilEq1 P t a b = true) (ha : Rv ι a u) (hb : Rv ι b v) :
    ((Op.equalIn (d + 1) t u v).run P w = .ok false w) ∧ ((Op.equalIn (d + 1) t v u).run P w = .ok false w) := by
  unfold nilEq1 at h
  split at h
  all_goals first | (cases h; done) | skip
  all_goals
    split at h
    · rename_i hu
      cases ha
      cases hb
      refine ⟨?_, ?_⟩ <;> simp only [Op.equalIn, Sem.run_bind, run_und hu, Result.andThen_ok] <;> rfl
    · cases h
theorem bin_of_equal {t : TypeId} {u v : Value} {c : Bool} (he : (Op.equalIn (9999 + 1) t u v).run P w = .ok c w) :
    (do pure (.bool (← Op.equal t u v)) : Sem Value).run P w = .ok (.bool c) w ∧ (do pure (.bool (!(← Op.equal t u v))) : Sem Value).run P w = .ok (.bool !c) w := by
  have he' : (Op.equal t u v).run P w = .ok c w := he
  constructor <;> simp only [Sem.run_bind, he', Result.andThen_ok, Sem.run_pure]
theorem nilEq1_ok {t : TypeId} {a b : IV} {u v : Value} {x y : Operand} (h : nilEq1 P t a b = true) (ha : Rv ι a u) (hb : Rv ι b v) :
    ((∀ op, (eqGuard op t x y u v).run P w = .ok () w) ∧ (Go.binOp .eql t u v).run P w = .ok (.bool false) w ∧ (Go.binOp .neq t u v).run P w = .ok (.bool true) w) ∧
    ((∀ op, (eqGuard op t x y v u).run P w = .ok () w) ∧ (Go.binOp .eql t v u).run P w = .ok (.bool false) w ∧ (Go.binOp .neq t v u).run P w = .ok (.bool true) w) := by
  have h1 := nilEq1_eq (w := w) 9999 h ha hb
  have h2 := bin_of_equal h1.1
  have h3 := bin_of_equal h1.2
  unfold nilEq1 at h
  split at h
  all_goals first | (cases h; done) | skip
  all_goals
    cases ha
    cases hb
    exact ⟨⟨fun op => by cases op <;> rfl, h2.1, h2.2⟩, ⟨fun op => by cases op <;> rfl, h3.1, h3.2⟩⟩
theorem nilEq_ok {t : TypeId} {a b : IV} {u v : Value} {x y : Operand} (h : nilEq P t a b = true) (ha : Rv ι a u) (hb : Rv ι b v) :
    (∀ op, (eqGuard op t x y u v).run P w = .ok () w) ∧ (Go.binOp .eql t u v).run P w = .ok (.bool false) w ∧ (Go.binOp .neq t u v).run P w = .ok (.bool true) w := by
  unfold nilEq at h
  rw [Bool.or_eq_true] at h
  rcases h with h | h
  · exact (nilEq1_ok (w := w) (x := x) (y := y) h ha hb).1
  · exact (nilEq1_ok (w := w) (x := x) (y := y) h hb ha).2
theorem ptrEq_ok {t : TypeId} {a b : IV} {u v : Value} {x y : Operand} {c : Bool} (h : ptrEq P t a b = some c) (ha : Rv ι a u) (hb : Rv ι b v) :
    (∀ op, (eqGuard op t x y u v).run P w = .ok () w) ∧ (Go.binOp .eql t u v).run P w = .ok (.bool c) w ∧ (Go.binOp .neq t u v).run P w = .ok (.bool !c) w := by
  unfold ptrEq at h
  split at h
  · rename_i i off e x1 j off' f y1
    split at h
    · rename_i el hu
      split at h
      · rename_i s hs
        split at h
        · rename_i hc
          obtain ⟨rfl, rfl, h0⟩ := hc
          cases h
          cases ha with
          | ptr _ off _ _ l hl _ =>
            cases hb with
            | ptr _ off' _ _ l' hl' _ =>
              rw [hl] at hl'; cases hl'
              have he : ∀ d, (Op.equalIn (d + 1) t (.pointer (some ⟨l.b, off, none⟩)) (.pointer (some ⟨l.b, off', none⟩))).run P w = .ok (off == off') w := by
                intro d
                simp only [Op.equalIn, Sem.run_bind, run_und hu, Result.andThen_ok, run_size hs, ne_eq, h0, not_false_eq_true, if_true, sameAddr, beq_self_eq_true]
                by_cases hh : off = off'
                · subst hh; simp
                · have : ((⟨l.b, off, none⟩ : Addr) == ⟨l.b, off', none⟩) = false := by simp [hh]
                  simp [this, hh]
              have h2 := bin_of_equal (he 9999)
              exact ⟨fun op => by cases op <;> rfl, h2.1, h2.2⟩
        · cases h
      · cases h
    · cases h
  · cases h

theorem op_bin {op : BinOp} {t yT : TypeId} {x y : Operand} (hi : Inv N ι σ w) (hx : Rv ι (ρ x) (r x)) (hy : Rv ι (ρ y) (r y)) (ho : o.op = .binOp op t x y yT) (h : evOp P ro ρ o σ = some out) :
    OutOk P ro N ι w σ r o out := by
  unfold evOp at h; rw [ho] at h; simp only at h
  split at h
  · rename_i v hv
    obtain rfl := ret_val h
    suffices hs : ∃ u, (do eqGuard op t x y (r x) (r y); binOp op t (r x) (r y) : Sem Value).run P w = .ok u w ∧ Rv ι v u by
      obtain ⟨u, h1, h2⟩ := hs
      exact OutOk.same hi (eval_bin ho h1) h2
    generalize hrx : r x = a at hx
    generalize hry : r y = b at hy
    generalize hix : ρ x = ix at hx hv
    generalize hiy : ρ y = iy at hy hv
    unfold binI at hv
    have strs : ∀ (s u : ByteArray), ix = .raw (.string s) → iy = .raw (.string u) → a = .string s ∧ b = .string u := by
      intro s u h1 h2; subst h1 h2; cases hx; cases hy; exact ⟨rfl, rfl⟩
    split at hv
    · rename_i s u; obtain ⟨rfl, rfl⟩ := strs s u rfl rfl; cases hv
      exact ⟨_, by simp [eqGuard, Go.binOp, Op.stringOp, toList_eq], .raw _⟩
    · rename_i s u; obtain ⟨rfl, rfl⟩ := strs s u rfl rfl; cases hv
      exact ⟨_, by simp [eqGuard, Go.binOp, Op.stringOp, toList_eq], .raw _⟩
    · rename_i s u; obtain ⟨rfl, rfl⟩ := strs s u rfl rfl; cases hv
      exact ⟨_, by simp [eqGuard, Go.binOp, Op.stringOp, toList_eq], .raw _⟩
    · rename_i s u; obtain ⟨rfl, rfl⟩ := strs s u rfl rfl; cases hv
      exact ⟨_, by simp [eqGuard, Go.binOp, Op.stringOp, toList_eq], .raw _⟩
    · rename_i s u; obtain ⟨rfl, rfl⟩ := strs s u rfl rfl; cases hv
      exact ⟨_, by simp [eqGuard, Go.binOp, Op.stringOp, toList_eq], .raw _⟩
    · rename_i s u; obtain ⟨rfl, rfl⟩ := strs s u rfl rfl; cases hv
      exact ⟨_, by simp [eqGuard, Go.binOp, Op.stringOp, toList_eq], .raw _⟩
    · rename_i s u; obtain ⟨rfl, rfl⟩ := strs s u rfl rfl
      split at hv
      · rename_i hsz
        cases hv
        refine ⟨_, ?_, .raw _⟩
        have e : (⟨(s.data.toList ++ u.data.toList).toArray⟩ : ByteArray) = s ++ u := by
          apply ByteArray.ext
          simp
        rw [e]
        have hm : ¬ ((s.size + u.size : Nat) : Int) > IntKind.i64.max := by
          have : IntKind.i64.max = 9223372036854775807 := by decide
          rw [this]; omega
        simp only [eqGuard, Go.binOp, Op.stringOp, if_neg hm]
        simp
      · cases hv
    · split at hv
      · rename_i u1 u2 h1 h2
        rw [toRaw_ok h1 hx, toRaw_ok h2 hy]
        simp only [Option.map_eq_some_iff] at hv
        obtain ⟨z, hz, rfl⟩ := hv
        exact ⟨z, pureRun_run w _ hz, Rv.lift z⟩
      · split at hv
        · rename_i hnil
          obtain ⟨hg, he⟩ := nilEq_ok (w := w) (x := x) (y := y) hnil hx hy
          split at hv
          · cases hv; exact ⟨.bool false, by simp only [Sem.run_bind, hg .eql, Result.andThen_ok, he.1], .raw _⟩
          · cases hv; exact ⟨.bool true, by simp only [Sem.run_bind, hg .neq, Result.andThen_ok, he.2], .raw _⟩
          · cases hv
        · split at hv
          · obtain ⟨hg, he⟩ := ptrEq_ok (w := w) (x := x) (y := y) ‹ptrEq P t ix iy = some _› hx hy
            cases hv; exact ⟨.bool _, by simp only [Sem.run_bind, hg .eql, Result.andThen_ok, he.1], .raw _⟩
          · obtain ⟨hg, he⟩ := ptrEq_ok (w := w) (x := x) (y := y) ‹ptrEq P t ix iy = some _› hx hy
            cases hv; exact ⟨.bool _, by simp only [Sem.run_bind, hg .neq, Result.andThen_ok, he.2], .raw _⟩
          · cases hv
  · cases h
end Go.Ev
