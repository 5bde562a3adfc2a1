/- Lemmas over the model, without conditions of their own: operations of the ideal machine are sound (3). -/
import Derived.Test.YtggffkaadeagbaaGreatEvC
set_option linter.all false
namespace Go.Ev
variable {P : Program} {N ro : Nat} {ι : Io} {w : World} {σ : St} {ρ : Operand → IV} {r : Operand → Value} {o : Oper} {out : OpOut}
theorem pureRun_bind {α β : Type} (x : Sem α) (f : α → Sem β) : pureRun P (x >>= f) = (pureRun P x).bind fun a => pureRun P (f a) := by
  show pureRun P (x.bind f) = _
  induction x with
  | pure a => rfl
  | program k ih => simp only [Sem.bind, pureRun]; exact ih P
  | mark m k ih => simp only [Sem.bind, pureRun]; exact ih
  | _ => rfl
theorem pureRun_bind_some {α β : Type} {x : Sem α} {f : α → Sem β} {b : β} (h : pureRun P (x >>= f) = some b) : ∃ a, pureRun P x = some a ∧ pureRun P (f a) = some b := by
  rw [pureRun_bind] at h
  exact Option.bind_eq_some_iff.1 h
def SameKeys (es es' : List MapEntry) : Prop := es.length = es'.length ∧ ∀ (i : Nat) (e e' : MapEntry), es[i]? = some e → es'[i]? = some e' → e.key = e'.key
theorem SameKeys.tail {e e' : MapEntry} {es es' : List MapEntry} (h : SameKeys (e :: es) (e' :: es')) : e.key = e'.key ∧ SameKeys es es' :=
  ⟨h.2 0 e e' rfl rfl, by simpa using h.1, fun i a b h1 h2 => h.2 (i + 1) a b h1 h2⟩
theorem findNow_keys {kind : TypeDesc} {k : Value} : ∀ {es es' : List MapEntry} (i : Nat) {q : Option (Nat × Value)}, SameKeys es es' → Instr.findNow kind k es i = some q →
    (q = none ∧ Instr.findNow kind k es' i = some none) ∨ (∃ j v e', q = some (j, v) ∧ i ≤ j ∧ es'[j - i]? = some e' ∧ Instr.findNow kind k es' i = some (some (j, e'.val)))
  | [], es', i, q, hk, h => by
    cases es' with
    | nil => simp only [Instr.findNow, Option.some.injEq] at h; subst h; exact .inl ⟨rfl, rfl⟩
    | cons a b => have := hk.1; simp at this
  | e :: es, es', i, q, hk, h => by
    cases es' with
    | nil => have := hk.1; simp at this
    | cons e' es' =>
      obtain ⟨h1, h2⟩ := hk.tail
      simp only [Instr.findNow] at h ⊢
      rw [h1] at h
      split at h
      · rename_i hs
        cases h
        exact .inr ⟨i, _, e', rfl, Nat.le_refl _, by simp, rfl⟩
      · rename_i hs
        rcases findNow_keys (i + 1) h2 h with ⟨h3, h4⟩ | ⟨j, v, e2, h3, h4, h5, h6⟩
        · exact .inl ⟨h3, h4⟩
        · refine .inr ⟨j, v, e2, h3, by omega, ?_, h6⟩
          rw [show j - i = (j - (i + 1)) + 1 by omega, List.getElem?_cons_succ]; exact h5
      · cases h
theorem findNow_none {kind : TypeDesc} {k : Value} : ∀ {es es' : List MapEntry} (i : Nat), SameKeys es es' → Instr.findNow kind k es i = none → Instr.findNow kind k es' i = none
  | [], es', i, hk, h => by simp [Instr.findNow] at h
  | e :: es, es', i, hk, h => by
    cases es' with
    | nil => have := hk.1; simp at this
    | cons e' es' =>
      obtain ⟨h1, h2⟩ := hk.tail
      simp only [Instr.findNow] at h ⊢
      rw [h1] at h
      split at h
      · cases h
      · exact findNow_none (i + 1) h2 h
      · rfl
theorem findAsking_keys {kt : TypeId} {k : Value} : ∀ {es es' : List MapEntry} (i : Nat) {q : Option (Nat × Value)}, SameKeys es es' → pureRun P (Instr.findAsking kt k es i) = some q →
    (q = none ∧ ∀ w, (Instr.findAsking kt k es' i).run P w = .ok none w) ∨ (∃ j v e', q = some (j, v) ∧ i ≤ j ∧ es'[j - i]? = some e' ∧ ∀ w, (Instr.findAsking kt k es' i).run P w = .ok (some (j, e'.val)) w)
  | [], es', i, q, hk, h => by
    cases es' with
    | nil => simp only [Instr.findAsking] at h; cases h; exact .inl ⟨rfl, fun w => rfl⟩
    | cons a b => have := hk.1; simp at this
  | e :: es, es', i, q, hk, h => by
    cases es' with
    | nil => have := hk.1; simp at this
    | cons e' es' =>
      obtain ⟨h1, h2⟩ := hk.tail
      simp only [Instr.findAsking] at h ⊢
      rw [h1] at h
      obtain ⟨b, hb, h⟩ := pureRun_bind_some h
      cases b with
      | true =>
        simp only [if_true] at h
        cases h
        refine .inr ⟨i, _, e', rfl, Nat.le_refl _, by simp, fun w => ?_⟩
        simp only [Sem.run_bind, pureRun_run w _ hb, Result.andThen_ok, if_true, Sem.run_pure]
      | false =>
        simp only [Bool.false_eq_true, if_false] at h
        rcases findAsking_keys (i + 1) h2 h with ⟨h3, h4⟩ | ⟨j, v, e2, h3, h4, h5, h6⟩
        · refine .inl ⟨h3, fun w => ?_⟩
          simp only [Sem.run_bind, pureRun_run w _ hb, Result.andThen_ok, Bool.false_eq_true, if_false, h4]
        · refine .inr ⟨j, v, e2, h3, by omega, ?_, fun w => ?_⟩
          · rw [show j - i = (j - (i + 1)) + 1 by omega, List.getElem?_cons_succ]; exact h5
          · simp only [Sem.run_bind, pureRun_run w _ hb, Result.andThen_ok, Bool.false_eq_true, if_false, h6]
theorem keyAt_ok {empty : Bool} {kt : TypeId} {k : Value} {es : List (Value × IV × Nat)} {res : Array MapEntry} {q : Option Nat} (he : EntRel ι es res) (h : keyAt P empty kt k es = some q) (w : World) :
    (Instr.checkKey empty 10000 kt k).run P w = .ok () w ∧
    ((q = none ∧ (Instr.findKey kt k res.toList).run P w = .ok none w) ∨ (∃ i e rr, q = some i ∧ es[i]? = some e ∧ res[i]? = some rr ∧ (Instr.findKey kt k res.toList).run P w = .ok (some (i, rr.val)) w)) := by
  have hk : SameKeys (es.map fun e => { key := e.1, val := Go.undef, born := e.2.2 }) res.toList := by
    refine ⟨by simp [he.1], fun i a b h1 h2 => ?_⟩
    simp only [List.getElem?_map, Option.map_eq_some_iff] at h1
    obtain ⟨e, h1, rfl⟩ := h1
    exact (he.2 i e b h1 (by simpa using h2)).1.symm
  have fin : ∀ {q' : Option (Nat × Value)}, pureRun P (Instr.findKey kt k (es.map fun e => { key := e.1, val := Go.undef, born := e.2.2 })) = some q' →
      (q' = none ∧ (Instr.findKey kt k res.toList).run P w = .ok none w) ∨ (∃ i v rr, q' = some (i, v) ∧ res[i]? = some rr ∧ (Instr.findKey kt k res.toList).run P w = .ok (some (i, rr.val)) w) := by
    intro q' h
    unfold Instr.findKey at h ⊢
    obtain ⟨d, hd, h⟩ := pureRun_bind_some h
    have hdr := pureRun_run w _ hd
    simp only [Sem.run_bind, hdr, Result.andThen_ok]
    split at h
    · rename_i q2 hq2
      cases h
      rcases findNow_keys 0 hk hq2 with ⟨h3, h4⟩ | ⟨j, v, e2, h3, h4, h5, h6⟩
      · exact .inl ⟨h3, by rw [h4]; rfl⟩
      · exact .inr ⟨j, v, e2, h3, by simpa using h5, by rw [h6]; rfl⟩
    · rename_i hq2
      rw [findNow_none 0 hk hq2]
      rcases findAsking_keys 0 hk h with ⟨h3, h4⟩ | ⟨j, v, e2, h3, h4, h5, h6⟩
      · exact .inl ⟨h3, h4 w⟩
      · exact .inr ⟨j, v, e2, h3, by simpa using h5, h6 w⟩
  unfold keyAt at h
  split at h
  · rename_i i v hp
    cases h
    obtain ⟨_, h1, h2⟩ := pureRun_bind_some hp
    refine ⟨pureRun_run w _ h1, .inr ?_⟩
    rcases fin h2 with ⟨h3, _⟩ | ⟨j, v', rr, h3, h4, h5⟩
    · cases h3
    · cases h3
      have hlt : i < es.length := by have := (Array.getElem?_eq_some_iff.1 h4).1; have := he.1; omega
      exact ⟨i, es[i], rr, rfl, List.getElem?_eq_getElem hlt, h4, h5⟩
  · rename_i hp
    cases h
    obtain ⟨_, h1, h2⟩ := pureRun_bind_some hp
    refine ⟨pureRun_run w _ h1, .inl ⟨rfl, ?_⟩⟩
    rcases fin h2 with ⟨_, h4⟩ | ⟨j, v', rr, h3, h4, h5⟩
    · exact h4
    · cases h3
  · cases h
theorem EntRel.nil : EntRel ι [] #[] := ⟨rfl, fun i e r h => by simp at h⟩
theorem EntRel.isEmpty {es : List (Value × IV × Nat)} {res : Array MapEntry} (h : EntRel ι es res) : es.isEmpty = res.isEmpty := by
  have := h.1
  rw [Bool.eq_iff_iff, List.isEmpty_iff, Array.isEmpty_iff]
  rw [← List.length_eq_zero_iff, ← Array.size_eq_zero_iff, this]
theorem op_lookup {t : TypeId} {x ix : Operand} {ok : Bool} (hi : Inv N ι σ w) (hr : Rv ι (ρ x) (r x)) (hrx : Rv ι (ρ ix) (r ix)) (ho : o.op = .lookup t x ix ok) (h : evOp P ro ρ o σ = some out) : OutOk P ro N ι w σ r o out := by
  unfold evOp at h; rw [ho] at h; simp only at h
  split at h
  · rename_i kt elem es key hu hes hkey
    have hk := toRaw_ok hkey hrx
    have hmap : ∃ res, EntRel ι es res ∧ ((r x = .map none ∧ res = #[]) ∨ ∃ b clock, r x = .map (some b) ∧ w.heap[b]? = some (.map res clock)) := by
      generalize hq : r x = q at hr
      unfold entriesOf at hes
      split at hes
      · rename_i hx
        rw [hx] at hr
        cases hes; cases hr
        exact ⟨#[], EntRel.nil, .inl ⟨rfl, rfl⟩⟩
      · rename_i id hx
        rw [hx] at hr
        split at hes
        · rename_i es' clock hat
          cases hes
          cases hr with
          | map _ l hl =>
            obtain ⟨l', res, hl', hh, he⟩ := hi.obj id _ hat
            rw [hl] at hl'; cases hl'
            exact ⟨res, he, .inr ⟨l.b, clock, rfl, hh⟩⟩
        · cases hes
      · cases hes
    obtain ⟨res, he, hres⟩ := hmap
    split at h
    · rename_i i z hka hz
      split at h
      · rename_i e hei
        obtain rfl := ret_val h
        obtain ⟨hc, hf⟩ := keyAt_ok he hka w
        rcases hf with ⟨hn, _⟩ | ⟨j, e', rr, hj, h1, h2, h3⟩
        · cases hn
        · cases hj
          rw [hei] at h1; cases h1
          obtain ⟨_, hv, _⟩ := he.2 i e rr hei h2
          refine OutOk.same hi (u := if ok then .tuple #[rr.val, .bool true] else rr.val) ?_ ?_
          · rw [he.isEmpty] at hc
            rcases hres with ⟨hx, rfl⟩ | ⟨b, clock, hx, hh⟩
            · simp only [execOp, ho, Instr.lookup, Sem.run_bind, run_und hu, Result.andThen_ok, hx, hk, hc, h3, Sem.run_pure]
            · simp only [execOp, ho, Instr.lookup, Sem.run_bind, run_und hu, Result.andThen_ok, hx, run_getObj (P := P) hh (by simp), hk, hc, h3, Sem.run_pure]
          · cases ok
            · exact hv
            · have := RvL.cons hv (RvL.cons (Rv.raw (ι := ι) (.bool true)) RvL.nil)
              exact .tup _ _ this.1 this.2
      · cases h
    · rename_i z hka hz
      obtain rfl := ret_val h
      obtain ⟨hc, hf⟩ := keyAt_ok he hka w
      rcases hf with ⟨_, h3⟩ | ⟨j, e', rr, hj, h1, h2, h3⟩
      · refine OutOk.same hi (u := if ok then .tuple #[z, .bool false] else z) ?_ ?_
        · rw [he.isEmpty] at hc
          rcases hres with ⟨hx, rfl⟩ | ⟨b, clock, hx, hh⟩
          · simp only [execOp, ho, Instr.lookup, Sem.run_bind, run_und hu, Result.andThen_ok, hx, hk, hc, h3, run_zero hz, Sem.run_pure]
          · simp only [execOp, ho, Instr.lookup, Sem.run_bind, run_und hu, Result.andThen_ok, hx, run_getObj (P := P) hh (by simp), hk, hc, h3, run_zero hz, Sem.run_pure]
        · cases ok
          · exact Rv.lift z
          · have := RvL.cons (Rv.lift (ι := ι) z) (RvL.cons (Rv.raw (ι := ι) (.bool false)) RvL.nil)
            exact .tup _ _ this.1 this.2
      · cases hj
    · cases h
  · cases h
theorem EntRel.set {es : List (Value × IV × Nat)} {res : Array MapEntry} {i : Nat} {e : Value × IV × Nat} {key : Value} {v : IV} {u : Value} {f : MapEntry → MapEntry} (h : EntRel ι es res) (he : es[i]? = some e) (hv : Rv ι v u)
    (hf : ∀ rr, res[i]? = some rr → f rr = { key := key, val := u, born := rr.born }) : EntRel ι (es.set i (key, v, e.2.2)) (res.modify i f) := by
  refine ⟨by simp [h.1], fun j a b h1 h2 => ?_⟩
  rw [List.getElem?_set] at h1
  rw [Array.getElem?_modify] at h2
  by_cases hij : i = j
  · subst hij
    rw [if_pos rfl] at h1 h2
    split at h1
    · cases h1
      cases hrr : res[i]? with
      | none => simp [hrr] at h2
      | some rr =>
        obtain ⟨_, _, hb⟩ := h.2 i e rr he hrr
        simp only [hrr, Option.map_some, Option.some.injEq] at h2
        rw [hf rr hrr] at h2
        subst h2
        exact ⟨rfl, hv, hb⟩
    · cases h1
  · rw [if_neg hij] at h1 h2
    exact h.2 j a b h1 h2
theorem EntRel.push {es : List (Value × IV × Nat)} {res : Array MapEntry} {key : Value} {v : IV} {u : Value} {n : Nat} (h : EntRel ι es res) (hv : Rv ι v u) : EntRel ι (es ++ [(key, v, n)]) (res.push { key := key, val := u, born := n }) := by
  refine ⟨by simp [h.1], fun j a b h1 h2 => ?_⟩
  rw [Array.getElem?_push] at h2
  by_cases hj : j < es.length
  · rw [List.getElem?_append_left hj] at h1
    rw [if_neg (by have := h.1; omega)] at h2
    exact h.2 j a b h1 h2
  · rw [List.getElem?_append_right (by omega)] at h1
    by_cases hj2 : j = es.length
    · subst hj2
      rw [if_pos h.1] at h2
      simp at h1 h2
      subst h1 h2
      exact ⟨rfl, hv, rfl⟩
    · have : 1 ≤ j - es.length := by omega
      rw [List.getElem?_eq_none (by simp; omega)] at h1
      cases h1
theorem map_obj (hi : Inv N ι σ w) {id clock : Nat} {es : List (Value × IV × Nat)} {u : Value} (hr : Rv ι (.map id) u) (hat : σ.at id = some (.map es clock)) :
    ∃ l res, u = .map (some l.b) ∧ ι id 0 = some l ∧ w.heap[l.b]? = some (.map res clock) ∧ l.b < w.heap.size ∧ EntRel ι es res := by
  cases hr with
  | map _ l hl =>
    obtain ⟨l', res, hl', hh, he⟩ := hi.obj id _ hat
    rw [hl] at hl'; cases hl'
    exact ⟨l, res, rfl, hl, hh, hi.bnd id _ ⟨_, _, hl, rfl⟩, he⟩
theorem objRel_map {l : Loc} {id clock : Nat} {es : List (Value × IV × Nat)} {res : Array MapEntry} (hl : ι id 0 = some l) (hlt : l.b < w.heap.size) (he : EntRel ι es res) :
    ObjRel ι { w with heap := w.heap.setIfInBounds l.b (.map res clock) } id (.map es clock) := ⟨l, res, hl, by simp [hlt], he⟩
theorem run_stays {old new : Value} (h : Instr.sameBits 10000 old new = true) (w : World) : (Instr.keyThatStays old new).run P w = .ok new w := by
  unfold Instr.keyThatStays
  rw [if_pos h]; rfl
theorem mapSet_ok {t kt elem : TypeId} {m k v : IV} {um uk uv : Value} {σ' : St} (hi : Inv N ι σ w) (hu : P.underlying t = some (.map kt elem)) (hm : Rv ι m um) (hk : Rv ι k uk) (hv : Rv ι v uv)
    (h : mapSet P ro kt m k v σ = some σ') : ∃ w', (Instr.mapUpdate t um uk uv).run P w = .ok () w' ∧ Inv N ι σ' w' ∧ Le ro ι w σ ι w' σ' := by
  unfold mapSet at h
  split at h
  · rename_i id key hkey
    have hkk := toRaw_ok hkey hk
    subst hkk
    split at h
    · rename_i es clock hat
      obtain ⟨l, res, rfl, hl, hh, hlt, he⟩ := map_obj hi hm hat
      split at h
      · cases h
      · rename_i hro
        have hro : ro ≤ id := Nat.le_of_not_lt fun h => hro (by omega)
        split at h
        · rename_i i hka
          split at h
          · rename_i e hei
            split at h
            · rename_i hsb
              cases h
              obtain ⟨hc, hf⟩ := keyAt_ok he hka w
              rcases hf with ⟨hn, _⟩ | ⟨j, e', rr, hj, h1, h2, h3⟩
              · cases hn
              · cases hj
                rw [hei] at h1; cases h1
                have hkeyr := (he.2 i e rr hei h2).1
                obtain ⟨r1, r2⟩ := hi.setObj' (ro := ro) hat hro hl (objRel_map (clock := clock) hl hlt (he.set hei hv (key := uk) (f := fun e => { e with key := uk, val := uv }) (fun rr _ => rfl)))
                refine ⟨_, ?_, r1, r2⟩
                have hst : (Instr.keyThatStays (((res[i]?).map (·.key)).getD uk) uk).run P w = .ok uk w := by
                  rw [h2]; simp only [Option.map_some, Option.getD_some]
                  exact run_stays (by rw [hkeyr]; exact hsb) w
                simp only [Instr.mapUpdate, Sem.run_bind, run_und hu, Result.andThen_ok, run_getObj (P := P) hh (by simp), hc, h3, hst, run_setObj (P := P) hh (by simp)]
            · cases h
          · cases h
        · rename_i hka
          cases h
          obtain ⟨hc, hf⟩ := keyAt_ok he hka w
          rcases hf with ⟨_, h3⟩ | ⟨j, e', rr, hj, h1, h2, h3⟩
          · obtain ⟨r1, r2⟩ := hi.setObj' (ro := ro) hat hro hl (objRel_map (clock := clock + 1) hl hlt (he.push hv (key := uk) (n := clock)))
            refine ⟨_, ?_, r1, r2⟩
            simp only [Instr.mapUpdate, Sem.run_bind, run_und hu, Result.andThen_ok, run_getObj (P := P) hh (by simp), hc, h3, run_setObj (P := P) hh (by simp)]
          · cases hj
        · cases h
    · cases h
  · cases h
theorem op_mapUpdate {t : TypeId} {m k x : Operand} (hi : Inv N ι σ w) (hm : Rv ι (ρ m) (r m)) (hk : Rv ι (ρ k) (r k)) (hx : Rv ι (ρ x) (r x)) (ho : o.op = .mapUpdate t m k x ∨ o.op = .insert t m k x)
    (h : evOp P ro ρ o σ = some out) : OutOk P ro N ι w σ r o out := by
  have h' : (match P.underlying t with
    | some (.map kt _) => match mapSet P ro kt (ρ m) (ρ k) (ρ x) σ with
      | some σ' => ret .undef σ'
      | none => none
    | _ => none) = some out := by
    unfold evOp at h
    rcases ho with ho | ho <;> rw [ho] at h <;> exact h
  clear h
  split at h'
  · rename_i kt elem hu
    split at h'
    · rename_i σ' hs
      obtain rfl := ret_val h'
      intro hN
      obtain ⟨w', h1, h2, h3⟩ := mapSet_ok (N := N) hi hu hm hk hx hs
      refine ⟨Go.undef, w', ι, .inr ⟨?_, rfl⟩, .raw _, h2, h3⟩
      rcases ho with ho | ho <;> simp only [execOp, ho, Sem.run_bind, h1, Result.andThen_ok, Sem.run_pure]
    · cases h'
  · cases h'
theorem op_mapEntry {t : TypeId} {m k : Operand} (hi : Inv N ι σ w) (hm : Rv ι (ρ m) (r m)) (hk : Rv ι (ρ k) (r k)) (ho : o.op = .mapEntry t m k) (h : evOp P ro ρ o σ = some out) : OutOk P ro N ι w σ r o out := by
  unfold evOp at h; rw [ho] at h; simp only at h
  split at h
  · rename_i kt elem hu
    split at h
    · rename_i z id key hz hmid hkey
      have hkk := toRaw_ok hkey hk
      rw [hmid] at hm
      split at h
      · rename_i es clock hat
        obtain ⟨l, res, hum, hl, hh, hlt, he⟩ := map_obj hi hm hat
        split at h
        · cases h
        · rename_i hro
          have hro : ro ≤ id := Nat.le_of_not_lt fun h => hro (by omega)
          split at h
          · rename_i i hka
            split at h
            · rename_i e hei
              split at h
              · rename_i hsb
                obtain rfl := ret_val h
                intro hN
                obtain ⟨hc, hf⟩ := keyAt_ok he hka w
                rcases hf with ⟨hn, _⟩ | ⟨j, e', rr, hj, h1, h2, h3⟩
                · cases hn
                · cases hj
                  rw [hei] at h1; cases h1
                  obtain ⟨hkeyr, hvr, hbr⟩ := he.2 i e rr hei h2
                  obtain ⟨r1, r2⟩ := hi.setObj' (ro := ro) hat hro hl (objRel_map (clock := clock) hl hlt (he.set hei hvr (key := key) (f := fun e => { e with key := key }) (fun rr' hrr' => by rw [h2] at hrr'; cases hrr'; rfl)))
                  refine ⟨.tuple #[rr.val, .int .i64 e.2.2], _, ι, .inl ?_, ?_, r1, r2⟩
                  · have hst : (Instr.keyThatStays rr.key key).run P w = .ok key w := run_stays (by rw [hkeyr]; exact hsb) w
                    simp only [execOp, ho, Instr.mapEntry, hum, hkk, Sem.run_bind, run_und hu, Result.andThen_ok, run_getObj (P := P) hh (by simp), hc, h3, hst, run_setObj (P := P) hh (by simp), Sem.run_pure, h2, Option.map_some, Option.getD_some, hbr, goInt]
                  · have := RvL.cons hvr (RvL.cons (Rv.raw (ι := ι) (.int .i64 e.2.2)) RvL.nil)
                    exact .tup _ _ this.1 this.2
              · cases h
            · cases h
          · rename_i hka
            obtain rfl := ret_val h
            intro hN
            obtain ⟨hc, hf⟩ := keyAt_ok he hka w
            rcases hf with ⟨_, h3⟩ | ⟨j, e', rr, hj, h1, h2, h3⟩
            · obtain ⟨r1, r2⟩ := hi.setObj' (ro := ro) hat hro hl (objRel_map (clock := clock + 1) hl hlt (he.push (Rv.lift (ι := ι) z) (key := key) (n := clock)))
              refine ⟨.tuple #[z, .int .i64 clock], _, ι, .inl ?_, ?_, r1, r2⟩
              · simp only [execOp, ho, Instr.mapEntry, hum, hkk, Sem.run_bind, run_und hu, Result.andThen_ok, run_getObj (P := P) hh (by simp), hc, h3, run_zero hz, run_setObj (P := P) hh (by simp), Sem.run_pure, goInt]
              · have := RvL.cons (Rv.lift (ι := ι) z) (RvL.cons (Rv.raw (ι := ι) (.int .i64 clock)) RvL.nil)
                exact .tup _ _ this.1 this.2
            · cases hj
          · cases h
      · cases h
    · cases h
  · cases h
end Go.Ev
namespace Go.Ev
variable {P : Program} {N ro : Nat} {ι : Io} {w : World} {σ : St} {ρ : Operand → IV} {r : Operand → Value} {o : Oper} {out : OpOut}
theorem op_entryStore {t : TypeId} {m st x : Operand} (hi : Inv N ι σ w) (hm : Rv ι (ρ m) (r m)) (hs : Rv ι (ρ st) (r st)) (hx : Rv ι (ρ x) (r x)) (ho : o.op = .entryStore t m st x)
    (h : evOp P ro ρ o σ = some out) : OutOk P ro N ι w σ r o out := by
  unfold evOp at h; rw [ho] at h; simp only at h
  split at h
  · rename_i id k born hmid hst
    have est := rv_raw hst hs
    rw [hmid] at hm
    split at h
    · rename_i es clock hat
      obtain ⟨l, res, hum, hl, hh, hlt, he⟩ := map_obj hi hm hat
      split at h
      · cases h
      · rename_i hro
        have hro : ro ≤ id := Nat.le_of_not_lt fun h => hro (by omega)
        split at h
        · rename_i i hfi
          split at h
          · rename_i e hei
            obtain rfl := ret_val h
            intro hN
            have hlt2 : i < res.size := by have := (List.getElem?_eq_some_iff.1 hei).1; have := he.1; omega
            have h2 : res[i]? = some res[i] := Array.getElem?_eq_getElem hlt2
            obtain ⟨hkeyr, _, _⟩ := he.2 i e _ hei h2
            obtain ⟨r1, r2⟩ := hi.setObj' (ro := ro) hat hro hl (objRel_map (clock := clock) hl hlt (he.set hei hx (key := e.1) (f := fun e => { e with val := r x }) (fun rr' hrr' => by
              rw [h2] at hrr'; cases hrr'; rw [← hkeyr])))
            have hfr : res.findIdx? (fun e => (e.born : Int) == born) = some i := by
              rw [show res = res.toList.toArray by simp, List.findIdx?_toArray]
              have : ∀ (es : List (Value × IV × Nat)) (rs : List MapEntry) (i : Nat), es.length = rs.length → (∀ (j : Nat) (e : Value × IV × Nat) (rr : MapEntry), es[j]? = some e → rs[j]? = some rr → rr.born = e.2.2) →
                  es.findIdx? (fun e => (e.2.2 : Int) == born) = some i → rs.findIdx? (fun e => (e.born : Int) == born) = some i := by
                intro es
                induction es with
                | nil => intro rs i hl _ hf; simp at hf
                | cons e es ih =>
                  intro rs i hl hb hf
                  cases rs with
                  | nil => simp at hl
                  | cons rr rs =>
                    have h0 := hb 0 e rr rfl rfl
                    rw [List.findIdx?_cons] at hf ⊢
                    rw [h0]
                    split at hf
                    · rename_i hc; rw [if_pos hc]; exact hf
                    · rename_i hc
                      rw [if_neg hc]
                      simp only [Option.map_eq_some_iff] at hf ⊢
                      obtain ⟨j, hj, rfl⟩ := hf
                      exact ⟨j, ih rs j (by simpa using hl) (fun k a b h1 h2 => hb (k + 1) a b h1 h2) hj, rfl⟩
              exact this es res.toList i (by simpa using he.1) (fun j e rr h1 h2 => (he.2 j e rr h1 (by simpa using h2)).2.2) hfi
            refine ⟨Go.undef, _, ι, .inr ⟨?_, rfl⟩, .raw _, r1, r2⟩
            simp only [execOp, ho, Instr.entryStore, hum, est, asInt, asIntOf, Sem.run_bind, Sem.run_pure, Result.andThen_ok, run_getObj (P := P) hh (by simp), hfr, run_setObj (P := P) hh (by simp)]
          · cases h
        · cases h
    · cases h
  · cases h
theorem deleteB_ok {argTypes : Array TypeId} {ty : TypeId} {m k : IV} {um uk : Value} (hi : Inv N ι σ w) (hm : Rv ι m um) (hk : Rv ι k uk) (h : deleteB P ro argTypes m k σ = some out) :
    ∃ v σ', out = .val v σ' ∧ (σ'.n ≤ N → GivesV P ro N ι w σ (Builtin.delete_ argTypes ty #[um, uk]) v σ') := by
  unfold deleteB at h
  cases hta : argTypes[0]? with
  | none => simp [hta] at h
  | some t =>
    rw [hta, Option.bind_some] at h
    have e0 : (#[um, uk] : Array Value)[0]? = some um := rfl
    have e1 : (#[um, uk] : Array Value)[1]? = some uk := rfl
    split at h
    · rename_i kt elem id key hu hkey
      have hkk := toRaw_ok hkey hk
      split at h
      · rename_i es clock hat
        obtain ⟨l, res, rfl, hl, hh, hlt, he⟩ := map_obj hi hm hat
        split at h
        · cases h
        · rename_i hro
          have hro : ro ≤ id := Nat.le_of_not_lt fun h => hro (by omega)
          split at h
          · rename_i i hka
            obtain rfl := ret_val h
            refine ⟨_, _, rfl, fun _ => ?_⟩
            obtain ⟨hc, hf⟩ := keyAt_ok he hka w
            rcases hf with ⟨hn, _⟩ | ⟨j, e', rr, hj, h1, h2, h3⟩
            · cases hn
            · cases hj
              have hrl : i < res.size := (Array.getElem?_eq_some_iff.1 h2).1
              have he' : EntRel ι (es.eraseIdx i) (res.eraseIdxIfInBounds i) := by
                have e2 : res.eraseIdxIfInBounds i = (res.toList.eraseIdx i).toArray := by
                  rw [Array.eraseIdxIfInBounds, dif_pos hrl]
                  apply Array.ext'
                  simp
                rw [e2]
                have hle := he.1
                refine ⟨by simp only [List.length_eraseIdx, List.size_toArray, Array.length_toList, hle], fun j a b ha hb => ?_⟩
                simp only [List.getElem?_toArray] at hb
                rw [List.getElem?_eraseIdx] at ha hb
                split at ha
                · rename_i hc; rw [if_pos hc] at hb; exact he.2 j a b ha (by simpa using hb)
                · rename_i hc; rw [if_neg hc] at hb; exact he.2 (j + 1) a b ha (by simpa using hb)
              obtain ⟨r1, r2⟩ := hi.setObj' (ro := ro) hat hro hl (objRel_map (clock := clock) hl hlt he')
              refine ⟨.tuple #[], _, ι, ?_, .raw _, r1, r2⟩
              unfold Builtin.delete_
              rw [hta, e0, e1]
              rw [he.isEmpty] at hc
              simp only [Sem.run_bind, run_und hu, Result.andThen_ok, run_getObj (P := P) hh (by simp), hkk, hc, h3, run_setObj (P := P) hh (by simp), Sem.run_pure]
          · rename_i hka
            obtain rfl := ret_val h
            refine ⟨_, _, rfl, fun _ => ?_⟩
            obtain ⟨hc, hf⟩ := keyAt_ok he hka w
            rcases hf with ⟨_, h3⟩ | ⟨j, e', rr, hj, h1, h2, h3⟩
            · obtain ⟨r1, r2⟩ := hi.setObj' (ro := ro) hat hro hl (objRel_map (clock := clock) hl hlt he)
              refine ⟨.tuple #[], _, ι, ?_, .raw _, r1, r2⟩
              unfold Builtin.delete_
              rw [hta, e0, e1]
              rw [he.isEmpty] at hc
              simp only [Sem.run_bind, run_und hu, Result.andThen_ok, run_getObj (P := P) hh (by simp), hkk, hc, h3, run_setObj (P := P) hh (by simp), Sem.run_pure]
            · cases hj
          · cases h
      · cases h
    · cases h
theorem Inv.addObj (hi : Inv N ι σ w) (hN : σ.n < N) {go : Go.Obj} {ob : Ob} (hob : ObjRel (updI ι σ.n 0 ⟨w.heap.size, 1, 1⟩) { w with heap := w.heap.push go } σ.n ob) :
    Inv N (updI ι σ.n 0 ⟨w.heap.size, 1, 1⟩) (σ.add ob) { w with heap := w.heap.push go } ∧ Le ro ι w σ (updI ι σ.n 0 ⟨w.heap.size, 1, 1⟩) { w with heap := w.heap.push go } (σ.add ob) :=
  hi.add hN rfl rfl rfl rfl rfl hob
theorem op_range {t : TypeId} {x : Operand} (hi : Inv N ι σ w) (hr : Rv ι (ρ x) (r x)) (ho : o.op = .range t x) (h : evOp P ro ρ o σ = some out) : OutOk P ro N ι w σ r o out := by
  unfold evOp at h; rw [ho] at h; simp only at h
  have rv : ∀ (ι' : Io) (n b : Nat), Rv (updI ι' n 0 ⟨b, 1, 1⟩) (.ptr n 0 0 1) (.pointer (some ⟨b, 0, none⟩)) := fun ι' n b => .ptr _ _ _ _ _ (updI_self _ _ _ _) (by simp)
  split at h
  · rename_i s hu hx
    have e := rv_raw hx hr
    obtain rfl := ret_val h
    intro hN
    obtain ⟨h1, h2⟩ := hi.addObj (ro := ro) (go := .stringIter s 0) (ob := .siter s 0) (by simp at hN; omega) ⟨_, updI_self _ _ _ _, by simp⟩
    exact ⟨_, _, _, .inl (by simp only [execOp, ho, Instr.range, Sem.run_bind, run_und hu, Result.andThen_ok, e, Sem.run_pure, run_newObj]), rv _ _ _, h1, h2⟩
  · rename_i k e' hu hx
    have e := rv_raw hx hr
    obtain rfl := ret_val h
    intro hN
    obtain ⟨h1, h2⟩ := hi.addObj (ro := ro) (go := .mapIter none 0 #[] 0) (ob := .miter none 0 [] 0) (by simp at hN; omega) ⟨_, none, updI_self _ _ _ _, by simp, rfl⟩
    exact ⟨_, _, _, .inl (by simp only [execOp, ho, Instr.range, Sem.run_bind, run_und hu, Result.andThen_ok, e, Sem.run_pure, run_newObj]), rv _ _ _, h1, h2⟩
  · rename_i k e' m hu hx
    rw [hx] at hr
    split at h
    · rename_i es clock hat
      obtain ⟨l, res, hum, hl, hh, hlt, he⟩ := map_obj hi hr hat
      obtain rfl := ret_val h
      intro hN
      have hne : ι σ.n 0 = none := hi.fresh _ (Nat.le_refl _) (by simp at hN; omega) 0
      obtain ⟨h1, h2⟩ := hi.addObj (ro := ro) (go := .mapIter (some l.b) clock #[] clock) (ob := .miter (some m) clock [] clock) (by simp at hN; omega)
        ⟨_, some l.b, updI_self _ _ _ _, by simp, l, updI_ext hne _ _ _ hl, rfl⟩
      exact ⟨_, _, _, .inl (by simp only [execOp, ho, Instr.range, Sem.run_bind, run_und hu, Result.andThen_ok, hum, run_getObj (P := P) hh (by simp), Sem.run_pure, run_newObj]), rv _ _ _, h1, h2⟩
    · cases h
  · cases h
theorem rvtup {vs : List IV} {us : List Value} (h : RvL ι vs us) : Rv ι (.tup vs) (.tuple us.toArray) := .tup _ _ h.1 h.2
theorem op_next {it : Operand} {str : Bool} (hi : Inv N ι σ w) (hr : Rv ι (ρ it) (r it)) (ho : o.op = .next it str) (h : evOp P ro ρ o σ = some out) : OutOk P ro N ι w σ r o out := by
  unfold evOp at h; rw [ho] at h; simp only at h
  split at h
  · rename_i id hx
    rw [hx] at hr
    split at h
    · cases h
    · rename_i hro
      have hro : ro ≤ id := Nat.le_of_not_lt fun h => hro (by omega)
      generalize hq : r it = q at hr
      cases hr with
      | ptr _ _ _ _ l hl hle =>
        have hlt : l.b < w.heap.size := hi.bnd id _ ⟨_, _, hl, rfl⟩
        split at h
        · rename_i s pos hat
          obtain ⟨l', hl', hh⟩ := hi.obj id _ hat
          rw [hl] at hl'; cases hl'
          split at h
          · rename_i hpos
            obtain rfl := ret_val h
            intro hN
            obtain ⟨r1, r2⟩ := hi.setObj' (ro := ro) (ob' := .siter s (pos + (Utf8.decode s pos).2)) (go := .stringIter s (pos + (Utf8.decode s pos).2)) hat hro hl ⟨l, hl, by simp [hlt]⟩
            refine ⟨.tuple #[.bool true, .int .i64 pos, .int .i32 (Utf8.decode s pos).1], _, ι, .inl ?_, ?_, r1, r2⟩
            · simp only [execOp, ho, Instr.next, hq, Sem.run_bind, run_getObj (P := P) hh (by simp), Result.andThen_ok, hpos, if_true, run_setObj (P := P) hh (by simp), Sem.run_pure, goInt]
            · exact rvtup (RvL.cons (.raw _) (RvL.cons (.raw _) (RvL.cons (.raw _) RvL.nil)))
          · rename_i hpos
            obtain rfl := ret_val h
            refine OutOk.same hi (u := .tuple #[.bool false]) ?_ (rvtup (RvL.cons (.raw _) RvL.nil))
            simp only [execOp, ho, Instr.next, hq, Sem.run_bind, run_getObj (P := P) hh (by simp), Result.andThen_ok, hpos, if_false, Sem.run_pure]
        · rename_i a b c hat
          obtain ⟨l', mr, hl', hh, hm⟩ := hi.obj id _ hat
          rw [hl] at hl'; cases hl'
          simp only at hm
          subst hm
          obtain rfl := ret_val h
          refine OutOk.same hi (u := .tuple #[.bool false]) ?_ (rvtup (RvL.cons (.raw _) RvL.nil))
          simp only [execOp, ho, Instr.next, hq, Sem.run_bind, run_getObj (P := P) hh (by simp), Result.andThen_ok, Sem.run_pure]
        · rename_i m since seen last hat
          obtain ⟨l', mr, hl', hh, hm⟩ := hi.obj id _ hat
          rw [hl] at hl'; cases hl'
          obtain ⟨lm, hlm, rfl⟩ := hm
          split at h
          · rename_i es clock hatm
            obtain ⟨lm', res, hlm', hhm, he⟩ := hi.obj m _ hatm
            rw [hlm] at hlm'; cases hlm'
            have over : ∀ {cand : Array (Option MapEntry)}, cand = #[none] → (choose (.mapNext cand.size)).run P w = .ok 0 w := by
              intro cand hc; subst hc; simp [choose, Sem.run, Question.forced]
            split at h
            · have hre : res = #[] := Array.eq_empty_of_size_eq_zero (by have := he.1; simpa using this.symm)
              subst hre
              obtain rfl := ret_val h
              refine OutOk.same hi (u := .tuple #[.bool false]) ?_ (rvtup (RvL.cons (.raw _) RvL.nil))
              simp [execOp, ho, Instr.next, hq, run_getObj (P := P) hh (by simp), run_getObj (P := P) hhm (by simp), choose, Sem.run, Question.forced]
            · rename_i e
              have hsz : res.size = 1 := by have := he.1; simpa using this.symm
              obtain ⟨rr, rfl⟩ : ∃ rr, res = #[rr] := by
                refine ⟨res[0], ?_⟩
                apply Array.ext (by simp [hsz])
                intro i h1 h2
                have : i = 0 := by omega
                subst this; rfl
              obtain ⟨hk, hv, hb⟩ := he.2 0 e rr rfl rfl
              split at h
              · rename_i hin
                split at h
                · rename_i hlast
                  obtain rfl := ret_val h
                  refine OutOk.same hi (u := .tuple #[.bool false]) ?_ (rvtup (RvL.cons (.raw _) RvL.nil))
                  have hin' : rr.born ∈ seen := by rw [hb]; exact hin
                  have hlast' : ¬ last ≤ rr.born := by rw [hb]; omega
                  have hfil : Array.filter (fun e => !seen.toArray.contains e.born) #[rr] = #[] := by simp [hin']
                  simp [execOp, ho, Instr.next, hq, run_getObj (P := P) hh (by simp), run_getObj (P := P) hhm (by simp), choose, Sem.run, Question.forced, hin', hlast']
                · cases h
              · rename_i hin
                split at h
                · rename_i hc
                  obtain ⟨hc1, rfl⟩ := hc
                  obtain rfl := ret_val h
                  intro hN
                  have hb1 : rr.born < since := by rw [hb]; exact hc1
                  obtain ⟨r1, r2⟩ := hi.setObj' (ro := ro) (ob' := .miter (some m) since [e.2.2] clock) (go := .mapIter (some lm.b) since #[rr.born] clock) hat hro hl ⟨l, some lm.b, hl, by simp [hlt, hb], lm, hlm, rfl⟩
                  refine ⟨.tuple #[.bool true, rr.key, rr.val], _, ι, .inl ?_, ?_, r1, r2⟩
                  · have hb2 : ¬ since ≤ rr.born := by omega
                    simp [execOp, ho, Instr.next, hq, run_getObj (P := P) hh (by simp), run_getObj (P := P) hhm (by simp), choose, Sem.run, Question.forced, hb1, hb2, run_setObj (P := P) hh (by simp)]
                  · rw [← hk]; exact rvtup (RvL.cons (.raw _) (RvL.cons (Rv.lift _) (RvL.cons hv RvL.nil)))
                · cases h
            · cases h
          · cases h
        · cases h
  · cases h
theorem op_entry {it : Operand} (hi : Inv N ι σ w) (hr : Rv ι (ρ it) (r it)) (ho : o.op = .entry it) (h : evOp P ro ρ o σ = some out) : OutOk P ro N ι w σ r o out := by
  unfold evOp at h; rw [ho] at h; simp only at h
  split at h
  · rename_i id hx
    rw [hx] at hr
    generalize hq : r it = q at hr
    cases hr with
    | ptr _ _ _ _ l hl hle =>
      split at h
      · rename_i m since seen stepped hat
        obtain ⟨l', mr, hl', hh, hm⟩ := hi.obj id _ hat
        rw [hl] at hl'; cases hl'
        obtain ⟨lm, hlm, rfl⟩ := hm
        split at h
        · rename_i es clock stamp hatm hlast
          obtain ⟨lm', res, hlm', hhm, he⟩ := hi.obj m _ hatm
          rw [hlm] at hlm'; cases hlm'
          split at h
          · rename_i hcs
            split at h
            · rename_i e hfe
              obtain rfl := ret_val h
              have key : ∀ (es : List (Value × IV × Nat)) (rs : List MapEntry), es.length = rs.length → (∀ (j : Nat) (e : Value × IV × Nat) (rr : MapEntry), es[j]? = some e → rs[j]? = some rr → rr.key = e.1 ∧ Rv ι e.2.1 rr.val ∧ rr.born = e.2.2) →
                  es.find? (fun e => e.2.2 == stamp) = some e → ∃ rr, rs.find? (fun e => e.born == stamp) = some rr ∧ rr.key = e.1 ∧ Rv ι e.2.1 rr.val := by
                intro es
                induction es with
                | nil => intro rs _ _ hf; simp at hf
                | cons a es ih =>
                  intro rs hl hb hf
                  cases rs with
                  | nil => simp at hl
                  | cons rr rs =>
                    obtain ⟨h1, h2, h3⟩ := hb 0 a rr rfl rfl
                    rw [List.find?_cons] at hf ⊢
                    rw [h3]
                    split at hf
                    · rename_i hc; cases hf; exact ⟨rr, rfl, h1, h2⟩
                    · rename_i hc; exact ih rs (by simpa using hl) (fun k x y h1 h2 => hb (k + 1) x y h1 h2) hf
              obtain ⟨rr, hf, hk, hv⟩ := key es res.toList (by simpa using he.1) (fun j e rr h1 h2 => he.2 j e rr h1 (by simpa using h2)) hfe
              have hf' : res.find? (fun e => e.born == stamp) = some rr := by rw [← hf, ← Array.find?_toList]
              have hlast' : seen.toArray.back? = some stamp := by rw [← hlast]; simp
              refine OutOk.same hi (u := .tuple #[rr.key, rr.val]) ?_ (by rw [← hk]; exact rvtup (RvL.cons (Rv.lift _) (RvL.cons hv RvL.nil)))
              subst hcs
              simp [execOp, ho, Instr.entry, hq, run_getObj (P := P) hh (by simp), run_getObj (P := P) hhm (by simp), hlast', hf']
            · cases h
          · cases h
        · cases h
      · cases h
  · cases h
end Go.Ev
namespace Go.Ev
variable {P : Program} {N ro : Nat} {ι : Io} {w : World} {σ : St} {ρ : Operand → IV} {r : Operand → Value} {o : Oper} {out : OpOut}
theorem min_ok {argTypes : Array TypeId} {ty : TypeId} {args : List IV} {us : List Value} {v : IV} (hr : RvL ι args us) (h : minB P args = some v) : ∃ z, (Builtin.min_ argTypes ty us.toArray).run P w = .ok z w ∧ Rv ι v z := by
  unfold minB at h
  split at h
  · rename_i vs hv
    rw [← rawCells_ok hv hr] at h
    rw [Option.map_eq_some_iff] at h
    obtain ⟨z, hz, rfl⟩ := h
    exact ⟨z, pureRun_run w _ hz, Rv.lift z⟩
  · cases h
theorem max_ok {argTypes : Array TypeId} {ty : TypeId} {args : List IV} {us : List Value} {v : IV} (hr : RvL ι args us) (h : maxB P args = some v) : ∃ z, (Builtin.max_ argTypes ty us.toArray).run P w = .ok z w ∧ Rv ι v z := by
  unfold maxB at h
  split at h
  · rename_i vs hv
    rw [← rawCells_ok hv hr] at h
    rw [Option.map_eq_some_iff] at h
    obtain ⟨z, hz, rfl⟩ := h
    exact ⟨z, pureRun_run w _ hz, Rv.lift z⟩
  · cases h
theorem appendI_out {argTypes : Array TypeId} {s x : IV} (h : appendI P ro argTypes s x σ = some out) : ∃ v σ', out = .val v σ' := by
  have hn : ∀ {size sLen n : Nat} {new : List IV} {s : IV}, appendNew size sLen n new s σ = some out → ∃ v σ', out = .val v σ' := by
    intro size sLen n new s h
    unfold appendNew at h
    split at h
    · split at h
      · exact ⟨_, _, ret_val h⟩
      · cases h
    · cases h
  unfold appendI at h
  split at h
  · split at h
    · split at h
      · split at h
        · cases h
        · split at h
          · split at h
            · unfold appendTo at h
              repeat' split at h
              all_goals first | exact ⟨_, _, ret_val h⟩ | exact hn h | cases h
            · cases h
          · cases h
      · cases h
    · cases h
  · cases h
theorem OutOk.ofB {c : Call} {b : Builtin} {us : List Value} (ho : o.op = .call c) (hb : c.callee = .builtin b) (hus : c.args.map r = us.toArray) (h : BOk P ro N ι w σ (builtin b c.argTypes o.type (c.args.map fun | .const _ => true | _ => false) us.toArray) out) :
    OutOk P ro N ι w σ r o out := by
  obtain ⟨v, σ', rfl, h⟩ := h
  intro hN
  rw [exec_builtin ho hb, hus]
  exact h hN
theorem builtin_ok {b : Builtin} {argTypes : Array TypeId} {ty : TypeId} {cs : Array Bool} {args : List IV} {us : List Value} (hi : Inv N ι σ w) (hr : RvL ι args us) (h : builtinI P ro b argTypes args σ = some out) :
    BOk P ro N ι w σ (builtin b argTypes ty cs us.toArray) out := by
  unfold builtinI at h
  split at h
  · split at h
    · obtain ⟨v, u, rfl, h1, h2⟩ := rvl_two hr
      obtain ⟨v', σ', rfl⟩ := appendI_out h
      exact BOk.ofV fun hN => append_ok hi h1 h2 h hN
    · cases h
  · split at h
    · obtain ⟨v, rfl, h1⟩ := rvl_one hr
      rw [Option.map_eq_some_iff] at h
      obtain ⟨z, hz, rfl⟩ := h
      obtain ⟨u, hu, hru⟩ := lenB_ok (ty := ty) hi h1 hz
      exact BOk.same hi hu hru
    · cases h
  · split at h
    · obtain ⟨v, rfl, h1⟩ := rvl_one hr
      rw [Option.map_eq_some_iff] at h
      obtain ⟨z, hz, rfl⟩ := h
      obtain ⟨u, hu, hru⟩ := capB_ok (ty := ty) (w := w) h1 hz
      exact BOk.same hi hu hru
    · cases h
  · rw [Option.map_eq_some_iff] at h
    obtain ⟨z, hz, rfl⟩ := h
    obtain ⟨u, hu, hru⟩ := min_ok (argTypes := argTypes) (ty := ty) (w := w) hr hz
    exact BOk.same hi hu hru
  · rw [Option.map_eq_some_iff] at h
    obtain ⟨z, hz, rfl⟩ := h
    obtain ⟨u, hu, hru⟩ := max_ok (argTypes := argTypes) (ty := ty) (w := w) hr hz
    exact BOk.same hi hu hru
  · split at h
    · obtain ⟨v, u, rfl, h1, h2⟩ := rvl_two hr
      obtain ⟨v', σ', rfl, h3⟩ := deleteB_ok (ty := ty) hi h1 h2 h
      exact BOk.ofV h3
    · cases h
  · split at h
    · obtain ⟨v, rfl, h1⟩ := rvl_one hr
      obtain ⟨v', σ', rfl, h3⟩ := clearB_ok (ty := ty) hi h1 h
      exact BOk.ofV h3
    · cases h
  · split at h
    · obtain ⟨v, u, rfl, h1, h2⟩ := rvl_two hr
      obtain ⟨v', σ', rfl, h3⟩ := copyB_ok (ty := ty) hi h1 h2 h
      exact BOk.ofV h3
    · cases h
  · cases h
theorem args_ok {l : Array Operand} (h : ∀ x, Rv ι (ρ x) (r x)) : RvL ι (l.toList.map ρ) (l.toList.map r) := RvL.of_map fun x _ => h x
theorem callFunc_ok {f : FuncId} {fn : Func} {us : Array Value} (h : P.funcs[f]? = some fn) (hb : (fn.body.isSome && fn.name != "runtime.NumGoroutine") = true) : (callFunc f us).run P w = .ok (.enter f us) w := by
  simp only [Bool.and_eq_true, bne_iff_ne, ne_eq] at hb
  have h2 : fn.body ≠ none := by cases hh : fn.body <;> simp_all
  simp [callFunc, h, h2, hb.2]
theorem callee_ok {x : IV} {v : Value} {args : List IV} {us : List Value} (hx : Rv ι x v) (hr : RvL ι args us) (h : calleeI P x args = some out) :
    ∃ d, (Deferred.ofValue v us.toArray).run P w = .ok d w ∧ ((∃ f as vs, out = .enter f as ∧ (invoke d.target d.args).run P w = .ok (.enter f vs.toArray) w ∧ RvL ι as vs ∧ DfRel ι (.call f as) d) ∨
      (∃ id l, out = .round id args ∧ ι id 0 = some l ∧ d.target = .fn (.yield l.b) #[] ∧ d.args = us.toArray)) := by
  unfold calleeI at h
  split at h
  · rename_i f first cap
    cases hx with
    | fn _ _ _ cs ds hl h1 hl2 h2 =>
      split at h
      · rename_i fn hfn
        split at h
        · rename_i hb
          cases h
          have hvs : RvL ι (first ++ args ++ cap) (cs ++ us ++ ds) := (RvL.append ⟨hl, h1⟩ hr).append ⟨hl2, h2⟩
          refine ⟨{ target := .fn (.func f) ds.toArray, args := cs.toArray ++ us.toArray }, rfl, .inl ⟨f, _, _, rfl, ?_, hvs, ds, cs ++ us, _, by simp, hvs, rfl⟩⟩
          simp only [invoke]
          rw [callFunc_ok hfn hb]
          simp
        · cases h
      · cases h
  · rename_i f a b
    cases hx
    split at h
    · rename_i he
      obtain ⟨rfl, rfl⟩ : a = #[] ∧ b = #[] := ⟨Array.eq_empty_of_size_eq_zero he.1, Array.eq_empty_of_size_eq_zero he.2⟩
      split at h
      · rename_i fn hfn
        split at h
        · rename_i hb
          cases h
          refine ⟨{ target := .fn (.func f) #[], args := us.toArray }, by simp [Deferred.ofValue], .inl ⟨f, _, us, rfl, ?_, hr, [], us, us, by simp, hr, by simp⟩⟩
          simp only [invoke]
          rw [callFunc_ok hfn hb]
          simp
        · cases h
      · cases h
    · cases h
  · rename_i id
    cases hx with
    | yld _ l hl =>
      cases h
      exact ⟨{ target := .fn (.yield l.b) #[], args := us.toArray }, by simp [Deferred.ofValue], .inr ⟨id, l, rfl, hl, rfl, rfl⟩⟩
  · cases h
theorem invoke_ok {x : IV} {u : Value} {name : String} {args : List IV} {us : List Value} (hx : Rv ι x u) (hr : RvL ι args us) (h : invokeI P x name args = some out) :
    ∃ f as vs, out = .enter f as ∧ (invoke (.fn (.method name) #[]) (#[u] ++ us.toArray)).run P w = .ok (.enter f vs.toArray) w ∧ RvL ι as vs := by
  unfold invokeI at h
  split at h
  · rename_i t v
    cases hx with
    | ifc _ _ uv hv =>
      split at h
      · rename_i i el hi hd
        split at h
        · rename_i m hm
          split at h
          · rename_i f pr hf
            split at h
            · rename_i hc
              obtain ⟨hpath, rfl⟩ := hc
              have hpath : m.path.toList = [] := List.isEmpty_iff.1 hpath
              split at h
              · rename_i fn hfn
                split at h
                · rename_i hb
                  cases h
                  refine ⟨f, v :: args, uv :: us, rfl, ?_, RvL.cons hv hr⟩
                  have hmeth : ∀ n, (method (n + 1) t uv name).run P w = .ok (f, uv) w := by
                    intro n
                    simp [method, typeInfo, hi, hm, hpath, follow, hf, receiverAt, run_und hd, Place.get]
                  have hfuel : ∃ n, P.types.size + Made.depth = n + 1 := ⟨P.types.size + (Made.depth - 1), by unfold Made.depth; omega⟩
                  obtain ⟨n, hn⟩ := hfuel
                  have e0 : (#[Value.iface t uv] ++ us.toArray)[0]? = some (.iface t uv) := by simp
                  have e1 : (#[Value.iface t uv] ++ us.toArray).extract 1 (#[Value.iface t uv] ++ us.toArray).size = us.toArray := by
                    apply Array.ext'; simp
                  have e2 : (#[uv] ++ us.toArray) = (uv :: us).toArray := by apply Array.ext'; simp
                  have e3 : (callMethod (.iface t uv) name us.toArray).run P w = .ok (.enter f (uv :: us).toArray) w := by
                    have hp : (program : Sem Program).run P w = .ok P w := rfl
                    simp only [callMethod, Sem.run_bind, hp, Result.andThen_ok, hn, hmeth, e2]
                    exact callFunc_ok hfn hb
                  simp only [invoke, e0, e1]
                  exact e3
                · cases h
              · cases h
            · cases h
          · cases h
        · cases h
      · cases h
  · cases h
theorem op_call {c : Call} (hi : Inv N ι σ w) (hr : ∀ x, Rv ι (ρ x) (r x)) (ho : o.op = .call c) (h : evOp P ro ρ o σ = some out) : OutOk P ro N ι w σ r o out := by
  unfold evOp at h; rw [ho] at h; (try dsimp only at h)
  have hus : c.args.map r = (c.args.toList.map r).toArray := by apply Array.ext'; rw [Array.toList_map]
  split at h
  · rename_i b hb
    exact OutOk.ofB ho hb hus (builtin_ok hi (args_ok hr) h)
  · rename_i f hf
    obtain ⟨d, hd, h⟩ := callee_ok (w := w) (hr f) (args_ok hr) h
    have e : (execOp r o).run P w = (invoke d.target d.args).run P w := by
      simp only [execOp, ho, resolve, hf, hus, Sem.run_bind, hd, Result.andThen_ok]
    rcases h with ⟨f', as, vs, rfl, h1, h2, _⟩ | ⟨id, l, rfl, h1, h2, h3⟩
    · exact ⟨vs, by rw [e, h1], h2⟩
    · exact ⟨l, _, h1, by rw [e, h2, h3]; rfl, args_ok hr⟩
  · rename_i x name hx
    obtain ⟨f, as, vs, rfl, h1, h2⟩ := invoke_ok (w := w) (hr x) (args_ok hr) h
    exact ⟨vs, by simp only [execOp, ho, resolve, hx, hus, Sem.run_bind, Sem.run_pure, Result.andThen_ok, h1], h2⟩
theorem op_defer {c : Call} (hr : ∀ x, Rv ι (ρ x) (r x)) (ho : o.op = .defer c) (h : evOp P ro ρ o σ = some out) : OutOk P ro N ι w σ r o out := by
  unfold evOp at h; rw [ho] at h; (try dsimp only at h)
  have hus : c.args.map r = (c.args.toList.map r).toArray := by apply Array.ext'; rw [Array.toList_map]
  split at h
  · rename_i f hf
    split at h
    · rename_i f' args hc
      cases h
      obtain ⟨d, hd, h⟩ := callee_ok (w := w) (hr f) (args_ok hr) hc
      rcases h with ⟨f', as, vs, he, _, _, h3⟩ | ⟨id, l, he, _⟩
      · cases he
        exact ⟨d, by simp only [execOp, ho, resolve, hf, hus, Sem.run_bind, hd, Result.andThen_ok, Sem.run_pure], h3, c, ho⟩
      · cases he
    · cases h
  · cases h
theorem op_panic {x : Operand} (hr : Rv ι (ρ x) (r x)) (ho : o.op = .panic x) (h : evOp P ro ρ o σ = some out) : OutOk P ro N ι w σ r o out := by
  unfold evOp at h; rw [ho] at h; simp only at h
  split at h
  · rename_i t v hx
    cases h
    rw [hx] at hr
    generalize hq : r x = q at hr
    have hr' := hr
    cases hr with
    | ifc _ _ u hu =>
      refine ⟨_, ?_, hr'⟩
      simp only [execOp, ho, Instr.panic, hq, goPanic, Sem.run_bind]
      rfl
  · cases h
theorem op_typeAssert {x : Operand} {xt asserted : TypeId} {ok : Bool} (hi : Inv N ι σ w) (hr : Rv ι (ρ x) (r x)) (ho : o.op = .typeAssert x xt asserted ok) (h : evOp P ro ρ o σ = some out) : OutOk P ro N ι w σ r o out := by
  unfold evOp at h; rw [ho] at h; simp only at h
  split at h
  · cases h
  · rename_i d z hni hu hz
    have hd : ∀ {α : Type} (k1 : Array (String × TypeId) → α) (k2 : α), (match d with | .interface want => k1 want | _ => k2) = k2 := by
      intro α k1 k2
      cases d <;> first | rfl | exact absurd rfl (hni _)
    split at h
    · rename_i t v hx
      rw [hx] at hr
      generalize hq : r x = q at hr
      cases hr with
      | ifc _ _ u hru =>
        split at h
        · rename_i hte
          have hte' : t = asserted := by simpa using hte
          obtain rfl := ret_val h
          cases ok with
          | true =>
            refine OutOk.same hi (u := .tuple #[u, .bool true]) ?_ ?_
            · cases d <;> first
                | exact absurd rfl (hni _)
                | simp [execOp, ho, Instr.typeAssert, hq, run_und hu, hte']
            · have := RvL.cons hru (RvL.cons (Rv.raw (ι := ι) (.bool true)) RvL.nil)
              exact rvtup this
          | false =>
            refine OutOk.same hi (u := u) ?_ hru
            cases d <;> first
                | exact absurd rfl (hni _)
                | simp [execOp, ho, Instr.typeAssert, hq, run_und hu, hte']
        · rename_i hte
          have hte' : ¬ t = asserted := by simpa using hte
          split at h
          · rename_i hok
            subst hok
            obtain rfl := ret_val h
            refine OutOk.same hi (u := .tuple #[z, .bool false]) ?_ ?_
            · cases d <;> first
                | exact absurd rfl (hni _)
                | simp [execOp, ho, Instr.typeAssert, hq, run_und hu, hte', run_zero hz]
            · have := RvL.cons (Rv.lift (ι := ι) z) (RvL.cons (Rv.raw (ι := ι) (.bool false)) RvL.nil)
              exact rvtup this
          · cases h
    · rename_i hx
      have e := rv_raw hx hr
      split at h
      · rename_i hok
        subst hok
        obtain rfl := ret_val h
        refine OutOk.same hi (u := .tuple #[z, .bool false]) ?_ ?_
        · cases d <;> first
            | exact absurd rfl (hni _)
            | simp [execOp, ho, Instr.typeAssert, e, run_und hu, run_zero hz]
        · have := RvL.cons (Rv.lift (ι := ι) z) (RvL.cons (Rv.raw (ι := ι) (.bool false)) RvL.nil)
          exact rvtup this
      · cases h
    · cases h
  · cases h
theorem op_ok (hi : Inv N ι σ w) (hr : ∀ x, Rv ι (ρ x) (r x)) (h : evOp P ro ρ o σ = some out) : OutOk P ro N ι w σ r o out := by
  cases ho : o.op with
  | move x => unfold evOp at h; rw [ho] at h; simp only at h; obtain rfl := ret_val h; exact op_move hi (hr _) (.inl ho)
  | assign x => unfold evOp at h; rw [ho] at h; simp only at h; obtain rfl := ret_val h; exact op_move hi (hr _) (.inr ho)
  | pick c a b => exact op_pick hi (hr _) (hr _) (hr _) ho h
  | alloc t => exact op_alloc hi ho h
  | box t x => exact op_box hi (hr _) ho h
  | build t parts => exact op_build hi (fun x _ => hr x) ho h
  | buildSlice t len parts => exact op_buildSlice hi (fun x _ => hr x) ho h
  | load t a => exact op_load hi (hr _) ho h
  | store t a x => exact op_store hi (hr _) (hr _) ho h
  | nilCheck x => exact op_nilCheck hi (hr _) ho h
  | binOp op t x y yT => exact op_bin hi (hr _) (hr _) ho h
  | unOp op t x => exact op_un hi (hr _) ho h
  | convert s t x => exact op_convert hi (hr _) ho h
  | makeInterface t x => exact op_makeInterface hi (hr _) ho h
  | makeFunc f a b => exact op_makeFunc hi (fun x _ => hr x) ho h
  | makeMap t x => exact op_makeMap hi (fun x _ => hr x) ho h
  | makeSlice t l c => exact op_makeSlice hi (hr _) (hr _) ho h
  | slice t x lo hi' mx => exact op_slice hi (hr _) (fun x _ => hr x) (fun x _ => hr x) (fun x _ => hr x) ho h
  | fieldAddr s x f => exact op_fieldAddr hi (hr _) ho h
  | field t x f => exact op_field hi (hr _) ho h
  | indexAddr t x ix => exact op_indexAddr hi (hr _) (hr _) ho h
  | index t x ix => exact op_index hi (hr _) (hr _) ho h
  | lookup t x ix ok => exact op_lookup hi (hr _) (hr _) ho h
  | mapUpdate t m k x => exact op_mapUpdate hi (hr _) (hr _) (hr _) (.inl ho) h
  | insert t m k x => exact op_mapUpdate hi (hr _) (hr _) (hr _) (.inr ho) h
  | mapEntry t m k => exact op_mapEntry hi (hr _) (hr _) ho h
  | entryStore t m st x => exact op_entryStore hi (hr _) (hr _) (hr _) ho h
  | range t x => exact op_range hi (hr _) ho h
  | next it s => exact op_next hi (hr _) ho h
  | entry it => exact op_entry hi (hr _) ho h
  | extract t i => exact op_extract hi (hr _) ho h
  | call c => exact op_call hi hr ho h
  | defer c => exact op_defer hr ho h
  | panic x => exact op_panic (hr _) ho h
  | typeAssert x xt t ok => exact op_typeAssert hi (hr _) ho h
  | _ => unfold evOp at h; rw [ho] at h; cases h
end Go.Ev
namespace Go.Ev
variable {P : Program} {ro : Nat} {σ : St} {ρ : Operand → IV} {o : Oper} {out : OpOut}
def Grown (σ : St) : OpOut → Prop
  | .val _ σ' => σ.n ≤ σ'.n
  | _ => True
theorem grown_ret {v : IV} {σ' : St} (hle : σ.n ≤ σ'.n) (h : ret v σ' = some out) : Grown σ out := by rw [ret_val h]; exact hle
theorem grown_same {v : IV} (h : ret v σ = some out) : Grown σ out := grown_ret (Nat.le_refl σ.n) h
theorem grown_put {v : IV} {id : Nat} {ob : Ob} (h : ret v (σ.put id ob) = some out) : Grown σ out := grown_ret (σ' := σ.put id ob) (Nat.le_refl σ.n) h
theorem grown_add {v : IV} {ob : Ob} (h : ret v (σ.add ob) = some out) : Grown σ out := grown_ret (Nat.le_succ _) h
theorem mapSet_n {kt : TypeId} {m k v : IV} {σ' : St} (h : mapSet P ro kt m k v σ = some σ') : σ'.n = σ.n := by
  unfold mapSet at h
  repeat' split at h
  all_goals first | (cases h; done) | (cases h; rfl)
theorem callee_grown {f : IV} {args : List IV} (h : calleeI P f args = some out) : Grown σ out := by
  unfold calleeI at h
  repeat' split at h
  all_goals first | (cases h; done) | (cases h; exact trivial)
theorem invoke_grown {x : IV} {name : String} {args : List IV} (h : invokeI P x name args = some out) : Grown σ out := by
  unfold invokeI at h
  repeat' split at h
  all_goals first | (cases h; done) | (cases h; exact trivial)
theorem append_grown {argTypes : Array TypeId} {s x : IV} (h : appendI P ro argTypes s x σ = some out) : Grown σ out := by
  have hn : ∀ {size sLen n : Nat} {new : List IV} {s : IV}, appendNew size sLen n new s σ = some out → Grown σ out := by
    intro size sLen n new s h
    unfold appendNew at h
    split at h
    · split at h
      · exact grown_add h
      · cases h
    · cases h
  unfold appendI at h
  split at h
  · split at h
    · split at h
      · split at h
        · cases h
        · split at h
          · split at h
            · unfold appendTo at h
              repeat' split at h
              all_goals first | exact grown_same h | exact grown_put h | exact grown_ret (by exact Nat.le_refl σ.n) h | exact hn h | cases h
            · cases h
          · cases h
      · cases h
    · cases h
  · cases h
theorem builtin_grown {b : Builtin} {argTypes : Array TypeId} {args : List IV} (h : builtinI P ro b argTypes args σ = some out) : Grown σ out := by
  unfold builtinI at h
  split at h
  · split at h
    · exact append_grown h
    · cases h
  · split at h
    · rw [Option.map_eq_some_iff] at h; obtain ⟨z, hz, rfl⟩ := h; exact Nat.le_refl _
    · cases h
  · split at h
    · rw [Option.map_eq_some_iff] at h; obtain ⟨z, hz, rfl⟩ := h; exact Nat.le_refl _
    · cases h
  · rw [Option.map_eq_some_iff] at h; obtain ⟨z, hz, rfl⟩ := h; exact Nat.le_refl _
  · rw [Option.map_eq_some_iff] at h; obtain ⟨z, hz, rfl⟩ := h; exact Nat.le_refl _
  · split at h
    · unfold deleteB at h
      repeat' split at h
      all_goals first | exact grown_put h | cases h
    · cases h
  · split at h
    · unfold clearB at h
      repeat' split at h
      all_goals first | exact grown_same h | exact grown_put h | cases h
    · cases h
  · split at h
    · unfold copyB at h
      repeat' split at h
      all_goals first | exact grown_same h | exact grown_put h | cases h
    · cases h
  · cases h
theorem op_grown (h : evOp P ro ρ o σ = some out) : Grown σ out := by
  unfold evOp at h
  cases ho : o.op <;> rw [ho] at h <;> (try dsimp only at h)
  case call c =>
    split at h
    · exact builtin_grown h
    · exact callee_grown h
    · exact invoke_grown h
  case defer c =>
    split at h
    · split at h
      · cases h; exact trivial
      · cases h
    · cases h
  case mapUpdate =>
    split at h
    · split at h
      · rename_i σ' hs
        exact grown_ret (Nat.le_of_eq (mapSet_n hs).symm) h
      · cases h
    · cases h
  case insert =>
    split at h
    · split at h
      · rename_i σ' hs
        exact grown_ret (Nat.le_of_eq (mapSet_n hs).symm) h
      · cases h
    · cases h
  all_goals (repeat' split at h)
  all_goals first | exact grown_same h | exact grown_put h | exact grown_add h | (cases h; done) | (cases h; exact trivial)
end Go.Ev
namespace Go.Ev
variable {P : Program} {N ro : Nat} {ι : Io} {w : World} {σ : St} {e : Env} {a : Act}
def EnvR (ι : Io) (e : Env) (ts : Array Value) : Prop := e.n = ts.size ∧ ∀ t, Rv ι (e.at t) (ts.getD t Go.undef)
def DfL (ι : Io) : List Df → List Deferred → Prop
  | [], [] => True
  | d :: ds, x :: xs => DfRel ι d x ∧ DfL ι ds xs
  | _, _ => False
theorem EnvR.mono {ι' : Io} (hι : Ext ι ι') {ts : Array Value} (h : EnvR ι e ts) : EnvR ι' e ts := ⟨h.1, fun t => (h.2 t).mono hι⟩
theorem DfRel.mono {ι' : Io} (hι : Ext ι ι') {d : Df} {x : Deferred} (h : DfRel ι d x) : DfRel ι' d x := by
  cases d with
  | coll id => obtain ⟨l, h1, h2⟩ := h; exact ⟨l, hι _ _ _ h1, h2⟩
  | call f as => obtain ⟨cap, us, vs, h1, h2, h3⟩ := h; exact ⟨cap, us, vs, h1, h2.mono hι, h3⟩
theorem DfL.mono {ι' : Io} (hι : Ext ι ι') : ∀ {ds : List Df} {xs : List Deferred}, DfL ι ds xs → DfL ι' ds xs
  | [], [], _ => trivial
  | _ :: _, _ :: _, h => ⟨DfRel.mono hι h.1, DfL.mono hι h.2⟩
  | [], _ :: _, h => h.elim
  | _ :: _, [], h => h.elim
theorem DfL.nil {xs : List Deferred} (h : DfL ι [] xs) : xs = [] := by cases xs with | nil => rfl | cons => exact h.elim
theorem rv_undef : Rv ι .undef Go.undef := .raw _
theorem Env.at_put (e : Env) (d : Nat) (v : IV) (t : Nat) : (e.put (some d) v).at t = if d < e.n ∧ d = t then v else e.at t := by
  unfold Env.put
  simp only
  by_cases h : d < e.n
  · have hb : Nat.blt d e.n = true := by simpa [Nat.blt_eq] using h
    rw [hb]
    simp only [if_true, Env.at, T.get_set]
    by_cases hd : d = t
    · simp [hd]; intro h2; omega
    · simp [hd]
  · have hb : Nat.blt d e.n = false := by
      cases hc : Nat.blt d e.n with
      | false => rfl
      | true => exact absurd (by simpa using hc) h
    rw [hb]
    simp [h]
theorem Env.n_put (e : Env) (d : Option Nat) (v : IV) : (e.put d v).n = e.n := by
  cases d with
  | none => rfl
  | some d => simp only [Env.put]; split <;> rfl
theorem EnvR.set {ts : Array Value} {v : IV} {u : Value} (h : EnvR ι e ts) (hv : Rv ι v u) (d : Nat) : EnvR ι (e.put (some d) v) (ts.setIfInBounds d u) := by
  refine ⟨by rw [Env.n_put, h.1]; simp, fun t => ?_⟩
  rw [Env.at_put]
  have hs : (ts.setIfInBounds d u).getD t Go.undef = if d < ts.size ∧ d = t then u else ts.getD t Go.undef := by
    simp only [Array.getD_eq_getD_getElem?, Array.getElem?_setIfInBounds]
    by_cases hd : d = t
    · subst hd
      by_cases hl : d < ts.size
      · simp [hl]
      · simp [hl]
    · simp [hd]
  rw [hs, ← h.1]
  split
  · exact hv
  · exact h.2 t
theorem EnvR.put {v : IV} {u : Value} (h : EnvR ι e a.tmps) (hv : Rv ι v u) (dst : Option Tmp) : EnvR ι (e.put dst v) (a.put dst u).tmps := by
  cases dst with
  | none => exact h
  | some d => exact h.set hv d
theorem EnvR.eval (h : EnvR ι e a.tmps) (x : Operand) : Rv ι (evalI e x) (a.eval x) := by
  cases x with
  | tmp t => exact h.2 t
  | const v => exact Rv.lift v
  | global g => exact .raw _
  | func f => exact .raw _
theorem rv_bool {x : IV} {b : Bool} (h : Rv ι x (.bool b)) : x = .raw (.bool b) := by
  generalize hu : Value.bool b = u at h
  cases h <;> first | (cases hu; done) | (cases hu; rfl)
theorem wanted_eq {o : Oper} {ops : Array Oper} (h : EnvR ι e a.tmps) : Region.wanted o (yielded ops a.tmps) = wantedI o ops e := by
  unfold Region.wanted wantedI
  cases hg : o.guard with
  | none => rfl
  | some g =>
    obtain ⟨j, want⟩ := g
    simp only [yielded]
    cases hd : (ops[j]?).bind (·.dst) with
    | none => rfl
    | some d =>
      simp only [Option.bind_some]
      by_cases hl : d < e.n
      · have hb : Nat.blt d e.n = true := by simpa [Nat.blt_eq] using hl
        rw [hb]
        have hl' : d < a.tmps.size := by rw [← h.1]; exact hl
        have hr := h.2 d
        rw [Array.getD_eq_getD_getElem?, Array.getElem?_eq_getElem hl', Option.getD_some] at hr
        rw [Array.getElem?_eq_getElem hl']
        simp only [if_true]
        generalize a.tmps[d] = u at hr
        cases u with
        | bool b => rw [rv_bool hr]; simp
        | _ =>
          generalize e.at d = x at hr
          cases hr <;> rfl
      · have hb : Nat.blt d e.n = false := by
          cases hc : Nat.blt d e.n with
          | false => rfl
          | true => exact absurd (by simpa using hc) hl
        rw [hb]
        have hl' : ¬ d < a.tmps.size := by rw [← h.1]; exact hl
        rw [Array.getElem?_eq_none (Nat.le_of_not_lt hl')]
        rfl
def noGoto (Q : Exit → Act → World → Prop) : Exit → Act → World → Prop
  | .goto _, _, _ => False
  | e, a, w => Q e a w
section scope
variable {F : Fence} {n : Nat} {b : Frame} {k : List Item} {cs : List Frame} {Q : Exit → Act → World → Prop}
theorem stepR_scope {c : Code} : step P (lone (b.atR a (.code (.scope c) :: k)) cs w) = .next (lone (b.atR a (.code c :: .inScope c :: k)) cs w) :=
  step_lone_go (by simp [stepG, stepG.exec, Frame.atR])
theorem stepR_inScope {c : Code} : step P (lone (b.atR a (.inScope c :: k)) cs w) = .next (lone (b.atR a k) cs w) :=
  step_lone_go (by simp [stepG, stepG.exec, Frame.atR])
theorem wpIn_scope {c : Code} (h : c.wpIn F n P (noGoto Q) a w) : (Code.scope c).wpIn F n P Q a w := by
  intro b k cs hro hb hr
  have h0 : (lone (b.atR a (.code (.scope c) :: k)) cs w).fenced P F := fenced_calm hb hr rfl
  obtain ⟨e, a₁, w₁, hq, harr⟩ := h b (.inScope c :: k) cs hro hb hr
  cases e with
  | normal => exact ⟨.normal, a₁, w₁, hq, .head h0 stepR_scope (StepsIn.trans harr (.one (fenced_calm hb hr rfl) stepR_inScope))⟩
  | exit id =>
    have hx : exitTo id (.inScope c :: k) = exitTo id k := by simp [exitTo]
    exact ⟨.exit id, a₁, w₁, hq, fun k' hk => .head h0 stepR_scope (harr.1 k' (by rw [hx]; exact hk)),
      fun hr' hk => let ⟨k₁, h1, h2⟩ := harr.2 hr' (by rw [hx]; exact hk); ⟨k₁, h1, .head h0 stepR_scope h2⟩⟩
  | goto l => exact hq.elim
  | ret => exact ⟨_, a₁, w₁, hq, .of_steps (.one h0 stepR_scope) harr⟩
  | panic ch => exact ⟨_, a₁, w₁, hq, .of_steps (.one h0 stepR_scope) harr⟩
  | outgrown => exact ⟨_, a₁, w₁, hq, .of_steps (.one h0 stepR_scope) harr⟩
end scope
def CodeMono (S : Self) : Prop := ∀ ro rd fn c e df σ cr, S.code ro rd fn c e df σ = some cr → σ.n ≤ cr.σ.n
structure CallMono (S : Self) : Prop where
  call : ∀ ro f args σ v σ', S.call ro f args σ = some (v, σ') → σ.n ≤ σ'.n
  pan : ∀ ro f args σ v σ', S.pan ro f args σ = some (v, σ') → σ.n ≤ σ'.n
  dcl : ∀ ro f args m σ m' σ', S.dcl ro f args m σ = some (m', σ') → σ.n ≤ σ'.n
variable {S : Self}
theorem round_mono (hc : CodeMono S) {l : Nat} {args : List IV} {v : IV} {σ' : St} (h : evRound S ro l args σ = some (v, σ')) : σ.n ≤ σ'.n := by
  unfold evRound at h
  split at h
  · split at h
    · cases h
    · simp only at h
      split at h
      · rename_i e1 σ1 h1
        split at h
        · split at h
          · rename_i ex e2 σ2 h2
            split at h
            · cases h
            split at h
            · cases h
              have := hc _ _ _ _ _ _ _ _ h1
              have := hc _ _ _ _ _ _ _ _ h2
              simp only [St.n_put] at *
              omega
            · cases h
          · cases h
        · cases h
      · cases h
  · cases h
theorem evX_mono (hc : CodeMono S) (hk : CallMono S) {o : Oper} {v : IV} {σ' : St} (h : evX P S ro e o σ = some (v, σ')) : σ.n ≤ σ'.n := by
  unfold evX at h
  split at h
  · rename_i v1 σ1 h1
    cases h
    exact op_grown h1
  · exact hk.call _ _ _ _ _ _ h
  · exact round_mono hc h
  · cases h
theorem ops_mono (hc : CodeMono S) (hk : CallMono S) {rd : Option Nat} {ops : Array Oper} : ∀ {l : List Oper} {e : Env} {df : List Df} {σ : St} {cr : CR}, evOps P S ro rd ops l e df σ = some cr → σ.n ≤ cr.σ.n
  | [], e, df, σ, cr, h => by cases h; exact Nat.le_refl _
  | o :: rest, e, df, σ, cr, h => by
    unfold evOps at h
    split at h
    · split at h
      · rename_i v σ1 h1
        exact Nat.le_trans (evX_mono hc hk h1) (ops_mono hc hk h)
      · split at h
        · split at h
          · exact ops_mono hc hk h
          · cases h
        · split at h
          · rename_i h2
            cases h
            exact hk.pan _ _ _ _ _ _ h2
          · cases h
        · cases h; exact Nat.le_refl _
        · cases h
    · exact ops_mono hc hk h
section draw
variable [Sm]
theorem drawStep_mono (hc : CodeMono S) (hk : CallMono S) {pl : Plan} {ops : Array Oper} {o : Oper} {j : Nat} {d d' : DS} (h : drawStep P S pl ro ops o j d = some d') : d.n ≤ d'.n := by
  unfold drawStep at h
  simp only at h
  split at h
  · cases h
  · split at h
    · split at h
      · split at h
        · split at h
          · cases h; exact Nat.le_refl _
          · cases h
        · cases h
      · split at h
        · rename_i h1; cases h; exact op_grown h1
        · cases h
      · split at h
        · split at h
          · cases h; exact Nat.le_refl _
          · cases h
        · cases h
      · split at h
        · rename_i h1; cases h; exact evX_mono (P := P) hc hk h1
        · cases h
      · split at h
        · rename_i h1
          split at h
          · cases h; exact evX_mono (P := P) hc hk h1
          · cases h
        · cases h
    · split at h
      · split at h
        · cases h; exact Nat.le_refl _
        · cases h
      · cases h; exact Nat.le_refl _
theorem drawAll_mono {SF : Nat → Self} (hc : ∀ j, CodeMono (SF j)) (hk : ∀ j, CallMono (SF j)) {pl : Plan} {ops : Array Oper} : ∀ {l : List (Oper × Nat)} {d d' : DS}, drawAll P SF pl ro ops l d = some d' → d.n ≤ d'.n
  | [], d, d', h => by cases h; exact Nat.le_refl _
  | (o, j) :: rest, d, d', h => by
    unfold drawAll at h
    split at h
    · rename_i d1 h1
      exact Nat.le_trans (drawStep_mono (hc j) (hk j) h1) (drawAll_mono hc hk h)
    · cases h
theorem drawF_mono {SF : Nat → Self} (hc : ∀ j, CodeMono (SF j)) (hk : ∀ j, CallMono (SF j)) {ops : Array Oper} {df : List Df} {cr : CR} (h : evDrawF P SF ro ops e df σ = some cr) : σ.n ≤ cr.σ.n := by
  unfold evDrawF at h
  simp only at h
  split at h
  · split at h
    · rename_i h1
      cases h
      exact drawAll_mono hc hk h1
    · cases h
  · cases h
end draw
theorem draw_mono (hc : CodeMono S) (hk : CallMono S) {ops : Array Oper} {df : List Df} {cr : CR} (h : evDraw P S ro ops e df σ = some cr) : σ.n ≤ cr.σ.n := @drawF_mono _ _ _ _ sameSm _ (fun _ => hc) (fun _ => hk) _ _ _ h
theorem code_mono (hc : CodeMono S) (hk : CallMono S) : CodeMono (evStep P S) := by
  intro ro rd fn c e df σ cr h
  change evCode P S ro rd fn c e df σ = some cr at h
  cases c <;> unfold evCode at h <;> dsimp only at h
  case skip => cases h; exact Nat.le_refl _
  case label => cases h; exact Nat.le_refl _
  case exit => cases h; exact Nat.le_refl _
  case goto => cases h; exact Nat.le_refl _
  case ret => cases h; exact Nat.le_refl _
  case refuse => cases h
  case region =>
    split at h
    · exact draw_mono hc hk h
    · exact ops_mono hc hk h
  case seq =>
    split at h
    · rename_i h1
      exact Nat.le_trans (hc _ _ _ _ _ _ _ _ h1) (hc _ _ _ _ _ _ _ _ h)
    · exact hc _ _ _ _ _ _ _ _ h
  case cond =>
    split at h
    · exact hc _ _ _ _ _ _ _ _ h
    · cases h
  case block =>
    split at h
    · rename_i h1
      split at h
      · cases h; have := hc _ _ _ _ _ _ _ _ h1; exact this
      · cases h; have := hc _ _ _ _ _ _ _ _ h1; exact this
    · exact hc _ _ _ _ _ _ _ _ h
  case loop =>
    split at h
    · rename_i h1
      exact Nat.le_trans (hc _ _ _ _ _ _ _ _ h1) (hc _ _ _ _ _ _ _ _ h)
    · exact hc _ _ _ _ _ _ _ _ h
  case scope =>
    split at h
    · cases h
    · exact hc _ _ _ _ _ _ _ _ h
  case rangeFunc =>
    split at h
    · rename_i dfs σ1 mark hen
      have h1 : σ.n ≤ σ1.n := by
        split at hen
        · cases hen; simp
        · split at hen
          · cases hen; exact Nat.le_refl _
          · cases hen
      split at h
      · split at h
        · rename_i h2
          have h3 := hk.call _ _ _ _ _ _ h2
          simp only [St.n_add] at h3
          split at h
          · split at h
            · cases h
            · split at h
              · cases h; simp only [St.n_put]; omega
              · have h4 := hc _ _ _ _ _ _ _ _ h
                simp only [St.n_put] at h4
                omega
          · cases h
        · cases h
      · cases h
    · cases h
theorem leave_mono (hk : CallMono S) : ∀ {df : List Df} {m m' : Option IV} {σ σ' : St}, evLeave S ro df m σ = some (m', σ') → σ.n ≤ σ'.n
  | [], m, m', σ, σ', h => by cases h; exact Nat.le_refl _
  | .coll id :: ds, m, m', σ, σ', h => by
    unfold evLeave at h
    split at h
    · split at h
      · exact leave_mono hk (σ := σ.put id (.dfd true)) h
      · cases h
    · cases h
  | .call f args :: ds, m, m', σ, σ', h => by
    unfold evLeave at h
    split at h
    · rename_i h1
      exact Nat.le_trans (hk.dcl _ _ _ _ _ _ _ h1) (leave_mono hk h)
    · cases h
theorem body_mono (hc : CodeMono S) (hk : CallMono S) {f : FuncId} {args : List IV} {r : Func × Env × Option IV × St} (h : evBody P S ro f args σ = some r) : σ.n ≤ r.2.2.2.n := by
  unfold evBody at h
  split at h
  · split at h
    · split at h
      · cases h
      · simp only at h
        split at h
        · rename_i h1
          split at h
          · rename_i h2
            cases h
            exact Nat.le_trans (hc _ _ _ _ _ _ _ _ h1) (leave_mono hk h2)
          · cases h
        · rename_i h1
          split at h
          · rename_i h2
            cases h
            exact Nat.le_trans (hc _ _ _ _ _ _ _ _ h1) (leave_mono hk h2)
          · cases h
        · rename_i h1
          split at h
          · rename_i h2
            cases h
            exact Nat.le_trans (hc _ _ _ _ _ _ _ _ h1) (leave_mono hk h2)
          · cases h
        · cases h
    · cases h
  · cases h
theorem dops_mono {ops : Array Oper} : ∀ {l : List Oper} {e : Env} {m : Option IV} {σ : St} {r : Env × Option IV × St}, evDOps P ro ops l e m σ = some r → σ.n ≤ r.2.2.n
  | [], e, m, σ, r, h => by cases h; exact Nat.le_refl _
  | o :: rest, e, m, σ, r, h => by
    unfold evDOps at h
    split at h
    · split at h
      · split at h
        · exact dops_mono h
        · exact dops_mono h
      · split at h
        · rename_i h1
          exact Nat.le_trans (op_grown h1) (dops_mono h)
        · cases h
    · exact dops_mono h
theorem evD_mono (hc : CodeMono S) {fn : FuncId} : ∀ {c : Code} {e : Env} {m : Option IV} {σ : St} {r : CR × Option IV}, evD P S ro fn c e m σ = some r → σ.n ≤ r.1.σ.n := by
  intro c
  have other : ∀ {c : Code} {e : Env} {m : Option IV} {σ : St} {r : CR × Option IV}, (match S.code ro none fn c e [] σ with | some r => some (r, m) | none => none) = some r → σ.n ≤ r.1.σ.n := by
    intro c e m σ r h
    split at h
    · rename_i h1; cases h; exact hc _ _ _ _ _ _ _ _ h1
    · cases h
  induction c with
  | seq a b iha ihb =>
    intro e m σ r h
    unfold evD at h
    split at h
    · rename_i h1
      exact Nat.le_trans (iha h1) (ihb h)
    · cases h
    · exact iha h
  | region id ops draw =>
    intro e m σ r h
    unfold evD at h
    split at h
    · split at h
      · rename_i h1
        cases h
        exact dops_mono h1
      · cases h
    · exact other h
  | _ => intro e m σ r h; unfold evD at h; exact other h
theorem call_mono (hc : CodeMono S) (hk : CallMono S) : CallMono (evStep P S) where
  call := by
    intro ro f args σ v σ' h
    simp only [evStep, evCall] at h
    split at h
    · rename_i h1
      split at h
      · cases h; exact body_mono hc hk h1
      · cases h
    · cases h
  pan := by
    intro ro f args σ v σ' h
    simp only [evStep, evPan] at h
    split at h
    · rename_i h1
      cases h; exact body_mono hc hk h1
    · cases h
  dcl := by
    intro ro f args m σ m' σ' h
    simp only [evStep, evDcl] at h
    split at h
    · split at h
      · cases h
      · split at h
        · split at h
          · cases h
          · split at h
            · rename_i h1
              split at h
              · cases h; exact evD_mono hc h1
              · cases h
            · rename_i h1
              split at h
              · cases h; exact evD_mono hc h1
              · cases h
            · cases h
        · cases h
    · cases h
end Go.Ev
