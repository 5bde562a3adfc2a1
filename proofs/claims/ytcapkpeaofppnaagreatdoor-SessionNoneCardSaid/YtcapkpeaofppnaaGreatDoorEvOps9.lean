/- A part of the verified evaluator of closed runs (EvOps9): lemmas and definitions over the model, without conditions of their own. -/
import Derived.Test.YtcapkpeaofppnaaGreatDoorEvOps8
namespace Go.Ev
variable {P : Program} {N ro : Nat} {ι : Io} {w : World} {σ : St} {ρ : Operand → IV} {r : Operand → Value} {o : Oper} {out : OpOut}

theorem pureRun_bind {α β : Type} (x : Sem α) (f : α → Sem β) : pureRun P (x >>= f) = (pureRun P x).bind fun a => pureRun P (f a) := by
  show pureRun P (x.bind f) = _
  induction x with
  | pure a => rfl
  | program k ih => simp only [Sem.bind, pureRun]; exact ih P
  | mark m k ih => simp only [Sem.bind, pureRun]; exact ih
  | _ => rfl
theorem pureRun_bind_some {α β : Type} {x : Sem α} {f : α → Sem β} {b : β} (h : pureRun P (x >>= f) = some b) : ∃ a, pureRun P x = some a ∧ pureRun P (f a) = some b := by
  rw [pureRun_bind] at h
  exact Option.bind_eq_some_iff.1 h

/-- Two lists of entries with the same keys. -/
def SameKeys (es es' : List MapEntry) : Prop := es.length = es'.length ∧ ∀ (i : Nat) (e e' : MapEntry), es[i]? = some e → es'[i]? = some e' → e.key = e'.key

theorem SameKeys.tail {e e' : MapEntry} {es es' : List MapEntry} (h : SameKeys (e :: es) (e' :: es')) : e.key = e'.key ∧ SameKeys es es' :=
  ⟨h.2 0 e e' rfl rfl, by simpa using h.1, fun i a b h1 h2 => h.2 (i + 1) a b h1 h2⟩

theorem findNow_keys {kind : TypeDesc} {k : Value} : ∀ {es es' : List MapEntry} (i : Nat) {q : Option (Nat × Value)}, SameKeys es es' → Instr.findNow kind k es i = some q →
    (q = none ∧ Instr.findNow kind k es' i = some none) ∨ (∃ j v e', q = some (j, v) ∧ i ≤ j ∧ es'[j - i]? = some e' ∧ Instr.findNow kind k es' i = some (some (j, e'.val)))
  | [], es', i, q, hk, h => by
    cases es' with
    | nil => simp only [Instr.findNow, Option.some.injEq] at h; subst h; exact .inl ⟨rfl, rfl⟩
    | cons a b => have := hk.1; simp at this
  | e :: es, es', i, q, hk, h => by
    cases es' with
    | nil => have := hk.1; simp at this
    | cons e' es' =>
      obtain ⟨h1, h2⟩ := hk.tail
      simp only [Instr.findNow] at h ⊢
      rw [h1] at h
      split at h
      · rename_i hs
        cases h
        exact .inr ⟨i, _, e', rfl, Nat.le_refl _, by simp, rfl⟩
      · rename_i hs
        rcases findNow_keys (i + 1) h2 h with ⟨h3, h4⟩ | ⟨j, v, e2, h3, h4, h5, h6⟩
        · exact .inl ⟨h3, h4⟩
        · refine .inr ⟨j, v, e2, h3, by omega, ?_, h6⟩
          rw [show j - i = (j - (i + 1)) + 1 by omega, List.getElem?_cons_succ]; exact h5
      · cases h
theorem findNow_none {kind : TypeDesc} {k : Value} : ∀ {es es' : List MapEntry} (i : Nat), SameKeys es es' → Instr.findNow kind k es i = none → Instr.findNow kind k es' i = none
  | [], es', i, hk, h => by simp [Instr.findNow] at h
  | e :: es, es', i, hk, h => by
    cases es' with
    | nil => have := hk.1; simp at this
    | cons e' es' =>
      obtain ⟨h1, h2⟩ := hk.tail
      simp only [Instr.findNow] at h ⊢
      rw [h1] at h
      split at h
      · cases h
      · exact findNow_none (i + 1) h2 h
      · rfl
theorem findAsking_keys {kt : TypeId} {k : Value} : ∀ {es es' : List MapEntry} (i : Nat) {q : Option (Nat × Value)}, SameKeys es es' → pureRun P (Instr.findAsking kt k es i) = some q →
    (q = none ∧ ∀ w, (Instr.findAsking kt k es' i).run P w = .ok none w) ∨ (∃ j v e', q = some (j, v) ∧ i ≤ j ∧ es'[j - i]? = some e' ∧ ∀ w, (Instr.findAsking kt k es' i).run P w = .ok (some (j, e'.val)) w)
  | [], es', i, q, hk, h => by
    cases es' with
    | nil => simp only [Instr.findAsking] at h; cases h; exact .inl ⟨rfl, fun w => rfl⟩
    | cons a b => have := hk.1; simp at this
  | e :: es, es', i, q, hk, h => by
    cases es' with
    | nil => have := hk.1; simp at this
    | cons e' es' =>
      obtain ⟨h1, h2⟩ := hk.tail
      simp only [Instr.findAsking] at h ⊢
      rw [h1] at h
      obtain ⟨b, hb, h⟩ := pureRun_bind_some h
      cases b with
      | true =>
        simp only [if_true] at h
        cases h
        refine .inr ⟨i, _, e', rfl, Nat.le_refl _, by simp, fun w => ?_⟩
        simp only [Sem.run_bind, pureRun_run w _ hb, Result.andThen_ok, if_true, Sem.run_pure]
      | false =>
        simp only [Bool.false_eq_true, if_false] at h
        rcases findAsking_keys (i + 1) h2 h with ⟨h3, h4⟩ | ⟨j, v, e2, h3, h4, h5, h6⟩
        · refine .inl ⟨h3, fun w => ?_⟩
          simp only [Sem.run_bind, pureRun_run w _ hb, Result.andThen_ok, Bool.false_eq_true, if_false, h4]
        · refine .inr ⟨j, v, e2, h3, by omega, ?_, fun w => ?_⟩
          · rw [show j - i = (j - (i + 1)) + 1 by omega, List.getElem?_cons_succ]; exact h5
          · simp only [Sem.run_bind, pureRun_run w _ hb, Result.andThen_ok, Bool.false_eq_true, if_false, h6]

theorem keyAt_ok {empty : Bool} {kt : TypeId} {k : Value} {es : List (Value × IV × Nat)} {res : Array MapEntry} {q : Option Nat} (he : EntRel ι es res) (h : keyAt P empty kt k es = some q) (w : World) :
    (Instr.checkKey empty 10000 kt k).run P w = .ok () w ∧
    ((q = none ∧ (Instr.findKey kt k res.toList).run P w = .ok none w) ∨ (∃ i e rr, q = some i ∧ es[i]? = some e ∧ res[i]? = some rr ∧ (Instr.findKey kt k res.toList).run P w = .ok (some (i, rr.val)) w)) := by
  have hk : SameKeys (es.map fun e => { key := e.1, val := Go.undef, born := e.2.2 }) res.toList := by
    refine ⟨by simp [he.1], fun i a b h1 h2 => ?_⟩
    simp only [List.getElem?_map, Option.map_eq_some_iff] at h1
    obtain ⟨e, h1, rfl⟩ := h1
    exact (he.2 i e b h1 (by simpa using h2)).1.symm
  have fin : ∀ {q' : Option (Nat × Value)}, pureRun P (Instr.findKey kt k (es.map fun e => { key := e.1, val := Go.undef, born := e.2.2 })) = some q' →
      (q' = none ∧ (Instr.findKey kt k res.toList).run P w = .ok none w) ∨ (∃ i v rr, q' = some (i, v) ∧ res[i]? = some rr ∧ (Instr.findKey kt k res.toList).run P w = .ok (some (i, rr.val)) w) := by
    intro q' h
    unfold Instr.findKey at h ⊢
    obtain ⟨d, hd, h⟩ := pureRun_bind_some h
    have hdr := pureRun_run w _ hd
    simp only [Sem.run_bind, hdr, Result.andThen_ok]
    split at h
    · rename_i q2 hq2
      cases h
      rcases findNow_keys 0 hk hq2 with ⟨h3, h4⟩ | ⟨j, v, e2, h3, h4, h5, h6⟩
      · exact .inl ⟨h3, by rw [h4]; rfl⟩
      · exact .inr ⟨j, v, e2, h3, by simpa using h5, by rw [h6]; rfl⟩
    · rename_i hq2
      rw [findNow_none 0 hk hq2]
      rcases findAsking_keys 0 hk h with ⟨h3, h4⟩ | ⟨j, v, e2, h3, h4, h5, h6⟩
      · exact .inl ⟨h3, h4 w⟩
      · exact .inr ⟨j, v, e2, h3, by simpa using h5, h6 w⟩
  unfold keyAt at h
  split at h
  · rename_i i v hp
    cases h
    obtain ⟨_, h1, h2⟩ := pureRun_bind_some hp
    refine ⟨pureRun_run w _ h1, .inr ?_⟩
    rcases fin h2 with ⟨h3, _⟩ | ⟨j, v', rr, h3, h4, h5⟩
    · cases h3
    · cases h3
      have hlt : i < es.length := by have := (Array.getElem?_eq_some_iff.1 h4).1; have := he.1; omega
      exact ⟨i, es[i], rr, rfl, List.getElem?_eq_getElem hlt, h4, h5⟩
  · rename_i hp
    cases h
    obtain ⟨_, h1, h2⟩ := pureRun_bind_some hp
    refine ⟨pureRun_run w _ h1, .inl ⟨rfl, ?_⟩⟩
    rcases fin h2 with ⟨_, h4⟩ | ⟨j, v', rr, h3, h4, h5⟩
    · exact h4
    · cases h3
  · cases h

theorem EntRel.nil : EntRel ι [] #[] := ⟨rfl, fun i e r h => by simp at h⟩
theorem EntRel.isEmpty {es : List (Value × IV × Nat)} {res : Array MapEntry} (h : EntRel ι es res) : es.isEmpty = res.isEmpty := by
  have := h.1
  rw [Bool.eq_iff_iff, List.isEmpty_iff, Array.isEmpty_iff]
  rw [← List.length_eq_zero_iff, ← Array.size_eq_zero_iff, this]

theorem op_lookup {t : TypeId} {x ix : Operand} {ok : Bool} (hi : Inv N ι σ w) (hr : Rv ι (ρ x) (r x)) (hrx : Rv ι (ρ ix) (r ix)) (ho : o.op = .lookup t x ix ok) (h : evOp P ro ρ o σ = some out) : OutOk P ro N ι w σ r o out := by
  unfold evOp at h; rw [ho] at h; simp only at h
  split at h
  · rename_i kt elem es key hu hes hkey
    have hk := toRaw_ok hkey hrx
    have hmap : ∃ res, EntRel ι es res ∧ ((r x = .map none ∧ res = #[]) ∨ ∃ b clock, r x = .map (some b) ∧ w.heap[b]? = some (.map res clock)) := by
      generalize hq : r x = q at hr
      unfold entriesOf at hes
      split at hes
      · rename_i hx
        rw [hx] at hr
        cases hes; cases hr
        exact ⟨#[], EntRel.nil, .inl ⟨rfl, rfl⟩⟩
      · rename_i id hx
        rw [hx] at hr
        split at hes
        · rename_i es' clock hat
          cases hes
          cases hr with
          | map _ l hl =>
            obtain ⟨l', res, hl', hh, he⟩ := hi.obj id _ hat
            rw [hl] at hl'; cases hl'
            exact ⟨res, he, .inr ⟨l.b, clock, rfl, hh⟩⟩
        · cases hes
      · cases hes
    obtain ⟨res, he, hres⟩ := hmap
    split at h
    · rename_i i z hka hz
      split at h
      · rename_i e hei
        obtain rfl := ret_val h
        obtain ⟨hc, hf⟩ := keyAt_ok he hka w
        rcases hf with ⟨hn, _⟩ | ⟨j, e', rr, hj, h1, h2, h3⟩
        · cases hn
        · cases hj
          rw [hei] at h1; cases h1
          obtain ⟨_, hv, _⟩ := he.2 i e rr hei h2
          refine OutOk.same hi (u := if ok then .tuple #[rr.val, .bool true] else rr.val) ?_ ?_
          · rw [he.isEmpty] at hc
            rcases hres with ⟨hx, rfl⟩ | ⟨b, clock, hx, hh⟩
            · simp only [execOp, ho, Instr.lookup, Sem.run_bind, run_und hu, Result.andThen_ok, hx, hk, hc, h3, Sem.run_pure]
            · simp only [execOp, ho, Instr.lookup, Sem.run_bind, run_und hu, Result.andThen_ok, hx, run_getObj (P := P) hh (by simp), hk, hc, h3, Sem.run_pure]
          · cases ok
            · exact hv
            · have := RvL.cons hv (RvL.cons (Rv.raw (ι := ι) (.bool true)) RvL.nil)
              exact .tup _ _ this.1 this.2
      · cases h
    · rename_i z hka hz
      obtain rfl := ret_val h
      obtain ⟨hc, hf⟩ := keyAt_ok he hka w
      rcases hf with ⟨_, h3⟩ | ⟨j, e', rr, hj, h1, h2, h3⟩
      · refine OutOk.same hi (u := if ok then .tuple #[z, .bool false] else z) ?_ ?_
        · rw [he.isEmpty] at hc
          rcases hres with ⟨hx, rfl⟩ | ⟨b, clock, hx, hh⟩
          · simp only [execOp, ho, Instr.lookup, Sem.run_bind, run_und hu, Result.andThen_ok, hx, hk, hc, h3, run_zero hz, Sem.run_pure]
          · simp only [execOp, ho, Instr.lookup, Sem.run_bind, run_und hu, Result.andThen_ok, hx, run_getObj (P := P) hh (by simp), hk, hc, h3, run_zero hz, Sem.run_pure]
        · cases ok
          · exact Rv.lift z
          · have := RvL.cons (Rv.lift (ι := ι) z) (RvL.cons (Rv.raw (ι := ι) (.bool false)) RvL.nil)
            exact .tup _ _ this.1 this.2
      · cases hj
    · cases h
  · cases h

theorem EntRel.set {es : List (Value × IV × Nat)} {res : Array MapEntry} {i : Nat} {e : Value × IV × Nat} {key : Value} {v : IV} {u : Value} {f : MapEntry → MapEntry} (h : EntRel ι es res) (he : es[i]? = some e) (hv : Rv ι v u)
    (hf : ∀ rr, res[i]? = some rr → f rr = { key := key, val := u, born := rr.born }) : EntRel ι (es.set i (key, v, e.2.2)) (res.modify i f) := by
  refine ⟨by simp [h.1], fun j a b h1 h2 => ?_⟩
  rw [List.getElem?_set] at h1
  rw [Array.getElem?_modify] at h2
  by_cases hij : i = j
  · subst hij
    rw [if_pos rfl] at h1 h2
    split at h1
    · cases h1
      cases hrr : res[i]? with
      | none => simp [hrr] at h2
      | some rr =>
        obtain ⟨_, _, hb⟩ := h.2 i e rr he hrr
        simp only [hrr, Option.map_some, Option.some.injEq] at h2
        rw [hf rr hrr] at h2
        subst h2
        exact ⟨rfl, hv, hb⟩
    · cases h1
  · rw [if_neg hij] at h1 h2
    exact h.2 j a b h1 h2
theorem EntRel.push {es : List (Value × IV × Nat)} {res : Array MapEntry} {key : Value} {v : IV} {u : Value} {n : Nat} (h : EntRel ι es res) (hv : Rv ι v u) : EntRel ι (es ++ [(key, v, n)]) (res.push { key := key, val := u, born := n }) := by
  refine ⟨by simp [h.1], fun j a b h1 h2 => ?_⟩
  rw [Array.getElem?_push] at h2
  by_cases hj : j < es.length
  · rw [List.getElem?_append_left hj] at h1
    rw [if_neg (by have := h.1; omega)] at h2
    exact h.2 j a b h1 h2
  · rw [List.getElem?_append_right (by omega)] at h1
    by_cases hj2 : j = es.length
    · subst hj2
      rw [if_pos h.1] at h2
      simp at h1 h2
      subst h1 h2
      exact ⟨rfl, hv, rfl⟩
    · have : 1 ≤ j - es.length := by omega
      rw [List.getElem?_eq_none (by simp; omega)] at h1
      cases h1

/-- The map object of a map value. -/
theorem map_obj (hi : Inv N ι σ w) {id clock : Nat} {es : List (Value × IV × Nat)} {u : Value} (hr : Rv ι (.map id) u) (hat : σ.at id = some (.map es clock)) :
    ∃ l res, u = .map (some l.b) ∧ ι id 0 = some l ∧ w.heap[l.b]? = some (.map res clock) ∧ l.b < w.heap.size ∧ EntRel ι es res := by
  cases hr with
  | map _ l hl =>
    obtain ⟨l', res, hl', hh, he⟩ := hi.obj id _ hat
    rw [hl] at hl'; cases hl'
    exact ⟨l, res, rfl, hl, hh, hi.bnd id _ ⟨_, _, hl, rfl⟩, he⟩

theorem objRel_map {l : Loc} {id clock : Nat} {es : List (Value × IV × Nat)} {res : Array MapEntry} (hl : ι id 0 = some l) (hlt : l.b < w.heap.size) (he : EntRel ι es res) :
    ObjRel ι { w with heap := w.heap.setIfInBounds l.b (.map res clock) } id (.map es clock) := ⟨l, res, hl, by simp [hlt], he⟩

theorem run_stays {old new : Value} (h : Instr.sameBits 10000 old new = true) (w : World) : (Instr.keyThatStays old new).run P w = .ok new w := by
  unfold Instr.keyThatStays
  rw [if_pos h]; rfl

theorem mapSet_ok {t kt elem : TypeId} {m k v : IV} {um uk uv : Value} {σ' : St} (hi : Inv N ι σ w) (hu : P.underlying t = some (.map kt elem)) (hm : Rv ι m um) (hk : Rv ι k uk) (hv : Rv ι v uv)
    (h : mapSet P ro kt m k v σ = some σ') : ∃ w', (Instr.mapUpdate t um uk uv).run P w = .ok () w' ∧ Inv N ι σ' w' ∧ Le ro ι w σ ι w' σ' := by
  unfold mapSet at h
  split at h
  · rename_i id key hkey
    have hkk := toRaw_ok hkey hk
    subst hkk
    split at h
    · rename_i es clock hat
      obtain ⟨l, res, rfl, hl, hh, hlt, he⟩ := map_obj hi hm hat
      split at h
      · cases h
      · rename_i hro
        have hro : ro ≤ id := Nat.le_of_not_lt fun h => hro (by omega)
        split at h
        · rename_i i hka
          split at h
          · rename_i e hei
            split at h
            · rename_i hsb
              cases h
              obtain ⟨hc, hf⟩ := keyAt_ok he hka w
              rcases hf with ⟨hn, _⟩ | ⟨j, e', rr, hj, h1, h2, h3⟩
              · cases hn
              · cases hj
                rw [hei] at h1; cases h1
                have hkeyr := (he.2 i e rr hei h2).1
                obtain ⟨r1, r2⟩ := hi.setObj' (ro := ro) hat hro hl (objRel_map (clock := clock) hl hlt (he.set hei hv (key := uk) (f := fun e => { e with key := uk, val := uv }) (fun rr _ => rfl)))
                refine ⟨_, ?_, r1, r2⟩
                have hst : (Instr.keyThatStays (((res[i]?).map (·.key)).getD uk) uk).run P w = .ok uk w := by
                  rw [h2]; simp only [Option.map_some, Option.getD_some]
                  exact run_stays (by rw [hkeyr]; exact hsb) w
                simp only [Instr.mapUpdate, Sem.run_bind, run_und hu, Result.andThen_ok, run_getObj (P := P) hh (by simp), hc, h3, hst, run_setObj (P := P) hh (by simp)]
            · cases h
          · cases h
        · rename_i hka
          cases h
          obtain ⟨hc, hf⟩ := keyAt_ok he hka w
          rcases hf with ⟨_, h3⟩ | ⟨j, e', rr, hj, h1, h2, h3⟩
          · obtain ⟨r1, r2⟩ := hi.setObj' (ro := ro) hat hro hl (objRel_map (clock := clock + 1) hl hlt (he.push hv (key := uk) (n := clock)))
            refine ⟨_, ?_, r1, r2⟩
            simp only [Instr.mapUpdate, Sem.run_bind, run_und hu, Result.andThen_ok, run_getObj (P := P) hh (by simp), hc, h3, run_setObj (P := P) hh (by simp)]
          · cases hj
        · cases h
    · cases h
  · cases h

theorem op_mapUpdate {t : TypeId} {m k x : Operand} (hi : Inv N ι σ w) (hm : Rv ι (ρ m) (r m)) (hk : Rv ι (ρ k) (r k)) (hx : Rv ι (ρ x) (r x)) (ho : o.op = .mapUpdate t m k x ∨ o.op = .insert t m k x)
    (h : evOp P ro ρ o σ = some out) : OutOk P ro N ι w σ r o out := by
  have h' : (match P.underlying t with
    | some (.map kt _) => match mapSet P ro kt (ρ m) (ρ k) (ρ x) σ with
      | some σ' => ret .undef σ'
      | none => none
    | _ => none) = some out := by
    unfold evOp at h
    rcases ho with ho | ho <;> rw [ho] at h <;> exact h
  clear h
  split at h'
  · rename_i kt elem hu
    split at h'
    · rename_i σ' hs
      obtain rfl := ret_val h'
      intro hN
      obtain ⟨w', h1, h2, h3⟩ := mapSet_ok (N := N) hi hu hm hk hx hs
      refine ⟨Go.undef, w', ι, .inr ⟨?_, rfl⟩, .raw _, h2, h3⟩
      rcases ho with ho | ho <;> simp only [execOp, ho, Sem.run_bind, h1, Result.andThen_ok, Sem.run_pure]
    · cases h'
  · cases h'

theorem op_mapEntry {t : TypeId} {m k : Operand} (hi : Inv N ι σ w) (hm : Rv ι (ρ m) (r m)) (hk : Rv ι (ρ k) (r k)) (ho : o.op = .mapEntry t m k) (h : evOp P ro ρ o σ = some out) : OutOk P ro N ι w σ r o out := by
  unfold evOp at h; rw [ho] at h; simp only at h
  split at h
  · rename_i kt elem hu
    split at h
    · rename_i z id key hz hmid hkey
      have hkk := toRaw_ok hkey hk
      rw [hmid] at hm
      split at h
      · rename_i es clock hat
        obtain ⟨l, res, hum, hl, hh, hlt, he⟩ := map_obj hi hm hat
        split at h
        · cases h
        · rename_i hro
          have hro : ro ≤ id := Nat.le_of_not_lt fun h => hro (by omega)
          split at h
          · rename_i i hka
            split at h
            · rename_i e hei
              split at h
              · rename_i hsb
                obtain rfl := ret_val h
                intro hN
                obtain ⟨hc, hf⟩ := keyAt_ok he hka w
                rcases hf with ⟨hn, _⟩ | ⟨j, e', rr, hj, h1, h2, h3⟩
                · cases hn
                · cases hj
                  rw [hei] at h1; cases h1
                  obtain ⟨hkeyr, hvr, hbr⟩ := he.2 i e rr hei h2
                  obtain ⟨r1, r2⟩ := hi.setObj' (ro := ro) hat hro hl (objRel_map (clock := clock) hl hlt (he.set hei hvr (key := key) (f := fun e => { e with key := key }) (fun rr' hrr' => by rw [h2] at hrr'; cases hrr'; rfl)))
                  refine ⟨.tuple #[rr.val, .int .i64 e.2.2], _, ι, .inl ?_, ?_, r1, r2⟩
                  · have hst : (Instr.keyThatStays rr.key key).run P w = .ok key w := run_stays (by rw [hkeyr]; exact hsb) w
                    simp only [execOp, ho, Instr.mapEntry, hum, hkk, Sem.run_bind, run_und hu, Result.andThen_ok, run_getObj (P := P) hh (by simp), hc, h3, hst, run_setObj (P := P) hh (by simp), Sem.run_pure, h2, Option.map_some, Option.getD_some, hbr, goInt]
                  · have := RvL.cons hvr (RvL.cons (Rv.raw (ι := ι) (.int .i64 e.2.2)) RvL.nil)
                    exact .tup _ _ this.1 this.2
              · cases h
            · cases h
          · rename_i hka
            obtain rfl := ret_val h
            intro hN
            obtain ⟨hc, hf⟩ := keyAt_ok he hka w
            rcases hf with ⟨_, h3⟩ | ⟨j, e', rr, hj, h1, h2, h3⟩
            · obtain ⟨r1, r2⟩ := hi.setObj' (ro := ro) hat hro hl (objRel_map (clock := clock + 1) hl hlt (he.push (Rv.lift (ι := ι) z) (key := key) (n := clock)))
              refine ⟨.tuple #[z, .int .i64 clock], _, ι, .inl ?_, ?_, r1, r2⟩
              · simp only [execOp, ho, Instr.mapEntry, hum, hkk, Sem.run_bind, run_und hu, Result.andThen_ok, run_getObj (P := P) hh (by simp), hc, h3, run_zero hz, run_setObj (P := P) hh (by simp), Sem.run_pure, goInt]
              · have := RvL.cons (Rv.lift (ι := ι) z) (RvL.cons (Rv.raw (ι := ι) (.int .i64 clock)) RvL.nil)
                exact .tup _ _ this.1 this.2
            · cases hj
          · cases h
      · cases h
    · cases h
  · cases h
end Go.Ev
