/- A part of the verified evaluator of closed runs (EvOps10): lemmas and definitions over the model, without conditions of their own. -/
import Derived.Test.YtcapkpeaofppnaaGreatDoorEvOps9
namespace Go.Ev
variable {P : Program} {N ro : Nat} {ι : Io} {w : World} {σ : St} {ρ : Operand → IV} {r : Operand → Value} {o : Oper} {out : OpOut}

theorem op_entryStore {t : TypeId} {m st x : Operand} (hi : Inv N ι σ w) (hm : Rv ι (ρ m) (r m)) (hs : Rv ι (ρ st) (r st)) (hx : Rv ι (ρ x) (r x)) (ho : o.op = .entryStore t m st x)
    (h : evOp P ro ρ o σ = some out) : OutOk P ro N ι w σ r o out := by
  unfold evOp at h; rw [ho] at h; simp only at h
  split at h
  · rename_i id k born hmid hst
    have est := rv_raw hst hs
    rw [hmid] at hm
    split at h
    · rename_i es clock hat
      obtain ⟨l, res, hum, hl, hh, hlt, he⟩ := map_obj hi hm hat
      split at h
      · cases h
      · rename_i hro
        have hro : ro ≤ id := Nat.le_of_not_lt fun h => hro (by omega)
        split at h
        · rename_i i hfi
          split at h
          · rename_i e hei
            obtain rfl := ret_val h
            intro hN
            have hlt2 : i < res.size := by have := (List.getElem?_eq_some_iff.1 hei).1; have := he.1; omega
            have h2 : res[i]? = some res[i] := Array.getElem?_eq_getElem hlt2
            obtain ⟨hkeyr, _, _⟩ := he.2 i e _ hei h2
            obtain ⟨r1, r2⟩ := hi.setObj' (ro := ro) hat hro hl (objRel_map (clock := clock) hl hlt (he.set hei hx (key := e.1) (f := fun e => { e with val := r x }) (fun rr' hrr' => by
              rw [h2] at hrr'; cases hrr'; rw [← hkeyr])))
            have hfr : res.findIdx? (fun e => (e.born : Int) == born) = some i := by
              rw [show res = res.toList.toArray by simp, List.findIdx?_toArray]
              have : ∀ (es : List (Value × IV × Nat)) (rs : List MapEntry) (i : Nat), es.length = rs.length → (∀ (j : Nat) (e : Value × IV × Nat) (rr : MapEntry), es[j]? = some e → rs[j]? = some rr → rr.born = e.2.2) →
                  es.findIdx? (fun e => (e.2.2 : Int) == born) = some i → rs.findIdx? (fun e => (e.born : Int) == born) = some i := by
                intro es
                induction es with
                | nil => intro rs i hl _ hf; simp at hf
                | cons e es ih =>
                  intro rs i hl hb hf
                  cases rs with
                  | nil => simp at hl
                  | cons rr rs =>
                    have h0 := hb 0 e rr rfl rfl
                    rw [List.findIdx?_cons] at hf ⊢
                    rw [h0]
                    split at hf
                    · rename_i hc; rw [if_pos hc]; exact hf
                    · rename_i hc
                      rw [if_neg hc]
                      simp only [Option.map_eq_some_iff] at hf ⊢
                      obtain ⟨j, hj, rfl⟩ := hf
                      exact ⟨j, ih rs j (by simpa using hl) (fun k a b h1 h2 => hb (k + 1) a b h1 h2) hj, rfl⟩
              exact this es res.toList i (by simpa using he.1) (fun j e rr h1 h2 => (he.2 j e rr h1 (by simpa using h2)).2.2) hfi
            refine ⟨Go.undef, _, ι, .inr ⟨?_, rfl⟩, .raw _, r1, r2⟩
            simp only [execOp, ho, Instr.entryStore, hum, est, asInt, asIntOf, Sem.run_bind, Sem.run_pure, Result.andThen_ok, run_getObj (P := P) hh (by simp), hfr, run_setObj (P := P) hh (by simp)]
          · cases h
        · cases h
    · cases h
  · cases h

theorem deleteB_ok {argTypes : Array TypeId} {ty : TypeId} {m k : IV} {um uk : Value} (hi : Inv N ι σ w) (hm : Rv ι m um) (hk : Rv ι k uk) (h : deleteB P ro argTypes m k σ = some out) :
    ∃ v σ', out = .val v σ' ∧ (σ'.n ≤ N → GivesV P ro N ι w σ (Builtin.delete_ argTypes ty #[um, uk]) v σ') := by
  unfold deleteB at h
  cases hta : argTypes[0]? with
  | none => simp [hta] at h
  | some t =>
    rw [hta, Option.bind_some] at h
    have e0 : (#[um, uk] : Array Value)[0]? = some um := rfl
    have e1 : (#[um, uk] : Array Value)[1]? = some uk := rfl
    split at h
    · rename_i kt elem id key hu hkey
      have hkk := toRaw_ok hkey hk
      split at h
      · rename_i es clock hat
        obtain ⟨l, res, rfl, hl, hh, hlt, he⟩ := map_obj hi hm hat
        split at h
        · cases h
        · rename_i hro
          have hro : ro ≤ id := Nat.le_of_not_lt fun h => hro (by omega)
          split at h
          · rename_i i hka
            obtain rfl := ret_val h
            refine ⟨_, _, rfl, fun _ => ?_⟩
            obtain ⟨hc, hf⟩ := keyAt_ok he hka w
            rcases hf with ⟨hn, _⟩ | ⟨j, e', rr, hj, h1, h2, h3⟩
            · cases hn
            · cases hj
              have hrl : i < res.size := (Array.getElem?_eq_some_iff.1 h2).1
              have he' : EntRel ι (es.eraseIdx i) (res.eraseIdxIfInBounds i) := by
                have e2 : res.eraseIdxIfInBounds i = (res.toList.eraseIdx i).toArray := by
                  rw [Array.eraseIdxIfInBounds, dif_pos hrl]
                  apply Array.ext'
                  simp
                rw [e2]
                have hle := he.1
                refine ⟨by simp only [List.length_eraseIdx, List.size_toArray, Array.length_toList, hle], fun j a b ha hb => ?_⟩
                simp only [List.getElem?_toArray] at hb
                rw [List.getElem?_eraseIdx] at ha hb
                split at ha
                · rename_i hc; rw [if_pos hc] at hb; exact he.2 j a b ha (by simpa using hb)
                · rename_i hc; rw [if_neg hc] at hb; exact he.2 (j + 1) a b ha (by simpa using hb)
              obtain ⟨r1, r2⟩ := hi.setObj' (ro := ro) hat hro hl (objRel_map (clock := clock) hl hlt he')
              refine ⟨.tuple #[], _, ι, ?_, .raw _, r1, r2⟩
              unfold Builtin.delete_
              rw [hta, e0, e1]
              rw [he.isEmpty] at hc
              simp only [Sem.run_bind, run_und hu, Result.andThen_ok, run_getObj (P := P) hh (by simp), hkk, hc, h3, run_setObj (P := P) hh (by simp), Sem.run_pure]
          · rename_i hka
            obtain rfl := ret_val h
            refine ⟨_, _, rfl, fun _ => ?_⟩
            obtain ⟨hc, hf⟩ := keyAt_ok he hka w
            rcases hf with ⟨_, h3⟩ | ⟨j, e', rr, hj, h1, h2, h3⟩
            · obtain ⟨r1, r2⟩ := hi.setObj' (ro := ro) hat hro hl (objRel_map (clock := clock) hl hlt he)
              refine ⟨.tuple #[], _, ι, ?_, .raw _, r1, r2⟩
              unfold Builtin.delete_
              rw [hta, e0, e1]
              rw [he.isEmpty] at hc
              simp only [Sem.run_bind, run_und hu, Result.andThen_ok, run_getObj (P := P) hh (by simp), hkk, hc, h3, run_setObj (P := P) hh (by simp), Sem.run_pure]
            · cases hj
          · cases h
      · cases h
    · cases h

/-- A new object that is no row of cells. -/
theorem Inv.addObj (hi : Inv N ι σ w) (hN : σ.n < N) {go : Go.Obj} {ob : Ob} (hob : ObjRel (updI ι σ.n 0 ⟨w.heap.size, 1, 1⟩) { w with heap := w.heap.push go } σ.n ob) :
    Inv N (updI ι σ.n 0 ⟨w.heap.size, 1, 1⟩) (σ.add ob) { w with heap := w.heap.push go } ∧ Le ro ι w σ (updI ι σ.n 0 ⟨w.heap.size, 1, 1⟩) { w with heap := w.heap.push go } (σ.add ob) :=
  hi.add hN rfl rfl rfl rfl rfl hob

theorem op_range {t : TypeId} {x : Operand} (hi : Inv N ι σ w) (hr : Rv ι (ρ x) (r x)) (ho : o.op = .range t x) (h : evOp P ro ρ o σ = some out) : OutOk P ro N ι w σ r o out := by
  unfold evOp at h; rw [ho] at h; simp only at h
  have rv : ∀ (ι' : Io) (n b : Nat), Rv (updI ι' n 0 ⟨b, 1, 1⟩) (.ptr n 0 0 1) (.pointer (some ⟨b, 0, none⟩)) := fun ι' n b => .ptr _ _ _ _ _ (updI_self _ _ _ _) (by simp)
  split at h
  · rename_i s hu hx
    have e := rv_raw hx hr
    obtain rfl := ret_val h
    intro hN
    obtain ⟨h1, h2⟩ := hi.addObj (ro := ro) (go := .stringIter s 0) (ob := .siter s 0) (by simp at hN; omega) ⟨_, updI_self _ _ _ _, by simp⟩
    exact ⟨_, _, _, .inl (by simp only [execOp, ho, Instr.range, Sem.run_bind, run_und hu, Result.andThen_ok, e, Sem.run_pure, run_newObj]), rv _ _ _, h1, h2⟩
  · rename_i k e' hu hx
    have e := rv_raw hx hr
    obtain rfl := ret_val h
    intro hN
    obtain ⟨h1, h2⟩ := hi.addObj (ro := ro) (go := .mapIter none 0 #[] 0) (ob := .miter none 0 [] 0) (by simp at hN; omega) ⟨_, none, updI_self _ _ _ _, by simp, rfl⟩
    exact ⟨_, _, _, .inl (by simp only [execOp, ho, Instr.range, Sem.run_bind, run_und hu, Result.andThen_ok, e, Sem.run_pure, run_newObj]), rv _ _ _, h1, h2⟩
  · rename_i k e' m hu hx
    rw [hx] at hr
    split at h
    · rename_i es clock hat
      obtain ⟨l, res, hum, hl, hh, hlt, he⟩ := map_obj hi hr hat
      obtain rfl := ret_val h
      intro hN
      have hne : ι σ.n 0 = none := hi.fresh _ (Nat.le_refl _) (by simp at hN; omega) 0
      obtain ⟨h1, h2⟩ := hi.addObj (ro := ro) (go := .mapIter (some l.b) clock #[] clock) (ob := .miter (some m) clock [] clock) (by simp at hN; omega)
        ⟨_, some l.b, updI_self _ _ _ _, by simp, l, updI_ext hne _ _ _ hl, rfl⟩
      exact ⟨_, _, _, .inl (by simp only [execOp, ho, Instr.range, Sem.run_bind, run_und hu, Result.andThen_ok, hum, run_getObj (P := P) hh (by simp), Sem.run_pure, run_newObj]), rv _ _ _, h1, h2⟩
    · cases h
  · cases h

theorem rvtup {vs : List IV} {us : List Value} (h : RvL ι vs us) : Rv ι (.tup vs) (.tuple us.toArray) := .tup _ _ h.1 h.2

theorem op_next {it : Operand} {str : Bool} (hi : Inv N ι σ w) (hr : Rv ι (ρ it) (r it)) (ho : o.op = .next it str) (h : evOp P ro ρ o σ = some out) : OutOk P ro N ι w σ r o out := by
  unfold evOp at h; rw [ho] at h; simp only at h
  split at h
  · rename_i id hx
    rw [hx] at hr
    split at h
    · cases h
    · rename_i hro
      have hro : ro ≤ id := Nat.le_of_not_lt fun h => hro (by omega)
      generalize hq : r it = q at hr
      cases hr with
      | ptr _ _ _ _ l hl hle =>
        have hlt : l.b < w.heap.size := hi.bnd id _ ⟨_, _, hl, rfl⟩
        split at h
        · rename_i s pos hat
          obtain ⟨l', hl', hh⟩ := hi.obj id _ hat
          rw [hl] at hl'; cases hl'
          split at h
          · rename_i hpos
            obtain rfl := ret_val h
            intro hN
            obtain ⟨r1, r2⟩ := hi.setObj' (ro := ro) (ob' := .siter s (pos + (Utf8.decode s pos).2)) (go := .stringIter s (pos + (Utf8.decode s pos).2)) hat hro hl ⟨l, hl, by simp [hlt]⟩
            refine ⟨.tuple #[.bool true, .int .i64 pos, .int .i32 (Utf8.decode s pos).1], _, ι, .inl ?_, ?_, r1, r2⟩
            · simp only [execOp, ho, Instr.next, hq, Sem.run_bind, run_getObj (P := P) hh (by simp), Result.andThen_ok, hpos, if_true, run_setObj (P := P) hh (by simp), Sem.run_pure, goInt]
            · exact rvtup (RvL.cons (.raw _) (RvL.cons (.raw _) (RvL.cons (.raw _) RvL.nil)))
          · rename_i hpos
            obtain rfl := ret_val h
            refine OutOk.same hi (u := .tuple #[.bool false]) ?_ (rvtup (RvL.cons (.raw _) RvL.nil))
            simp only [execOp, ho, Instr.next, hq, Sem.run_bind, run_getObj (P := P) hh (by simp), Result.andThen_ok, hpos, if_false, Sem.run_pure]
        · rename_i a b c hat
          obtain ⟨l', mr, hl', hh, hm⟩ := hi.obj id _ hat
          rw [hl] at hl'; cases hl'
          simp only at hm
          subst hm
          obtain rfl := ret_val h
          refine OutOk.same hi (u := .tuple #[.bool false]) ?_ (rvtup (RvL.cons (.raw _) RvL.nil))
          simp only [execOp, ho, Instr.next, hq, Sem.run_bind, run_getObj (P := P) hh (by simp), Result.andThen_ok, Sem.run_pure]
        · rename_i m since seen last hat
          obtain ⟨l', mr, hl', hh, hm⟩ := hi.obj id _ hat
          rw [hl] at hl'; cases hl'
          obtain ⟨lm, hlm, rfl⟩ := hm
          split at h
          · rename_i es clock hatm
            obtain ⟨lm', res, hlm', hhm, he⟩ := hi.obj m _ hatm
            rw [hlm] at hlm'; cases hlm'
            have over : ∀ {cand : Array (Option MapEntry)}, cand = #[none] → (choose (.mapNext cand.size)).run P w = .ok 0 w := by
              intro cand hc; subst hc; simp [choose, Sem.run, Question.forced]
            split at h
            · have hre : res = #[] := Array.eq_empty_of_size_eq_zero (by have := he.1; simpa using this.symm)
              subst hre
              obtain rfl := ret_val h
              refine OutOk.same hi (u := .tuple #[.bool false]) ?_ (rvtup (RvL.cons (.raw _) RvL.nil))
              simp [execOp, ho, Instr.next, hq, run_getObj (P := P) hh (by simp), run_getObj (P := P) hhm (by simp), choose, Sem.run, Question.forced]
            · rename_i e
              have hsz : res.size = 1 := by have := he.1; simpa using this.symm
              obtain ⟨rr, rfl⟩ : ∃ rr, res = #[rr] := by
                refine ⟨res[0], ?_⟩
                apply Array.ext (by simp [hsz])
                intro i h1 h2
                have : i = 0 := by omega
                subst this; rfl
              obtain ⟨hk, hv, hb⟩ := he.2 0 e rr rfl rfl
              split at h
              · rename_i hin
                split at h
                · rename_i hlast
                  obtain rfl := ret_val h
                  refine OutOk.same hi (u := .tuple #[.bool false]) ?_ (rvtup (RvL.cons (.raw _) RvL.nil))
                  have hin' : rr.born ∈ seen := by rw [hb]; exact hin
                  have hlast' : ¬ last ≤ rr.born := by rw [hb]; omega
                  have hfil : Array.filter (fun e => !seen.toArray.contains e.born) #[rr] = #[] := by simp [hin']
                  simp [execOp, ho, Instr.next, hq, run_getObj (P := P) hh (by simp), run_getObj (P := P) hhm (by simp), choose, Sem.run, Question.forced, hin', hlast']
                · cases h
              · rename_i hin
                split at h
                · rename_i hc
                  obtain ⟨hc1, rfl⟩ := hc
                  obtain rfl := ret_val h
                  intro hN
                  have hb1 : rr.born < since := by rw [hb]; exact hc1
                  obtain ⟨r1, r2⟩ := hi.setObj' (ro := ro) (ob' := .miter (some m) since [e.2.2] clock) (go := .mapIter (some lm.b) since #[rr.born] clock) hat hro hl ⟨l, some lm.b, hl, by simp [hlt, hb], lm, hlm, rfl⟩
                  refine ⟨.tuple #[.bool true, rr.key, rr.val], _, ι, .inl ?_, ?_, r1, r2⟩
                  · have hb2 : ¬ since ≤ rr.born := by omega
                    simp [execOp, ho, Instr.next, hq, run_getObj (P := P) hh (by simp), run_getObj (P := P) hhm (by simp), choose, Sem.run, Question.forced, hb1, hb2, run_setObj (P := P) hh (by simp)]
                  · rw [← hk]; exact rvtup (RvL.cons (.raw _) (RvL.cons (Rv.lift _) (RvL.cons hv RvL.nil)))
                · cases h
            · cases h
          · cases h
        · cases h
  · cases h

theorem op_entry {it : Operand} (hi : Inv N ι σ w) (hr : Rv ι (ρ it) (r it)) (ho : o.op = .entry it) (h : evOp P ro ρ o σ = some out) : OutOk P ro N ι w σ r o out := by
  unfold evOp at h; rw [ho] at h; simp only at h
  split at h
  · rename_i id hx
    rw [hx] at hr
    generalize hq : r it = q at hr
    cases hr with
    | ptr _ _ _ _ l hl hle =>
      split at h
      · rename_i m since seen stepped hat
        obtain ⟨l', mr, hl', hh, hm⟩ := hi.obj id _ hat
        rw [hl] at hl'; cases hl'
        obtain ⟨lm, hlm, rfl⟩ := hm
        split at h
        · rename_i es clock stamp hatm hlast
          obtain ⟨lm', res, hlm', hhm, he⟩ := hi.obj m _ hatm
          rw [hlm] at hlm'; cases hlm'
          split at h
          · rename_i hcs
            split at h
            · rename_i e hfe
              obtain rfl := ret_val h
              have key : ∀ (es : List (Value × IV × Nat)) (rs : List MapEntry), es.length = rs.length → (∀ (j : Nat) (e : Value × IV × Nat) (rr : MapEntry), es[j]? = some e → rs[j]? = some rr → rr.key = e.1 ∧ Rv ι e.2.1 rr.val ∧ rr.born = e.2.2) →
                  es.find? (fun e => e.2.2 == stamp) = some e → ∃ rr, rs.find? (fun e => e.born == stamp) = some rr ∧ rr.key = e.1 ∧ Rv ι e.2.1 rr.val := by
                intro es
                induction es with
                | nil => intro rs _ _ hf; simp at hf
                | cons a es ih =>
                  intro rs hl hb hf
                  cases rs with
                  | nil => simp at hl
                  | cons rr rs =>
                    obtain ⟨h1, h2, h3⟩ := hb 0 a rr rfl rfl
                    rw [List.find?_cons] at hf ⊢
                    rw [h3]
                    split at hf
                    · rename_i hc; cases hf; exact ⟨rr, rfl, h1, h2⟩
                    · rename_i hc; exact ih rs (by simpa using hl) (fun k x y h1 h2 => hb (k + 1) x y h1 h2) hf
              obtain ⟨rr, hf, hk, hv⟩ := key es res.toList (by simpa using he.1) (fun j e rr h1 h2 => he.2 j e rr h1 (by simpa using h2)) hfe
              have hf' : res.find? (fun e => e.born == stamp) = some rr := by rw [← hf, ← Array.find?_toList]
              have hlast' : seen.toArray.back? = some stamp := by rw [← hlast]; simp
              refine OutOk.same hi (u := .tuple #[rr.key, rr.val]) ?_ (by rw [← hk]; exact rvtup (RvL.cons (Rv.lift _) (RvL.cons hv RvL.nil)))
              subst hcs
              simp [execOp, ho, Instr.entry, hq, run_getObj (P := P) hh (by simp), run_getObj (P := P) hhm (by simp), hlast', hf']
            · cases h
          · cases h
        · cases h
      · cases h
  · cases h
end Go.Ev
