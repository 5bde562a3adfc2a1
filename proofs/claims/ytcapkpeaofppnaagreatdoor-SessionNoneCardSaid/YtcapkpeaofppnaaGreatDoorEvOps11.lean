/- A part of the verified evaluator of closed runs (EvOps11): lemmas and definitions over the model, without conditions of their own. -/
import Derived.Test.YtcapkpeaofppnaaGreatDoorEvOps10
namespace Go.Ev
variable {P : Program} {N ro : Nat} {ι : Io} {w : World} {σ : St} {ρ : Operand → IV} {r : Operand → Value} {o : Oper} {out : OpOut}

theorem min_ok {argTypes : Array TypeId} {ty : TypeId} {args : List IV} {us : List Value} {v : IV} (hr : RvL ι args us) (h : minB P args = some v) : ∃ z, (Builtin.min_ argTypes ty us.toArray).run P w = .ok z w ∧ Rv ι v z := by
  unfold minB at h
  split at h
  · rename_i vs hv
    rw [← rawCells_ok hv hr] at h
    rw [Option.map_eq_some_iff] at h
    obtain ⟨z, hz, rfl⟩ := h
    exact ⟨z, pureRun_run w _ hz, Rv.lift z⟩
  · cases h
theorem max_ok {argTypes : Array TypeId} {ty : TypeId} {args : List IV} {us : List Value} {v : IV} (hr : RvL ι args us) (h : maxB P args = some v) : ∃ z, (Builtin.max_ argTypes ty us.toArray).run P w = .ok z w ∧ Rv ι v z := by
  unfold maxB at h
  split at h
  · rename_i vs hv
    rw [← rawCells_ok hv hr] at h
    rw [Option.map_eq_some_iff] at h
    obtain ⟨z, hz, rfl⟩ := h
    exact ⟨z, pureRun_run w _ hz, Rv.lift z⟩
  · cases h

theorem appendI_out {argTypes : Array TypeId} {s x : IV} (h : appendI P ro argTypes s x σ = some out) : ∃ v σ', out = .val v σ' := by
  have hn : ∀ {size sLen n : Nat} {new : List IV} {s : IV}, appendNew size sLen n new s σ = some out → ∃ v σ', out = .val v σ' := by
    intro size sLen n new s h
    unfold appendNew at h
    split at h
    · split at h
      · exact ⟨_, _, ret_val h⟩
      · cases h
    · cases h
  unfold appendI at h
  split at h
  · split at h
    · split at h
      · split at h
        · cases h
        · split at h
          · split at h
            · unfold appendTo at h
              repeat' split at h
              all_goals first | exact ⟨_, _, ret_val h⟩ | exact hn h | cases h
            · cases h
          · cases h
      · cases h
    · cases h
  · cases h

theorem OutOk.ofB {c : Call} {b : Builtin} {us : List Value} (ho : o.op = .call c) (hb : c.callee = .builtin b) (hus : c.args.map r = us.toArray) (h : BOk P ro N ι w σ (builtin b c.argTypes o.type (c.args.map fun | .const _ => true | _ => false) us.toArray) out) :
    OutOk P ro N ι w σ r o out := by
  obtain ⟨v, σ', rfl, h⟩ := h
  intro hN
  rw [exec_builtin ho hb, hus]
  exact h hN

theorem builtin_ok {b : Builtin} {argTypes : Array TypeId} {ty : TypeId} {cs : Array Bool} {args : List IV} {us : List Value} (hi : Inv N ι σ w) (hr : RvL ι args us) (h : builtinI P ro b argTypes args σ = some out) :
    BOk P ro N ι w σ (builtin b argTypes ty cs us.toArray) out := by
  unfold builtinI at h
  split at h
  · split at h
    · obtain ⟨v, u, rfl, h1, h2⟩ := rvl_two hr
      obtain ⟨v', σ', rfl⟩ := appendI_out h
      exact BOk.ofV fun hN => append_ok hi h1 h2 h hN
    · cases h
  · split at h
    · obtain ⟨v, rfl, h1⟩ := rvl_one hr
      rw [Option.map_eq_some_iff] at h
      obtain ⟨z, hz, rfl⟩ := h
      obtain ⟨u, hu, hru⟩ := lenB_ok (ty := ty) hi h1 hz
      exact BOk.same hi hu hru
    · cases h
  · split at h
    · obtain ⟨v, rfl, h1⟩ := rvl_one hr
      rw [Option.map_eq_some_iff] at h
      obtain ⟨z, hz, rfl⟩ := h
      obtain ⟨u, hu, hru⟩ := capB_ok (ty := ty) (w := w) h1 hz
      exact BOk.same hi hu hru
    · cases h
  · rw [Option.map_eq_some_iff] at h
    obtain ⟨z, hz, rfl⟩ := h
    obtain ⟨u, hu, hru⟩ := min_ok (argTypes := argTypes) (ty := ty) (w := w) hr hz
    exact BOk.same hi hu hru
  · rw [Option.map_eq_some_iff] at h
    obtain ⟨z, hz, rfl⟩ := h
    obtain ⟨u, hu, hru⟩ := max_ok (argTypes := argTypes) (ty := ty) (w := w) hr hz
    exact BOk.same hi hu hru
  · split at h
    · obtain ⟨v, u, rfl, h1, h2⟩ := rvl_two hr
      obtain ⟨v', σ', rfl, h3⟩ := deleteB_ok (ty := ty) hi h1 h2 h
      exact BOk.ofV h3
    · cases h
  · split at h
    · obtain ⟨v, rfl, h1⟩ := rvl_one hr
      obtain ⟨v', σ', rfl, h3⟩ := clearB_ok (ty := ty) hi h1 h
      exact BOk.ofV h3
    · cases h
  · split at h
    · obtain ⟨v, u, rfl, h1, h2⟩ := rvl_two hr
      obtain ⟨v', σ', rfl, h3⟩ := copyB_ok (ty := ty) hi h1 h2 h
      exact BOk.ofV h3
    · cases h
  · cases h

theorem args_ok {l : Array Operand} (h : ∀ x, Rv ι (ρ x) (r x)) : RvL ι (l.toList.map ρ) (l.toList.map r) := RvL.of_map fun x _ => h x

theorem callFunc_ok {f : FuncId} {fn : Func} {us : Array Value} (h : P.funcs[f]? = some fn) (hb : (fn.body.isSome && fn.name != "runtime.NumGoroutine") = true) : (callFunc f us).run P w = .ok (.enter f us) w := by
  simp only [Bool.and_eq_true, bne_iff_ne, ne_eq] at hb
  have h2 : fn.body ≠ none := by cases hh : fn.body <;> simp_all
  simp [callFunc, h, h2, hb.2]

/-- What a call of a value of a function comes to. -/
theorem callee_ok {x : IV} {v : Value} {args : List IV} {us : List Value} (hx : Rv ι x v) (hr : RvL ι args us) (h : calleeI P x args = some out) :
    ∃ d, (Deferred.ofValue v us.toArray).run P w = .ok d w ∧ ((∃ f as vs, out = .enter f as ∧ (invoke d.target d.args).run P w = .ok (.enter f vs.toArray) w ∧ RvL ι as vs ∧ DfRel ι (.call f as) d) ∨
      (∃ id l, out = .round id args ∧ ι id 0 = some l ∧ d.target = .fn (.yield l.b) #[] ∧ d.args = us.toArray)) := by
  unfold calleeI at h
  split at h
  · rename_i f first cap
    cases hx with
    | fn _ _ _ cs ds hl h1 hl2 h2 =>
      split at h
      · rename_i fn hfn
        split at h
        · rename_i hb
          cases h
          have hvs : RvL ι (first ++ args ++ cap) (cs ++ us ++ ds) := (RvL.append ⟨hl, h1⟩ hr).append ⟨hl2, h2⟩
          refine ⟨{ target := .fn (.func f) ds.toArray, args := cs.toArray ++ us.toArray }, rfl, .inl ⟨f, _, _, rfl, ?_, hvs, ds, cs ++ us, _, by simp, hvs, rfl⟩⟩
          simp only [invoke]
          rw [callFunc_ok hfn hb]
          simp
        · cases h
      · cases h
  · rename_i f a b
    cases hx
    split at h
    · rename_i he
      obtain ⟨rfl, rfl⟩ : a = #[] ∧ b = #[] := ⟨Array.eq_empty_of_size_eq_zero he.1, Array.eq_empty_of_size_eq_zero he.2⟩
      split at h
      · rename_i fn hfn
        split at h
        · rename_i hb
          cases h
          refine ⟨{ target := .fn (.func f) #[], args := us.toArray }, by simp [Deferred.ofValue], .inl ⟨f, _, us, rfl, ?_, hr, [], us, us, by simp, hr, by simp⟩⟩
          simp only [invoke]
          rw [callFunc_ok hfn hb]
          simp
        · cases h
      · cases h
    · cases h
  · rename_i id
    cases hx with
    | yld _ l hl =>
      cases h
      exact ⟨{ target := .fn (.yield l.b) #[], args := us.toArray }, by simp [Deferred.ofValue], .inr ⟨id, l, rfl, hl, rfl, rfl⟩⟩
  · cases h

theorem invoke_ok {x : IV} {u : Value} {name : String} {args : List IV} {us : List Value} (hx : Rv ι x u) (hr : RvL ι args us) (h : invokeI P x name args = some out) :
    ∃ f as vs, out = .enter f as ∧ (invoke (.fn (.method name) #[]) (#[u] ++ us.toArray)).run P w = .ok (.enter f vs.toArray) w ∧ RvL ι as vs := by
  unfold invokeI at h
  split at h
  · rename_i t v
    cases hx with
    | ifc _ _ uv hv =>
      split at h
      · rename_i i el hi hd
        split at h
        · rename_i m hm
          split at h
          · rename_i f pr hf
            split at h
            · rename_i hc
              obtain ⟨hpath, rfl⟩ := hc
              have hpath : m.path.toList = [] := List.isEmpty_iff.1 hpath
              split at h
              · rename_i fn hfn
                split at h
                · rename_i hb
                  cases h
                  refine ⟨f, v :: args, uv :: us, rfl, ?_, RvL.cons hv hr⟩
                  have hmeth : ∀ n, (method (n + 1) t uv name).run P w = .ok (f, uv) w := by
                    intro n
                    simp [method, typeInfo, hi, hm, hpath, follow, hf, receiverAt, run_und hd, Place.get]
                  have hfuel : ∃ n, P.types.size + Made.depth = n + 1 := ⟨P.types.size + (Made.depth - 1), by unfold Made.depth; omega⟩
                  obtain ⟨n, hn⟩ := hfuel
                  have e0 : (#[Value.iface t uv] ++ us.toArray)[0]? = some (.iface t uv) := by simp
                  have e1 : (#[Value.iface t uv] ++ us.toArray).extract 1 (#[Value.iface t uv] ++ us.toArray).size = us.toArray := by
                    apply Array.ext'; simp
                  have e2 : (#[uv] ++ us.toArray) = (uv :: us).toArray := by apply Array.ext'; simp
                  have e3 : (callMethod (.iface t uv) name us.toArray).run P w = .ok (.enter f (uv :: us).toArray) w := by
                    have hp : (program : Sem Program).run P w = .ok P w := rfl
                    simp only [callMethod, Sem.run_bind, hp, Result.andThen_ok, hn, hmeth, e2]
                    exact callFunc_ok hfn hb
                  simp only [invoke, e0, e1]
                  exact e3
                · cases h
              · cases h
            · cases h
          · cases h
        · cases h
      · cases h
  · cases h

theorem op_call {c : Call} (hi : Inv N ι σ w) (hr : ∀ x, Rv ι (ρ x) (r x)) (ho : o.op = .call c) (h : evOp P ro ρ o σ = some out) : OutOk P ro N ι w σ r o out := by
  unfold evOp at h; rw [ho] at h; (try dsimp only at h)
  have hus : c.args.map r = (c.args.toList.map r).toArray := by apply Array.ext'; rw [Array.toList_map]
  split at h
  · rename_i b hb
    exact OutOk.ofB ho hb hus (builtin_ok hi (args_ok hr) h)
  · rename_i f hf
    obtain ⟨d, hd, h⟩ := callee_ok (w := w) (hr f) (args_ok hr) h
    have e : (execOp r o).run P w = (invoke d.target d.args).run P w := by
      simp only [execOp, ho, resolve, hf, hus, Sem.run_bind, hd, Result.andThen_ok]
    rcases h with ⟨f', as, vs, rfl, h1, h2, _⟩ | ⟨id, l, rfl, h1, h2, h3⟩
    · exact ⟨vs, by rw [e, h1], h2⟩
    · exact ⟨l, _, h1, by rw [e, h2, h3]; rfl, args_ok hr⟩
  · rename_i x name hx
    obtain ⟨f, as, vs, rfl, h1, h2⟩ := invoke_ok (w := w) (hr x) (args_ok hr) h
    exact ⟨vs, by simp only [execOp, ho, resolve, hx, hus, Sem.run_bind, Sem.run_pure, Result.andThen_ok, h1], h2⟩

theorem op_defer {c : Call} (hr : ∀ x, Rv ι (ρ x) (r x)) (ho : o.op = .defer c) (h : evOp P ro ρ o σ = some out) : OutOk P ro N ι w σ r o out := by
  unfold evOp at h; rw [ho] at h; (try dsimp only at h)
  have hus : c.args.map r = (c.args.toList.map r).toArray := by apply Array.ext'; rw [Array.toList_map]
  split at h
  · rename_i f hf
    split at h
    · rename_i f' args hc
      cases h
      obtain ⟨d, hd, h⟩ := callee_ok (w := w) (hr f) (args_ok hr) hc
      rcases h with ⟨f', as, vs, he, _, _, h3⟩ | ⟨id, l, he, _⟩
      · cases he
        exact ⟨d, by simp only [execOp, ho, resolve, hf, hus, Sem.run_bind, hd, Result.andThen_ok, Sem.run_pure], h3, c, ho⟩
      · cases he
    · cases h
  · cases h

theorem op_panic {x : Operand} (hr : Rv ι (ρ x) (r x)) (ho : o.op = .panic x) (h : evOp P ro ρ o σ = some out) : OutOk P ro N ι w σ r o out := by
  unfold evOp at h; rw [ho] at h; simp only at h
  split at h
  · rename_i t v hx
    cases h
    rw [hx] at hr
    generalize hq : r x = q at hr
    have hr' := hr
    cases hr with
    | ifc _ _ u hu =>
      refine ⟨_, ?_, hr'⟩
      simp only [execOp, ho, Instr.panic, hq, goPanic, Sem.run_bind]
      rfl
  · cases h

theorem op_typeAssert {x : Operand} {xt asserted : TypeId} {ok : Bool} (hi : Inv N ι σ w) (hr : Rv ι (ρ x) (r x)) (ho : o.op = .typeAssert x xt asserted ok) (h : evOp P ro ρ o σ = some out) : OutOk P ro N ι w σ r o out := by
  unfold evOp at h; rw [ho] at h; simp only at h
  split at h
  · cases h
  · rename_i d z hni hu hz
    have hd : ∀ {α : Type} (k1 : Array (String × TypeId) → α) (k2 : α), (match d with | .interface want => k1 want | _ => k2) = k2 := by
      intro α k1 k2
      cases d <;> first | rfl | exact absurd rfl (hni _)
    split at h
    · rename_i t v hx
      rw [hx] at hr
      generalize hq : r x = q at hr
      cases hr with
      | ifc _ _ u hru =>
        split at h
        · rename_i hte
          have hte' : t = asserted := by simpa using hte
          obtain rfl := ret_val h
          cases ok with
          | true =>
            refine OutOk.same hi (u := .tuple #[u, .bool true]) ?_ ?_
            · cases d <;> first
                | exact absurd rfl (hni _)
                | simp [execOp, ho, Instr.typeAssert, hq, run_und hu, hte']
            · have := RvL.cons hru (RvL.cons (Rv.raw (ι := ι) (.bool true)) RvL.nil)
              exact rvtup this
          | false =>
            refine OutOk.same hi (u := u) ?_ hru
            cases d <;> first
                | exact absurd rfl (hni _)
                | simp [execOp, ho, Instr.typeAssert, hq, run_und hu, hte']
        · rename_i hte
          have hte' : ¬ t = asserted := by simpa using hte
          split at h
          · rename_i hok
            subst hok
            obtain rfl := ret_val h
            refine OutOk.same hi (u := .tuple #[z, .bool false]) ?_ ?_
            · cases d <;> first
                | exact absurd rfl (hni _)
                | simp [execOp, ho, Instr.typeAssert, hq, run_und hu, hte', run_zero hz]
            · have := RvL.cons (Rv.lift (ι := ι) z) (RvL.cons (Rv.raw (ι := ι) (.bool false)) RvL.nil)
              exact rvtup this
          · cases h
    · rename_i hx
      have e := rv_raw hx hr
      split at h
      · rename_i hok
        subst hok
        obtain rfl := ret_val h
        refine OutOk.same hi (u := .tuple #[z, .bool false]) ?_ ?_
        · cases d <;> first
            | exact absurd rfl (hni _)
            | simp [execOp, ho, Instr.typeAssert, e, run_und hu, run_zero hz]
        · have := RvL.cons (Rv.lift (ι := ι) z) (RvL.cons (Rv.raw (ι := ι) (.bool false)) RvL.nil)
          exact rvtup this
      · cases h
    · cases h
  · cases h
/-- Each operation's outcome in the model is the ideal one. -/
theorem op_ok (hi : Inv N ι σ w) (hr : ∀ x, Rv ι (ρ x) (r x)) (h : evOp P ro ρ o σ = some out) : OutOk P ro N ι w σ r o out := by
  cases ho : o.op with
  | move x => unfold evOp at h; rw [ho] at h; simp only at h; obtain rfl := ret_val h; exact op_move hi (hr _) (.inl ho)
  | assign x => unfold evOp at h; rw [ho] at h; simp only at h; obtain rfl := ret_val h; exact op_move hi (hr _) (.inr ho)
  | pick c a b => exact op_pick hi (hr _) (hr _) (hr _) ho h
  | alloc t => exact op_alloc hi ho h
  | box t x => exact op_box hi (hr _) ho h
  | build t parts => exact op_build hi (fun x _ => hr x) ho h
  | buildSlice t len parts => exact op_buildSlice hi (fun x _ => hr x) ho h
  | load t a => exact op_load hi (hr _) ho h
  | store t a x => exact op_store hi (hr _) (hr _) ho h
  | nilCheck x => exact op_nilCheck hi (hr _) ho h
  | binOp op t x y yT => exact op_bin hi (hr _) (hr _) ho h
  | unOp op t x => exact op_un hi (hr _) ho h
  | convert s t x => exact op_convert hi (hr _) ho h
  | makeInterface t x => exact op_makeInterface hi (hr _) ho h
  | makeFunc f a b => exact op_makeFunc hi (fun x _ => hr x) ho h
  | makeMap t x => exact op_makeMap hi (fun x _ => hr x) ho h
  | makeSlice t l c => exact op_makeSlice hi (hr _) (hr _) ho h
  | slice t x lo hi' mx => exact op_slice hi (hr _) (fun x _ => hr x) (fun x _ => hr x) (fun x _ => hr x) ho h
  | fieldAddr s x f => exact op_fieldAddr hi (hr _) ho h
  | field t x f => exact op_field hi (hr _) ho h
  | indexAddr t x ix => exact op_indexAddr hi (hr _) (hr _) ho h
  | index t x ix => exact op_index hi (hr _) (hr _) ho h
  | lookup t x ix ok => exact op_lookup hi (hr _) (hr _) ho h
  | mapUpdate t m k x => exact op_mapUpdate hi (hr _) (hr _) (hr _) (.inl ho) h
  | insert t m k x => exact op_mapUpdate hi (hr _) (hr _) (hr _) (.inr ho) h
  | mapEntry t m k => exact op_mapEntry hi (hr _) (hr _) ho h
  | entryStore t m st x => exact op_entryStore hi (hr _) (hr _) (hr _) ho h
  | range t x => exact op_range hi (hr _) ho h
  | next it s => exact op_next hi (hr _) ho h
  | entry it => exact op_entry hi (hr _) ho h
  | extract t i => exact op_extract hi (hr _) ho h
  | call c => exact op_call hi hr ho h
  | defer c => exact op_defer hr ho h
  | panic x => exact op_panic (hr _) ho h
  | typeAssert x xt t ok => exact op_typeAssert hi (hr _) ho h
  | _ => unfold evOp at h; rw [ho] at h; cases h
end Go.Ev
