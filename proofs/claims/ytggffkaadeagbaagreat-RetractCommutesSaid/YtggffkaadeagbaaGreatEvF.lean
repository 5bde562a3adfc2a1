/- Lemmas over the model, without conditions of their own: regions that draw (1). -/
import Derived.Test.YtggffkaadeagbaaGreatEvE
set_option linter.all false
namespace Go.Ev
variable {P : Program} {N ro m : Nat} {ι : Io} {w : World} {σ : St} {e : Env} {a : Act} {S : Self} {F : Fence} {rd : Option Nat} {Q : Exit → Act → World → Prop}
theorem evOp_congr {ρ ρ' : Operand → IV} {o : Oper} (h : ∀ x ∈ o.op.operands, ρ x = ρ' x) : evOp P ro ρ o σ = evOp P ro ρ' o σ := by
  obtain ⟨dst, op, type, pos, after, guard⟩ := o
  have pairs : ∀ ps : Array (Nat × Operand), (∀ x ∈ (ps.toList.map (·.2)), ρ x = ρ' x) → (ps.toList.map fun (i, x) => (i, ρ x)) = (ps.toList.map fun (i, x) => (i, ρ' x)) := fun ps hp =>
    List.map_congr_left fun p hm => by
      obtain ⟨i, x⟩ := p
      simp only [hp x (List.mem_map.2 ⟨(i, x), hm, rfl⟩)]
  cases op <;> simp only [Op.operands] at h <;> unfold evOp <;> dsimp only
  case move x => rw [h x (by simp)]
  case assign x => rw [h x (by simp)]
  case pick c x y => rw [h c (by simp), h x (by simp), h y (by simp)]
  case box t x => rw [h x (by simp)]
  case build t ps => rw [pairs ps fun x hx => h x (by simpa using hx)]
  case buildSlice t n ps => rw [pairs ps fun x hx => h x (by simpa using hx)]
  case load t x => rw [h x (by simp)]
  case store t x y => rw [h x (by simp), h y (by simp)]
  case nilCheck x => rw [h x (by simp)]
  case binOp op t x y yT => rw [h x (by simp), h y (by simp)]
  case unOp op t x => rw [h x (by simp)]
  case convert s d x => rw [h x (by simp)]
  case makeInterface t x => rw [h x (by simp)]
  case makeFunc fn first captured =>
    rw [List.map_congr_left (l := first.toList) fun x hx => h x (by simp at hx; simp [hx]), List.map_congr_left (l := captured.toList) fun x hx => h x (by simp at hx; simp [hx])]
  case makeMap t r => cases r with | none => rfl | some x => dsimp only; rw [h x (by simp)]
  case makeSlice t x y => rw [h x (by simp), h y (by simp)]
  case slice t x lo hi mx =>
    have e1 : lo.map ρ = lo.map ρ' := by cases lo with | none => rfl | some y => simp only [Option.map_some, h y (by simp)]
    have e2 : hi.map ρ = hi.map ρ' := by cases hi with | none => rfl | some y => simp only [Option.map_some, h y (by simp)]
    have e3 : mx.map ρ = mx.map ρ' := by cases mx with | none => rfl | some y => simp only [Option.map_some, h y (by simp)]
    rw [h x (by simp), e1, e2, e3]
  case fieldAddr t x f => rw [h x (by simp)]
  case field t x f => rw [h x (by simp)]
  case indexAddr t x y => rw [h x (by simp), h y (by simp)]
  case index t x y => rw [h x (by simp), h y (by simp)]
  case lookup t x y ok => rw [h x (by simp), h y (by simp)]
  case mapUpdate t x y z => rw [h x (by simp), h y (by simp), h z (by simp)]
  case insert t x y z => rw [h x (by simp), h y (by simp), h z (by simp)]
  case mapEntry t x y => rw [h x (by simp), h y (by simp)]
  case entryStore t x y z => rw [h x (by simp), h y (by simp), h z (by simp)]
  case range t x => rw [h x (by simp)]
  case next x s => rw [h x (by simp)]
  case entry x => rw [h x (by simp)]
  case extract x i => rw [h x (by simp)]
  case typeAssert x xt t ok => rw [h x (by simp)]
  case panic x => rw [h x (by simp)]
  case call c =>
    have ha : c.args.toList.map ρ = c.args.toList.map ρ' := List.map_congr_left fun x hx => h x (by simp [Call.operands]; right; simpa using hx)
    rw [ha]
    cases hc : c.callee with
    | value f => dsimp only; rw [h f (by simp [Call.operands, hc])]
    | invoke r m => dsimp only; rw [h r (by simp [Call.operands, hc])]
    | builtin b => rfl
  case defer c =>
    have ha : c.args.toList.map ρ = c.args.toList.map ρ' := List.map_congr_left fun x hx => h x (by simp [Call.operands]; right; simpa using hx)
    rw [ha]
    cases hc : c.callee with
    | value f => dsimp only; rw [h f (by simp [Call.operands, hc])]
    | invoke r m => rfl
    | builtin b => rfl
structure Gn (Fr : Nat → Prop) (ι : Io) (cur : Nat → Option Ob) (w : World) : Prop where
  mem : ∀ b c, ι.m b = some c → ∃ e f, w.heap[b]? = some (.cells c e f)
  sep : ∀ b c id, ι.m b = some c → ¬ Own ι id b
  bnd : ∀ id b, Own ι id b → b < w.heap.size
  inj : ∀ i j b, Own ι i b → Own ι j b → i = j
  fresh : ∀ id, Fr id → ∀ e, ι id e = none
  obj : ∀ id o, cur id = some o → ObjRel ι w id o
theorem Gn.inv {Fr : Nat → Prop} {cur : Nat → Option Ob} (h : Gn Fr ι cur w) (sub : ∀ id o, σ.at id = some o → cur id = some o) (fr : ∀ id, σ.n ≤ id → id < N → Fr id) (wf : ∀ id, σ.n ≤ id → σ.at id = none) : Inv N ι σ w :=
  ⟨h.mem, h.sep, h.bnd, fun id h1 h2 => h.fresh id (fr id h1 h2), h.inj, fun id o ho => h.obj id o (sub id o ho), wf⟩
theorem objRel_own {id : Nat} {o : Ob} (h : ObjRel ι w id o) : ∃ e l, ι id e = some l := by
  cases o with
  | cells cs ep mn => obtain ⟨_, ⟨l, hl, _⟩, _⟩ := h; exact ⟨_, l, hl⟩
  | map es c => obtain ⟨l, _, hl, _⟩ := h; exact ⟨_, l, hl⟩
  | siter s p => obtain ⟨l, hl, _⟩ := h; exact ⟨_, l, hl⟩
  | miter a b c d => obtain ⟨l, _, hl, _⟩ := h; exact ⟨_, l, hl⟩
  | loop a b c d e f g h' i => obtain ⟨l, _, _, _, hl, _⟩ := h; exact ⟨_, l, hl⟩
  | dfd t => obtain ⟨l, hl, _⟩ := h; exact ⟨_, l, hl⟩
def upd (cur : Nat → Option Ob) (σ σ' : St) (id : Nat) : Option Ob := if (σ.at id).isSome ∨ (σ.n ≤ id ∧ id < σ'.n) then σ'.at id else cur id
structure Mid (ro nk : Nat) (ι0 : Io) (w0 : World) (σ0 : St) (Fr : Nat → Prop) (ι : Io) (cur : Nat → Option Ob) (w : World) : Prop extends Gn Fr ι cur w where
  ext : Ext ι0 ι
  mown : ∀ b c, ι.m b = some c → ι0.m b = some c ∨ w0.heap.size ≤ b
  own : ∀ id b, Own ι id b → Own ι0 id b ∨ w0.heap.size ≤ b
  dom : ∀ id, σ0.at id = none → (id < σ0.n ∨ nk ≤ id) → ∀ e, ι id e = ι0 id e
  dead : ∀ id, σ0.at id = none → (id < σ0.n ∨ nk ≤ id) → cur id = none
  prot : ∀ id, id < ro → id < σ0.n → cur id = σ0.at id
  os : w.os = w0.os
  tape : w.tape = w0.tape
  output : w.output = w0.output
  size : w0.heap.size ≤ w.heap.size
  frame : ∀ b, b < w0.heap.size → (∀ id, Own ι0 id b → id < ro ∨ σ0.at id = none) → w.heap[b]? = w0.heap[b]?
theorem Mid.start {nk : Nat} (h : Inv N ι σ w) (hnk : nk ≤ N) : Mid ro nk ι w σ (fun id => σ.n ≤ id ∧ id < N) ι σ.at w :=
  { mem := h.mem, sep := h.sep, bnd := h.bnd, inj := h.inj, fresh := fun id hid => h.fresh id hid.1 hid.2, obj := h.obj, ext := Ext.refl _, mown := fun _ _ h => .inl h, own := fun _ _ h => .inl h,
    dom := fun _ _ _ _ => rfl, dead := fun _ h _ => h, prot := fun _ _ _ => rfl, os := rfl, tape := rfl, output := rfl, size := Nat.le_refl _, frame := fun _ _ _ => rfl }
theorem Mid.step {nk N' ro' : Nat} {ι0 ι' : Io} {w0 w' : World} {σ0 σ' : St} {Fr : Nat → Prop} {cur : Nat → Option Ob} (h : Mid ro nk ι0 w0 σ0 Fr ι cur w) (hf0 : ∀ id, σ0.n ≤ id → id < nk → ∀ e, ι0 id e = none)
    (sub : ∀ id o, σ.at id = some o → cur id = some o) (rng : ∀ id, σ.n ≤ id → id < σ'.n → σ0.n ≤ id ∧ id < nk) (hro : ∀ id, id < ro → (σ.at id).isSome = true → id < ro') (wf : ∀ id, σ.n ≤ id → σ.at id = none)
    (hi : Inv N' ι' σ' w') (hl : Le ro' ι w σ ι' w' σ') : Mid ro nk ι0 w0 σ0 (fun id => Fr id ∧ ¬ (σ.n ≤ id ∧ id < σ'.n)) ι' (upd cur σ σ') w' := by
  have none_of : ∀ id, cur id = none → σ.at id = none := fun id hc => by
    cases hs : σ.at id with
    | none => rfl
    | some o => rw [sub id o hs] at hc; cases hc
  have out : ∀ id, ¬ (σ.n ≤ id ∧ id < σ'.n) → id < σ.n ∨ σ'.n ≤ id := fun id hn => by omega
  have hnr : ∀ id, (id < σ0.n ∨ nk ≤ id) → ¬ (σ.n ≤ id ∧ id < σ'.n) := fun id hh hn => by have := rng id hn.1 hn.2; omega
  exact {
    mem := hi.mem, sep := hi.sep, bnd := hi.bnd, inj := hi.inj
    fresh := fun id hid e => by
      have hn : σ.at id = none := by
        cases hs : σ.at id with
        | none => rfl
        | some o =>
          obtain ⟨e', l, hl'⟩ := objRel_own (h.obj id o (sub id o hs))
          rw [h.fresh id hid.1 e'] at hl'; cases hl'
      rw [hl.dom id hn (out id hid.2) e, h.fresh id hid.1 e]
    obj := fun id o ho => by
      unfold upd at ho
      split at ho
      · exact hi.obj id o ho
      · rename_i hc
        have hn : σ.at id = none := by
          cases hs : σ.at id with
          | none => rfl
          | some o => exact absurd (.inl (by rw [hs]; rfl)) hc
        have hr : ¬ (σ.n ≤ id ∧ id < σ'.n) := fun hx => hc (.inr hx)
        refine (h.obj id o ho).keep hl.ext (fun e => hl.dom id hn (out id hr) e) fun b hb => ?_
        refine hl.frame b (h.bnd id b hb) fun id' hid' => .inr ?_
        rw [h.inj id' id b hid' hb]; exact hn
    ext := h.ext.trans hl.ext
    mown := fun b c hb => (hl.mown b c hb).elim (fun hb => h.mown b c hb) (fun hb => .inr (Nat.le_trans h.size hb))
    own := fun id b hb => (hl.own id b hb).elim (fun hb => h.own id b hb) (fun hb => .inr (Nat.le_trans h.size hb))
    dom := fun id hn hr e => (hl.dom id (none_of id (h.dead id hn hr)) (out id (hnr id hr)) e).trans (h.dom id hn hr e)
    dead := fun id hn hr => by
      unfold upd
      rw [if_neg]
      · exact h.dead id hn hr
      · rw [none_of id (h.dead id hn hr)]
        intro hx
        rcases hx with hx | hx
        · cases hx
        · exact hnr id hr hx
    prot := fun id hr hn => by
      unfold upd
      split
      · rename_i hc
        have hs : (σ.at id).isSome := hc.resolve_right (hnr id (.inl hn))
        obtain ⟨o, ho⟩ := Option.isSome_iff_exists.1 hs
        have hlt : id < σ.n := Nat.lt_of_not_le fun hle => by rw [wf id hle] at ho; cases ho
        rw [hl.prot id (hro id hr hs) hlt, ho, ← sub id o ho]
        exact h.prot id hr hn
      · exact h.prot id hr hn
    os := hl.os.trans h.os
    tape := hl.tape.trans h.tape
    output := hl.output.trans h.output
    size := Nat.le_trans h.size hl.size
    frame := fun b hb hc => by
      rw [hl.frame b (Nat.lt_of_lt_of_le hb h.size) ?_, h.frame b hb hc]
      intro id hid
      cases hs : σ.at id with
      | none => exact .inr rfl
      | some o =>
        have hlt : id < σ.n := Nat.lt_of_not_le fun hle => by rw [wf id hle] at hs; cases hs
        rcases h.own id b hid with ho | ho
        · rcases hc id ho with hr | hd
          · exact .inl (hro id hr (by rw [hs]; rfl))
          · right
            have hr : id < σ0.n ∨ nk ≤ id := by
              by_cases h1 : id < σ0.n
              · exact .inl h1
              · by_cases h2 : id < nk
                · obtain ⟨e, l, hl', _⟩ := ho
                  rw [hf0 id (by omega) h2 e] at hl'; cases hl'
                · exact .inr (by omega)
            have := sub id o hs
            rw [h.dead id hd hr] at this; cases this
        · omega }
theorem Mid.fr {nk : Nat} {ι0 : Io} {w0 : World} {σ0 : St} {Fr Fr' : Nat → Prop} {cur : Nat → Option Ob} (h : Mid ro nk ι0 w0 σ0 Fr ι cur w) (hf : ∀ id, Fr' id → Fr id) : Mid ro nk ι0 w0 σ0 Fr' ι cur w :=
  { h with fresh := fun id hid => h.fresh id (hf id hid) }
theorem Mid.fin {nk : Nat} {ι0 : Io} {w0 : World} {σ0 : St} {Fr : Nat → Prop} {cur : Nat → Option Ob} {t : T Ob} (h : Mid ro nk ι0 w0 σ0 Fr ι cur w) (hn : σ0.n ≤ nk) (hfr : ∀ id, nk ≤ id → id < N → Fr id)
    (sub : ∀ id o, t.get id = some o → cur id = some o) (wf : ∀ id, nk ≤ id → t.get id = none) (hp : ∀ id, id < ro → id < σ0.n → t.get id = σ0.at id) :
    Inv N ι ⟨nk, t⟩ w ∧ Le ro ι0 w0 σ0 ι w ⟨nk, t⟩ := by
  refine ⟨h.toGn.inv sub hfr wf, h.ext, h.own, h.dom, fun id hn hr => ?_, hp, hn, h.os, h.tape, h.output, h.size, h.frame, h.mown⟩
  have := h.dead id hn hr
  cases hs : t.get id with
  | none => exact hs
  | some o => rw [sub id o hs] at this; cases this
end Go.Ev
namespace Go.Ev
variable {P : Program} {S : Self} {ro : Nat} {ops : Array Oper} {pl : Plan} [Sm]
def dstOf (ops : Array Oper) (i : Nat) : Option Tmp := (ops[i]?).bind (·.dst)
def rdOf (ops : Array Oper) (i : Nat) : List Nat := (ops.toList.map (readsOf ops)).getD i []
def kdOf (pl : Plan) (i : Nat) : Kind := pl.kinds.getD i .effect
def bitOf (pl : Plan) (j i : Nat) : Prop := Nat.testBit (pl.bef.getD j 0) i = true
structure PlanOk (ops : Array Oper) (pl : Plan) : Prop where
  back : ∀ (j : Nat) (o : Oper), ops[j]? = some o → ∀ e ∈ o.after.toList, Region.binds .any e = true → e.on < j
  loadSelf : ∀ j, j < ops.size → kdOf pl j = .load → ∀ t, dstOf ops j = some t → t ∉ rdOf ops j
  single : ∀ i j, i < j → j < ops.size → ∀ t, dstOf ops i = some t → dstOf ops j ≠ some t
  loadLater : ∀ i j, i < j → j < ops.size → kdOf pl i = .load → ∀ t, dstOf ops j = some t → t ∉ rdOf ops i
  free : ∀ i j, i < j → j < ops.size → ¬ bitOf pl j i → (∀ t, dstOf ops i = some t → t ∉ rdOf ops j) ∧ (∀ t, dstOf ops j = some t → t ∉ rdOf ops i) ∧ clash (kdOf pl i) (kdOf pl j) = false
  bits : ∀ (j : Nat) (o : Oper), ops[j]? = some o → ∀ i, bitOf pl j i → ∃ e ∈ o.after.toList, Region.binds .any e = true ∧ (e.on = i ∨ bitOf pl e.on i)
theorem writes_false {o : Oper} {l : List Nat} (h : writes o l = false) : ∀ t, o.dst = some t → t ∉ l := by
  intro t ht hm
  unfold writes at h
  rw [ht] at h
  simp [hm] at h
theorem lor_foldl {f : Edge → Nat} {c : Edge → Bool} {i : Nat} : ∀ (l : List Edge) (s : Nat), Nat.testBit (l.foldl (fun s e => if c e then Nat.lor s (f e) else s) s) i = true →
    Nat.testBit s i = true ∨ ∃ e ∈ l, c e = true ∧ Nat.testBit (f e) i = true
  | [], s, h => .inl h
  | e :: l, s, h => by
    simp only [List.foldl_cons] at h
    rcases lor_foldl l _ h with h | ⟨e', he', h1, h2⟩
    · split at h
      · rename_i hc
        have : Nat.testBit (s ||| f e) i = true := h
        rw [Nat.testBit_or, Bool.or_eq_true] at this
        rcases this with h | h
        · exact .inl h
        · exact .inr ⟨e, by simp, hc, h⟩
      · exact .inl h
    · exact .inr ⟨e', by simp [he'], h1, h2⟩
theorem shift_bit {a i : Nat} (h : Nat.testBit (Nat.shiftLeft 1 a) i = true) : a = i := by
  have h' : Nat.testBit (1 <<< a) i = true := h
  rw [Nat.testBit_shiftLeft] at h'
  simp only [Bool.and_eq_true, decide_eq_true_eq] at h'
  have h2 := h'.2
  have : i - a = 0 := by
    cases hk : i - a with
    | zero => rfl
    | succ n => rw [hk] at h2; simp [Nat.testBit_succ] at h2
  omega
theorem befs_aux : ∀ (l : List Oper) (acc : List Nat), ∃ rest, l.foldl befStep acc = acc ++ rest ∧ rest.length = l.length ∧
    ∀ (q : Nat) (o : Oper), l[q]? = some o → ∀ i, Nat.testBit ((acc ++ rest).getD (acc.length + q) 0) i = true →
      ∃ e ∈ o.after.toList, Region.binds .any e = true ∧ (e.on = i ∨ Nat.testBit ((acc ++ rest).getD e.on 0) i = true)
  | [], acc => ⟨[], by simp, rfl, fun q o h => by simp at h⟩
  | o :: l, acc => by
    obtain ⟨rest, h1, h2, h3⟩ := befs_aux l (befStep acc o)
    obtain ⟨x, hx⟩ : ∃ x, befStep acc o = acc ++ [x] := ⟨_, rfl⟩
    have hxv : x = o.after.toList.foldl (fun s e => if Region.binds .any e then Nat.lor s (Nat.lor (Nat.shiftLeft 1 e.on) (acc.getD e.on 0)) else s) 0 := by
      have : acc ++ [x] = acc ++ [o.after.toList.foldl (fun s e => if Region.binds .any e then Nat.lor s (Nat.lor (Nat.shiftLeft 1 e.on) (acc.getD e.on 0)) else s) 0] := hx ▸ rfl
      simpa using this
    rw [hx] at h1 h3
    refine ⟨x :: rest, by rw [List.foldl_cons, hx, h1]; simp, by simp [h2], fun q o' hq i hi => ?_⟩
    have hcat : acc ++ x :: rest = acc ++ [x] ++ rest := by simp
    cases q with
    | zero =>
      simp only [List.getElem?_cons_zero, Option.some.injEq] at hq
      subst hq
      have hg : (acc ++ x :: rest).getD (acc.length + 0) 0 = x := by simp
      rw [hg, hxv] at hi
      rcases lor_foldl _ _ hi with hi | ⟨e, he, hb, hi⟩
      · simp at hi
      · refine ⟨e, he, hb, ?_⟩
        have hi' : Nat.testBit (Nat.shiftLeft 1 e.on ||| acc.getD e.on 0) i = true := hi
        rw [Nat.testBit_or, Bool.or_eq_true] at hi'
        rcases hi' with hi | hi
        · exact .inl (shift_bit hi)
        · right
          by_cases hl : e.on < acc.length
          · have : (acc ++ x :: rest).getD e.on 0 = acc.getD e.on 0 := by
              rw [List.getD_eq_getElem?_getD, List.getD_eq_getElem?_getD, List.getElem?_append_left hl]
            rw [this]; exact hi
          · rw [List.getD_eq_getElem?_getD, List.getElem?_eq_none (by omega)] at hi
            simp at hi
    | succ q =>
      simp only [List.getElem?_cons_succ] at hq
      rw [hcat] at hi ⊢
      have := h3 q o' hq i (by
        have e1 : (acc ++ [x]).length + q = acc.length + (q + 1) := by simp; omega
        rw [e1]; exact hi)
      exact this
theorem befs_ok {ops : Array Oper} {j : Nat} {o : Oper} (ho : ops[j]? = some o) {i : Nat} (h : Nat.testBit ((befs ops).getD j 0) i = true) :
    ∃ e ∈ o.after.toList, Region.binds .any e = true ∧ (e.on = i ∨ Nat.testBit ((befs ops).getD e.on 0) i = true) := by
  obtain ⟨rest, h1, _, h3⟩ := befs_aux ops.toList []
  have hb : befs ops = rest := by unfold befs; rw [h1]; simp
  rw [hb] at h ⊢
  have := h3 j o (by simpa using ho) i (by simpa using h)
  simpa using this
theorem planOk (h : (planOf ops).ok = true) : PlanOk ops (planOf ops) := by
  have hall : ∀ (j : Nat) (o : Oper), ops[j]? = some o → (o.after.toList.all fun e => !Region.binds .any e || Nat.blt e.on j) = true ∧ (!(kdOf (planOf ops) j == .load) || !writes o (rdOf ops j)) = true ∧
      ∀ (i : Nat) (p : Oper), ops[i]? = some p → i < j → pairOk (planOf ops).bef (planOf ops).kinds (ops.toList.map (readsOf ops)) p i o j = true := by
    intro j o ho
    have hm : (o, j) ∈ ops.toList.zipIdx := List.mk_mem_zipIdx_iff_getElem?.2 (by simpa using ho)
    unfold planOf at h
    dsimp only at h
    rw [List.all_eq_true] at h
    have := h (o, j) hm
    simp only [Bool.and_eq_true] at this
    obtain ⟨⟨h1, h2⟩, h3⟩ := this
    refine ⟨h1, h2, fun i p hp hij => ?_⟩
    rw [List.all_eq_true] at h3
    have hm' : (p, i) ∈ ops.toList.zipIdx := List.mk_mem_zipIdx_iff_getElem?.2 (by simpa using hp)
    have := h3 (p, i) hm'
    have hlt : Nat.blt i j = true := by simpa using hij
    simp only [hlt, Bool.not_true, Bool.false_or] at this
    exact this
  have hop : ∀ {j : Nat}, j < ops.size → ∃ o, ops[j]? = some o := fun hj => ⟨ops[_], Array.getElem?_eq_getElem hj⟩
  have hdst : ∀ {j : Nat} {o : Oper}, ops[j]? = some o → dstOf ops j = o.dst := fun ho => by unfold dstOf; rw [ho]; rfl
  have pair : ∀ i j, i < j → j < ops.size → ∃ p o, ops[i]? = some p ∧ ops[j]? = some o ∧ pairOk (planOf ops).bef (planOf ops).kinds (ops.toList.map (readsOf ops)) p i o j = true := fun i j hij hj => by
    obtain ⟨o, ho⟩ := hop hj
    obtain ⟨p, hp⟩ := hop (show i < ops.size by omega)
    exact ⟨p, o, hp, ho, (hall j o ho).2.2 i p hp hij⟩
  refine ⟨fun j o ho e he hb => ?_, fun j hj hk t ht => ?_, fun i j hij hj t hi hjt => ?_, fun i j hij hj hk t ht => ?_, fun i j hij hj hnb => ?_, fun j o ho i hb => befs_ok ho hb⟩
  · have := (List.all_eq_true.1 (hall j o ho).1) e he
    rw [hb] at this
    simpa using this
  · obtain ⟨o, ho⟩ := hop hj
    have := (hall j o ho).2.1
    rw [hk] at this
    simp only [beq_self_eq_true, Bool.not_true, Bool.false_or, Bool.not_eq_true'] at this
    rw [hdst ho] at ht
    exact writes_false this t ht
  · obtain ⟨p, o, hp, ho, hpo⟩ := pair i j hij hj
    rw [hdst hp] at hi
    rw [hdst ho] at hjt
    unfold pairOk at hpo
    rw [hi, hjt] at hpo
    simp at hpo
  · obtain ⟨p, o, hp, ho, hpo⟩ := pair i j hij hj
    unfold pairOk at hpo
    simp only [Bool.and_eq_true] at hpo
    have h2 := hpo.1.2
    have hk' : (planOf ops).kinds.getD i .effect = .load := hk
    rw [hk'] at h2
    simp only [beq_self_eq_true, Bool.not_true, Bool.false_or, Bool.not_eq_true'] at h2
    rw [hdst ho] at ht
    exact writes_false h2 t ht
  · obtain ⟨p, o, hp, ho, hpo⟩ := pair i j hij hj
    unfold pairOk at hpo
    simp only [Bool.and_eq_true] at hpo
    have h3 := hpo.2
    have hb : Nat.testBit ((planOf ops).bef.getD j 0) i = false := by
      cases hc : Nat.testBit ((planOf ops).bef.getD j 0) i with
      | false => rfl
      | true => exact absurd hc hnb
    rw [hb] at h3
    simp only [Bool.false_or, Bool.and_eq_true, Bool.not_eq_true'] at h3
    refine ⟨fun t ht => ?_, fun t ht => ?_, h3.2⟩
    · rw [hdst hp] at ht; exact writes_false h3.1.1 t ht
    · rw [hdst ho] at ht; exact writes_false h3.1.2 t ht
end Go.Ev
namespace Go.Ev
variable {P : Program} {S : Nat → Self} {ro : Nat} {ops : Array Oper} {pl : Plan} [Sm]
theorem overlay_get (b : T Ob) (p : Piece) (id : Nat) : (overlay b p).get id = if p.lo ≤ id ∧ id < p.hi then (p.t.get id).or (b.get id) else b.get id := by
  have aux : ∀ (l : List Nat) (b : T Ob), (l.foldl (fun b id => match p.t.get id with | some o => b.set id o | none => b) b).get id = if id ∈ l then (p.t.get id).or (b.get id) else b.get id := by
    intro l
    induction l with
    | nil => intro b; simp
    | cons x l ih =>
      intro b
      rw [List.foldl_cons, ih]
      by_cases hx : x = id
      · subst hx
        cases hp : p.t.get x with
        | none => simp
        | some o => simp [T.get_set]
      · have hb : (match p.t.get x with | some o => b.set x o | none => b).get id = b.get id := by
          cases p.t.get x with
          | none => rfl
          | some o => simp [T.get_set, hx]
        rw [hb]
        have : id ∈ x :: l ↔ id ∈ l := by simp [Ne.symm hx]
        simp only [this]
  refine (aux (List.range' p.lo (p.hi - p.lo)) b).trans ?_
  have : id ∈ List.range' p.lo (p.hi - p.lo) ↔ p.lo ≤ id ∧ id < p.hi := by
    rw [List.mem_range'_1]; omega
  simp only [this]
theorem fold_get : ∀ (l : List Piece) (b : T Ob) (id : Nat) (o : Ob), (l.foldl overlay b).get id = some o → (∃ p ∈ l, p.lo ≤ id ∧ id < p.hi ∧ p.t.get id = some o) ∨ b.get id = some o
  | [], b, id, o, h => .inr h
  | p :: l, b, id, o, h => by
    rw [List.foldl_cons] at h
    rcases fold_get l _ id o h with ⟨q, hq, h1⟩ | h
    · exact .inl ⟨q, by simp [hq], h1⟩
    · rw [overlay_get] at h
      split at h
      · rename_i hc
        cases hp : p.t.get id with
        | none => rw [hp] at h; exact .inr h
        | some x => rw [hp] at h; exact .inl ⟨p, by simp, hc.1, hc.2, by rw [hp]; exact h⟩
      · exact .inr h
theorem fold_low : ∀ (l : List Piece) (b : T Ob) (id : Nat), (∀ p ∈ l, id < p.lo) → (l.foldl overlay b).get id = b.get id
  | [], b, id, _ => rfl
  | p :: l, b, id, h => by
    rw [List.foldl_cons, fold_low l _ id (fun q hq => h q (by simp [hq])), overlay_get, if_neg]
    have := h p (by simp)
    omega
theorem seen_get {pcs : List Piece} {bits : Nat} {b : T Ob} {id : Nat} {o : Ob} (h : (seen pcs bits b).get id = some o) :
    (∃ p ∈ pcs, Nat.testBit bits p.j = true ∧ p.lo ≤ id ∧ id < p.hi ∧ p.t.get id = some o) ∨ b.get id = some o := by
  rcases fold_get _ _ _ _ h with ⟨p, hp, h1⟩ | h
  · rw [List.mem_filter] at hp
    exact .inl ⟨p, hp.1, by simpa using hp.2, h1⟩
  · exact .inr h
theorem seen_low {pcs : List Piece} {bits : Nat} {b : T Ob} {id : Nat} (h : ∀ p ∈ pcs, id < p.lo) : (seen pcs bits b).get id = b.get id :=
  fold_low _ _ _ fun p hp => h p (List.mem_filter.1 hp).1
inductive Stp (P : Program) (S : Self) (pl : Plan) (ro : Nat) (ops : Array Oper) (o : Oper) (j : Nat) (d d' : DS) (v : IV) : Prop
  | skip (h : wantedI o ops d.e = false) (hv : v = .undef) (hn : d'.n = d.n) (hp : d'.pcs = d.pcs) (hk : kdOf pl j ≠ .effect) (hb : d'.bs = d.bs)
  | skipE (h : wantedI o ops d.e = false) (hv : v = .undef) (hn : d'.n = d.n) (hp : d'.pcs = d.pcs) (hk : kdOf pl j = .effect) (i0 : Nat) (b : T Ob) (rest : List (Nat × T Ob)) (hbs : d.bs = (i0, b) :: rest)
      (hb : d'.bs = (j, b) :: d.bs) (hr : recheck P pl ops (pl.bef.getD j 0) d.e d.n d.pcs b (ops.toList.zipIdx.take j) = true)
  | pure (h : wantedI o ops d.e = true) (hk : kdOf pl j = .pure) (hn : d'.n = d.n) (hp : d'.pcs = d.pcs) (hb : d'.bs = d.bs) (σ : St) (he : evOp P 0 (evalI d.e) o ⟨0, .lf⟩ = some (.val v σ)) (h0 : σ.n = 0)
  | alloc (h : wantedI o ops d.e = true) (hk : kdOf pl j = .alloc) (hb : d'.bs = d.bs) (σ : St) (he : evOp P 0 (evalI d.e) o ⟨d.n, .lf⟩ = some (.val v σ)) (hn : d'.n = σ.n) (hp : d'.pcs = ⟨j, d.n, σ.n, σ.t⟩ :: d.pcs)
  | load (h : wantedI o ops d.e = true) (hk : kdOf pl j = .load) (hn : d'.n = d.n) (hp : d'.pcs = d.pcs) (hb : d'.bs = d.bs) (i0 : Nat) (b : T Ob) (rest : List (Nat × T Ob)) (hbs : d.bs = (i0, b) :: rest)
      (σ : St) (he : evOp P d.n (evalI d.e) o ⟨d.n, seen d.pcs (pl.bef.getD j 0) b⟩ = some (.val v σ)) (h0 : σ.n = d.n)
      (hl : (Nat.testBit (pl.bef.getD j 0) i0 || loadBack P d.e o d.n v d.pcs (pl.bef.getD j 0) rest) = true)
  | call (h : wantedI o ops d.e = true) (hk : kdOf pl j = .call) (hb : d'.bs = d.bs) (i0 : Nat) (b : T Ob) (rest : List (Nat × T Ob)) (hbs : d.bs = (i0, b) :: rest)
      (σ : St) (he : evX P S d.n d.e o ⟨d.n, seen d.pcs (pl.bef.getD j 0) b⟩ = some (v, σ)) (hn : d'.n = σ.n) (hp : d'.pcs = ⟨j, d.n, σ.n, σ.t⟩ :: d.pcs)
  | effect (h : wantedI o ops d.e = true) (hk : kdOf pl j = .effect) (i0 : Nat) (b : T Ob) (rest : List (Nat × T Ob)) (hbs : d.bs = (i0, b) :: rest)
      (σ : St) (he : evX P S ro d.e o ⟨d.n, seen d.pcs (pl.bef.getD j 0) b⟩ = some (v, σ)) (hn : d'.n = σ.n) (hb : d'.bs = (j, σ.t) :: d.bs) (hp : d'.pcs = d.pcs.filter fun p => !Nat.testBit (pl.bef.getD j 0) p.j)
      (hr : recheck P pl ops (pl.bef.getD j 0) d.e d'.n d'.pcs σ.t (ops.toList.zipIdx.take j) = true)
theorem drawStep_stp {U : Self} {o : Oper} {j : Nat} {d d' : DS} (h : drawStep P U pl ro ops o j d = some d') : ∃ v, d'.e = d.e.put o.dst v ∧ d.bs ≠ [] ∧ Stp P U pl ro ops o j d d' v := by
  unfold drawStep at h
  dsimp only at h
  split at h
  · cases h
  · rename_i i0 b rest hbs
    have hne : d.bs ≠ [] := by rw [hbs]; simp
    split at h
    · rename_i hw
      split at h
      · rename_i hk
        split at h
        · rename_i v σ he
          split at h
          · rename_i h0
            cases h
            exact ⟨v, rfl, hne, .pure hw hk rfl rfl rfl σ he h0⟩
          · cases h
        · cases h
      · rename_i hk
        split at h
        · rename_i v σ he
          cases h
          exact ⟨v, rfl, hne, .alloc hw hk rfl σ he rfl rfl⟩
        · cases h
      · rename_i hk
        split at h
        · rename_i v σ he
          split at h
          · rename_i hc
            cases h
            exact ⟨v, rfl, hne, .load hw hk rfl rfl rfl i0 b rest hbs σ he hc.1 hc.2⟩
          · cases h
        · cases h
      · rename_i hk
        split at h
        · rename_i v σ he
          cases h
          exact ⟨v, rfl, hne, .call hw hk rfl i0 b rest hbs σ he rfl rfl⟩
        · cases h
      · rename_i hk
        split at h
        · rename_i v σ he
          split at h
          · rename_i hc
            cases h
            exact ⟨v, rfl, hne, .effect hw hk i0 b rest hbs σ he rfl rfl rfl hc⟩
          · cases h
        · cases h
    · rename_i hw
      have hw : wantedI o ops d.e = false := by simpa using hw
      split at h
      · rename_i hk
        split at h
        · rename_i hc
          cases h
          exact ⟨.undef, rfl, hne, .skipE hw rfl rfl rfl hk i0 b rest hbs rfl hc⟩
        · cases h
      · rename_i hk
        cases h
        exact ⟨.undef, rfl, hne, .skip hw rfl rfl rfl hk rfl⟩
structure Tr (P : Program) (S : Nat → Self) (pl : Plan) (ro : Nat) (ops : Array Oper) (D : Nat → DS) : Prop where
  step : ∀ (j : Nat) (o : Oper), ops[j]? = some o → drawStep P (S j) pl ro ops o j (D j) = some (D (j + 1))
def traceD (P : Program) (S : Nat → Self) (pl : Plan) (ro : Nat) (ops : Array Oper) (d : DS) : Nat → DS
  | 0 => d
  | j + 1 => match ops[j]? with
    | some o => (drawStep P (S j) pl ro ops o j (traceD P S pl ro ops d j)).getD (traceD P S pl ro ops d j)
    | none => traceD P S pl ro ops d j
theorem trace_aux {d0 : DS} : ∀ {l : List Oper} {k : Nat} {d' : DS}, ops.toList.drop k = l → k ≤ ops.size → drawAll P S pl ro ops (l.zipIdx k) (traceD P S pl ro ops d0 k) = some d' →
    (∀ (j : Nat) (o : Oper), k ≤ j → ops[j]? = some o → drawStep P (S j) pl ro ops o j (traceD P S pl ro ops d0 j) = some (traceD P S pl ro ops d0 (j + 1))) ∧ d' = traceD P S pl ro ops d0 ops.size
  | [], k, d', hl, hk, h => by
    have hs : ops.size ≤ k := by
      have : ops.toList.length ≤ k := List.drop_eq_nil_iff.1 hl
      simpa using this
    cases h
    refine ⟨fun j o hj ho => ?_, by rw [show k = ops.size by omega]⟩
    have := (Array.getElem?_eq_some_iff.1 ho).1
    omega
  | o :: l, k, d', hl, hk, h => by
    have hok : ops[k]? = some o := by
      have : (ops.toList.drop k)[0]? = some o := by rw [hl]; rfl
      simpa using this
    have hrest : ops.toList.drop (k + 1) = l := by
      rw [← List.drop_drop (i := 1) (j := k), hl]; rfl
    have hlt := (Array.getElem?_eq_some_iff.1 hok).1
    rw [List.zipIdx_cons] at h
    unfold drawAll at h
    split at h
    · rename_i d1 h1
      have hd1 : traceD P S pl ro ops d0 (k + 1) = d1 := by
        rw [traceD, hok]
        simp only [h1, Option.getD_some]
      rw [← hd1] at h
      obtain ⟨h2, h3⟩ := trace_aux hrest (by omega) h
      refine ⟨fun j o' hj ho => ?_, h3⟩
      rcases Nat.lt_or_eq_of_le hj with hj | rfl
      · exact h2 j o' (by omega) ho
      · rw [hok] at ho; cases ho
        rw [h1, hd1]
    · cases h
theorem trace_ok {d0 d' : DS} (h : drawAll P S pl ro ops ops.toList.zipIdx d0 = some d') : Tr P S pl ro ops (traceD P S pl ro ops d0) ∧ d' = traceD P S pl ro ops d0 ops.size := by
  obtain ⟨h1, h2⟩ := trace_aux (k := 0) (by simp) (by omega) h
  exact ⟨⟨fun j o ho => h1 j o (by omega) ho⟩, h2⟩
section tr
variable {D : Nat → DS} (ht : Tr P S pl ro ops D)
include ht
theorem Tr.stp {j : Nat} (hj : j < ops.size) : ∃ o v, ops[j]? = some o ∧ (D (j + 1)).e = (D j).e.put o.dst v ∧ (D j).bs ≠ [] ∧ Stp P (S j) pl ro ops o j (D j) (D (j + 1)) v := by
  have ho : ops[j]? = some ops[j] := Array.getElem?_eq_getElem hj
  obtain ⟨v, h1, h2, h3⟩ := drawStep_stp (ht.step j _ ho)
  exact ⟨_, v, ho, h1, h2, h3⟩
theorem Tr.n_step (hc : ∀ j, CodeMono (S j)) (hk : ∀ j, CallMono (S j)) {j : Nat} (hj : j < ops.size) : (D j).n ≤ (D (j + 1)).n :=
  drawStep_mono (hc j) (hk j) (ht.step j _ (Array.getElem?_eq_getElem hj))
theorem Tr.n_mono (hc : ∀ j, CodeMono (S j)) (hk : ∀ j, CallMono (S j)) {i j : Nat} (hij : i ≤ j) (hj : j ≤ ops.size) : (D i).n ≤ (D j).n := by
  induction j with
  | zero => have : i = 0 := by omega
            subst this; exact Nat.le_refl _
  | succ j ih =>
    rcases Nat.lt_or_eq_of_le hij with h | rfl
    · exact Nat.le_trans (ih (by omega) (by omega)) (ht.n_step hc hk (by omega))
    · exact Nat.le_refl _
theorem Tr.apart (hc : ∀ j, CodeMono (S j)) (hk : ∀ j, CallMono (S j)) {i j id : Nat} (hi : i < ops.size) (hj : j < ops.size) (h1 : (D i).n ≤ id ∧ id < (D (i + 1)).n) (h2 : (D j).n ≤ id ∧ id < (D (j + 1)).n) : i = j := by
  rcases Nat.lt_trichotomy i j with h | h | h
  · have := ht.n_mono hc hk (show i + 1 ≤ j from h) (by omega); omega
  · exact h
  · have := ht.n_mono hc hk (show j + 1 ≤ i from h) (by omega); omega
theorem Tr.bs_step {j : Nat} (hj : j < ops.size) : (D (j + 1)).bs = (D j).bs ∨ (kdOf pl j = .effect ∧ ∃ b, (D (j + 1)).bs = (j, b) :: (D j).bs) := by
  obtain ⟨o, v, _, _, _, h⟩ := ht.stp hj
  cases h with
  | skip _ _ _ _ _ hb => exact .inl hb
  | skipE _ _ _ _ hk _ b _ _ hb _ => exact .inr ⟨hk, b, hb⟩
  | pure _ _ _ _ hb => exact .inl hb
  | alloc _ _ hb => exact .inl hb
  | load _ _ _ _ hb => exact .inl hb
  | call _ _ hb => exact .inl hb
  | effect _ hk _ _ _ _ σ _ _ hb => exact .inr ⟨hk, σ.t, hb⟩
theorem Tr.bs_suffix {m j : Nat} (hm : m ≤ j) (hj : j ≤ ops.size) : ∃ pre, (D j).bs = pre ++ (D m).bs ∧ ∀ x ∈ pre, m ≤ x.1 ∧ x.1 < j ∧ kdOf pl x.1 = .effect := by
  induction j with
  | zero => have : m = 0 := by omega
            subst this; exact ⟨[], rfl, fun _ h => by cases h⟩
  | succ j ih =>
    rcases Nat.lt_or_eq_of_le hm with h | rfl
    · obtain ⟨pre, h1, h2⟩ := ih (by omega) (by omega)
      rcases ht.bs_step (show j < ops.size by omega) with hb | ⟨hk, b, hb⟩
      · exact ⟨pre, by rw [hb, h1], fun x hx => by have := h2 x hx; exact ⟨this.1, by omega, this.2.2⟩⟩
      · refine ⟨(j, b) :: pre, by rw [hb, h1]; rfl, fun x hx => ?_⟩
        rcases List.mem_cons.1 hx with rfl | hx
        · exact ⟨by omega, by omega, hk⟩
        · have := h2 x hx; exact ⟨this.1, by omega, this.2.2⟩
    · exact ⟨[], rfl, fun _ h => by cases h⟩
theorem Tr.bs_const {m j : Nat} (hm : m ≤ j) (hj : j ≤ ops.size) (hne : ∀ i, m ≤ i → i < j → kdOf pl i ≠ .effect) : (D j).bs = (D m).bs := by
  obtain ⟨pre, h1, h2⟩ := ht.bs_suffix hm hj
  cases pre with
  | nil => exact h1
  | cons x pre => have := h2 x (by simp); exact absurd this.2.2 (hne x.1 this.1 this.2.1)
end tr
structure EnvOf (ops : Array Oper) (D : Nat → DS) (A : Nat → Prop) (e : Env) : Prop where
  n : e.n = (D 0).e.n
  put : ∀ j, A j → ∀ t, dstOf ops j = some t → e.at t = (D (j + 1)).e.at t
  old : ∀ t, (∀ j, A j → dstOf ops j ≠ some t) → e.at t = (D 0).e.at t
theorem put_at {e : Env} {dst : Option Tmp} {v : IV} {t : Nat} (h : dst ≠ some t) : (e.put dst v).at t = e.at t := by
  cases dst with
  | none => rfl
  | some d =>
    rw [Env.at_put, if_neg]
    intro hc
    exact h (by rw [hc.2])
theorem EnvOf.step {D : Nat → DS} {A : Nat → Prop} {e : Env} (ho : PlanOk ops pl) {j : Nat} {o : Oper} {v : IV} (h : EnvOf ops D A e) (hA : ∀ i, A i → i < ops.size) (hj : ops[j]? = some o) (hnj : ¬ A j)
    (hd : (D (j + 1)).e = (D j).e.put o.dst v) (hold : ∀ t, dstOf ops j = some t → (D j).e.at t = (D 0).e.at t) (hn : (D j).e.n = (D 0).e.n) : EnvOf ops D (fun i => A i ∨ i = j) (e.put o.dst v) := by
  have hlt := (Array.getElem?_eq_some_iff.1 hj).1
  have hdst : dstOf ops j = o.dst := by unfold dstOf; rw [hj]; rfl
  have hsing : ∀ i t, A i → dstOf ops i = some t → o.dst ≠ some t := by
    intro i t hi hit
    have hil := hA i hi
    have hne : i ≠ j := fun hx => hnj (hx ▸ hi)
    rw [← hdst]
    rcases Nat.lt_or_gt_of_ne hne with hlt' | hlt'
    · exact ho.single i j hlt' hlt t hit
    · intro hc; exact ho.single j i hlt' hil t hc hit
  refine ⟨by rw [Env.n_put]; exact h.n, fun i hi t hit => ?_, fun t hno => ?_⟩
  · rcases hi with hi | rfl
    · rw [put_at (hsing i t hi hit)]
      exact h.put i hi t hit
    · rw [hdst] at hit
      rw [hd, hit, Env.at_put, Env.at_put, h.n, hn]
      split
      · rfl
      · rw [hold t (by rw [hdst]; exact hit)]
        refine h.old t fun i hi hc => hsing i t hi hc hit
  · rw [put_at (by rw [← hdst]; exact hno j (.inr rfl))]
    exact h.old t fun i hi => hno i (.inl hi)
theorem Tr.env {D : Nat → DS} (ht : Tr P S pl ro ops D) (ho : PlanOk ops pl) : ∀ j, j ≤ ops.size → EnvOf ops D (fun i => i < j) (D j).e
  | 0, _ => ⟨rfl, fun i hi => absurd hi (by omega), fun t _ => rfl⟩
  | j + 1, hj => by
    obtain ⟨o, v, h1, h2, _, _⟩ := ht.stp (show j < ops.size by omega)
    have ih := ht.env ho j (by omega)
    have := EnvOf.step (A := fun i => i < j) (v := v) ho ih (fun i hi => by omega) h1 (by omega) h2 (fun t hd => ih.old t fun i hi hc => ho.single i j hi (by omega) t hc hd) ih.n
    rw [← h2] at this
    refine ⟨this.n, fun i hi => this.put i (by omega), fun t hno => this.old t fun i hi => hno i (by omega)⟩
theorem bit_lt (ho : PlanOk ops pl) : ∀ (j : Nat), j < ops.size → ∀ i, bitOf pl j i → i < j := by
  intro j
  induction j using Nat.strongRecOn with
  | _ j ih =>
    intro hj i hb
    obtain ⟨e, he, hb1, h1⟩ := ho.bits j _ (Array.getElem?_eq_getElem hj) i hb
    have hlt := ho.back j _ (Array.getElem?_eq_getElem hj) e he hb1
    rcases h1 with rfl | h1
    · exact hlt
    · have := ih e.on hlt (by omega) i h1; omega
theorem reads_eq {D : Nat → DS} {A B : Nat → Prop} {e e' : Env} (h : EnvOf ops D A e) (h' : EnvOf ops D B e') {t : Nat} (hAB : ∀ i, dstOf ops i = some t → (A i ↔ B i)) : e.at t = e'.at t := by
  by_cases hx : ∃ i, A i ∧ dstOf ops i = some t
  · obtain ⟨i, hi, hd⟩ := hx
    rw [h.put i hi t hd, h'.put i ((hAB i hd).1 hi) t hd]
  · rw [h.old t fun i hi hd => hx ⟨i, hi, hd⟩, h'.old t fun i hi hd => hx ⟨i, (hAB i hd).2 hi, hd⟩]
theorem eval_reads {e e' : Env} {j : Nat} {o : Oper} (hj : ops[j]? = some o) (h : ∀ t ∈ rdOf ops j, e.at t = e'.at t) (hn : e.n = e'.n) :
    (∀ x ∈ o.op.operands, evalI e x = evalI e' x) ∧ wantedI o ops e = wantedI o ops e' := by
  have hr : rdOf ops j = readsOf ops o := by
    unfold rdOf
    rw [List.getD_eq_getElem?_getD, List.getElem?_map]
    have : ops.toList[j]? = some o := by simpa using hj
    rw [this]; rfl
  rw [hr] at h
  refine ⟨fun x hx => ?_, ?_⟩
  · cases x with
    | tmp t => exact h t (by unfold readsOf; rw [List.mem_append]; left; exact List.mem_filterMap.2 ⟨.tmp t, by simpa using hx, rfl⟩)
    | _ => rfl
  · unfold wantedI
    cases hg : o.guard with
    | none => rfl
    | some g =>
      obtain ⟨i, want⟩ := g
      dsimp only
      cases hd : (ops[i]?).bind (·.dst) with
      | none => rfl
      | some d =>
        dsimp only
        rw [hn, h d (by unfold readsOf; rw [List.mem_append]; right; rw [hg]; dsimp only; rw [hd]; simp)]
end Go.Ev
namespace Go.Ev
variable {P : Program} {S : Nat → Self} {ro : Nat} {ops : Array Oper} {pl : Plan} {D : Nat → DS} {N : Nat} [Sm]
structure Made (ops : Array Oper) (D : Nat → DS) (p : Piece) : Prop where
  lt : p.j < ops.size
  lo : p.lo = (D p.j).n
  hi : p.hi = (D (p.j + 1)).n
  pcs : (D (p.j + 1)).pcs = p :: (D p.j).pcs
def Wef (ops : Array Oper) (pl : Plan) (D : Nat → DS) (i : Nat) : Prop := kdOf pl i = .effect ∧ ∃ o, ops[i]? = some o ∧ wantedI o ops (D i).e = true
def Unab (ops : Array Oper) (pl : Plan) (D : Nat → DS) (A : Nat → Prop) (q : Nat) : Prop := ∀ i, A i → Wef ops pl D i → ¬ bitOf pl i q
def headB (l : List (Nat × T Ob)) : T Ob := match l with | (_, b) :: _ => b | [] => .lf
theorem Tr.pcs (ht : Tr P S pl ro ops D) (ho : PlanOk ops pl) (h0 : (D 0).pcs = []) : ∀ j, j ≤ ops.size → ∀ p ∈ (D j).pcs, Made ops D p ∧ p.j < j ∧ ∀ i, i < j → Wef ops pl D i → ¬ bitOf pl i p.j := by
  intro j
  induction j with
  | zero => intro _ p hp; rw [h0] at hp; cases hp
  | succ j ih =>
    intro hj p hp
    have hjs : j < ops.size := by omega
    obtain ⟨o, v, h1, _, _, hs⟩ := ht.stp hjs
    have old : p ∈ (D j).pcs → (Wef ops pl D j → ¬ bitOf pl j p.j) → Made ops D p ∧ p.j < j + 1 ∧ ∀ i, i < j + 1 → Wef ops pl D i → ¬ bitOf pl i p.j := fun hp hw => by
      obtain ⟨a, b, c⟩ := ih (by omega) p hp
      refine ⟨a, by omega, fun i hi hwi => ?_⟩
      rcases Nat.lt_or_eq_of_le (Nat.le_of_lt_succ hi) with hi | rfl
      · exact c i hi hwi
      · exact hw hwi
    have new : ∀ σ : St, p = ⟨j, (D j).n, σ.n, σ.t⟩ → (D (j + 1)).n = σ.n → (D (j + 1)).pcs = ⟨j, (D j).n, σ.n, σ.t⟩ :: (D j).pcs → Made ops D p ∧ p.j < j + 1 ∧ ∀ i, i < j + 1 → Wef ops pl D i → ¬ bitOf pl i p.j := fun σ hpe hn hpc => by
      subst hpe
      refine ⟨⟨hjs, rfl, hn.symm, hpc⟩, Nat.lt_succ_self _, fun i hi _ hb => ?_⟩
      have := bit_lt ho i (by omega) _ hb
      dsimp only at this
      omega
    cases hs with
    | skip hw hv hn hpc hk hb => rw [hpc] at hp; exact old hp fun h => absurd h.1 hk
    | skipE hw hv hn hpc hk =>
      rw [hpc] at hp
      refine old hp fun h => ?_
      obtain ⟨_, o', h2, h3⟩ := h
      rw [h1] at h2; cases h2
      rw [hw] at h3; cases h3
    | pure hw hk hn hpc => rw [hpc] at hp; exact old hp fun h => (by have := h.1; rw [hk] at this; cases this)
    | load hw hk hn hpc => rw [hpc] at hp; exact old hp fun h => (by have := h.1; rw [hk] at this; cases this)
    | alloc hw hk hb σ he hn hpc =>
      have hp' := hp
      rw [hpc] at hp'
      rcases List.mem_cons.1 hp' with rfl | hp'
      · exact new σ rfl hn hpc
      · exact old hp' fun h => (by have := h.1; rw [hk] at this; cases this)
    | call hw hk hb i0 b rest hbs σ he hn hpc =>
      have hp' := hp
      rw [hpc] at hp'
      rcases List.mem_cons.1 hp' with rfl | hp'
      · exact new σ rfl hn hpc
      · exact old hp' fun h => (by have := h.1; rw [hk] at this; cases this)
    | effect hw hk i0 b rest hbs σ he hn hb hpc =>
      rw [hpc, List.mem_filter] at hp
      refine old hp.1 fun _ hb => ?_
      have h2 := hp.2
      unfold bitOf at hb
      rw [hb] at h2
      cases h2
theorem made_eff (ht : Tr P S pl ro ops D) {p : Piece} (hp : Made ops D p) : kdOf pl p.j ≠ .effect := by
  intro hk
  obtain ⟨o, v, h1, _, _, hs⟩ := ht.stp hp.lt
  have hpc := hp.pcs
  have len := congrArg List.length hpc
  simp only [List.length_cons] at len
  cases hs with
  | skip _ _ _ h => rw [h] at len; omega
  | skipE _ _ _ h => rw [h] at len; omega
  | pure _ h => rw [hk] at h; cases h
  | load _ h => rw [hk] at h; cases h
  | alloc _ h => rw [hk] at h; cases h
  | call _ h => rw [hk] at h; cases h
  | effect _ _ _ _ _ _ _ _ _ _ h =>
    rw [h] at len
    have := List.length_filter_le (fun q => !Nat.testBit (pl.bef.getD p.j 0) q.j) (D p.j).pcs
    omega
theorem made_inj {p q : Piece} (hp : Made ops D p) (hq : Made ops D q) (h : p.j = q.j) : p = q := by
  have h1 := hp.pcs
  have h2 := hq.pcs
  rw [h, h2] at h1
  exact (List.cons.inj h1).1.symm
structure Phi (ops : Array Oper) (pl : Plan) (D : Nat → DS) (N ro : Nat) (ι0 : Io) (w0 : World) (σ0 : St) (A : Nat → Prop) (m : Nat) (e : Env) (ι : Io) (cur : Nat → Option Ob) (w : World) : Prop where
  sub : ∀ i, A i → i < ops.size
  closed : ∀ j, A j → ∀ i, bitOf pl j i → A i
  env : EnvOf ops D A e
  mle : m ≤ ops.size
  eff : ∀ i, i < ops.size → kdOf pl i = .effect → (A i ↔ i < m)
  last : m = 0 ∨ ∃ i, m = i + 1 ∧ A i ∧ kdOf pl i = .effect
  mid : Mid ro (D ops.size).n ι0 w0 σ0 (fun id => (∃ j, j < ops.size ∧ ¬ A j ∧ (D j).n ≤ id ∧ id < (D (j + 1)).n) ∨ ((D ops.size).n ≤ id ∧ id < N)) ι cur w
  piece : ∀ p, Made ops D p → A p.j → Unab ops pl D A p.j → ∀ id o, p.lo ≤ id → id < p.hi → p.t.get id = some o → cur id = some o
  base : ∀ id o, (headB (D m).bs).get id = some o → cur id = some o
  away : ∀ p, Made ops D p → Unab ops pl D A p.j → ∀ id, p.lo ≤ id → id < p.hi → (headB (D m).bs).get id = none
  top : ∀ id, (D m).n ≤ id → (headB (D m).bs).get id = none
  low : ∀ id, id < ro → id < σ0.n → (headB (D m).bs).get id = σ0.at id
section phi
variable {ι0 ι ι' : Io} {w0 w w' : World} {σ0 : St} {A : Nat → Prop} {m : Nat} {e : Env} {cur cur' : Nat → Option Ob}
theorem Phi.see (h : Phi ops pl D N ro ι0 w0 σ0 A m e ι cur w) {j n' : Nat} {pcs : List Piece} (hb : ∀ i, bitOf pl j i → A i) (hp : ∀ p ∈ pcs, Made ops D p ∧ Unab ops pl D A p.j ∧ p.hi ≤ n') (hn : (D m).n ≤ n') :
    (∀ id o, (seen pcs (pl.bef.getD j 0) (headB (D m).bs)).get id = some o → cur id = some o) ∧ (∀ id, n' ≤ id → (seen pcs (pl.bef.getD j 0) (headB (D m).bs)).get id = none) := by
  refine ⟨fun id o hs => ?_, fun id hid => ?_⟩
  · rcases seen_get hs with ⟨p, hpm, hbit, h1, h2, h3⟩ | hs
    · obtain ⟨a, b, _⟩ := hp p hpm
      exact h.piece p a (hb _ hbit) b id o h1 h2 h3
    · exact h.base id o hs
  · cases hs : (seen pcs (pl.bef.getD j 0) (headB (D m).bs)).get id with
    | none => rfl
    | some o =>
      rcases seen_get hs with ⟨p, hpm, hbit, h1, h2, h3⟩ | hs
      · obtain ⟨_, _, c⟩ := hp p hpm; omega
      · rw [h.top id (by omega)] at hs; cases hs
theorem Unab.less {A' : Nat → Prop} {q : Nat} (h : Unab ops pl D A' q) (hA : ∀ i, A i → A' i) : Unab ops pl D A q := fun i hi => h i (hA i hi)
theorem Phi.next (h : Phi ops pl D N ro ι0 w0 σ0 A m e ι cur w) (ht : Tr P S pl ro ops D) (hc : ∀ j, CodeMono (S j)) (hk : ∀ j, CallMono (S j)) {j : Nat} {e' : Env} (hj : j < ops.size) (hnA : ¬ A j) (hb : ∀ i, bitOf pl j i → A i) (hkd : kdOf pl j ≠ .effect)
    (he : EnvOf ops D (fun i => A i ∨ i = j) e') {Fr : Nat → Prop} (hmid : Mid ro (D ops.size).n ι0 w0 σ0 Fr ι' cur' w')
    (hfr : ∀ id, ((∃ i, i < ops.size ∧ ¬ (A i ∨ i = j) ∧ (D i).n ≤ id ∧ id < (D (i + 1)).n) ∨ ((D ops.size).n ≤ id ∧ id < N)) → Fr id)
    (hcur : ∀ id o, ¬ ((D j).n ≤ id ∧ id < (D (j + 1)).n) → cur id = some o → cur' id = some o) (hr : (D (j + 1)).n = (D j).n ∨ ∃ p, Made ops D p ∧ p.j = j)
    (hpc : ∀ p, Made ops D p → p.j = j → ∀ id o, p.lo ≤ id → id < p.hi → p.t.get id = some o → cur' id = some o) : Phi ops pl D N ro ι0 w0 σ0 (fun i => A i ∨ i = j) m e' ι' cur' w' where
  sub := fun i hi => hi.elim (h.sub i) (fun x => x ▸ hj)
  closed := fun i hi q hq => hi.elim (fun hi => .inl (h.closed i hi q hq)) (fun x => .inl (hb q (x ▸ hq)))
  env := he
  mle := h.mle
  eff := fun i hi hke => by
    rw [← h.eff i hi hke]
    exact ⟨fun x => x.elim id (fun x => absurd (x ▸ hke) hkd), .inl⟩
  last := h.last.imp id (fun ⟨i, h1, h2, h3⟩ => ⟨i, h1, .inl h2, h3⟩)
  mid := hmid.fr hfr
  piece := fun p hp hA hu id o h1 h2 h3 => by
    by_cases hpj : p.j = j
    · exact hpc p hp hpj id o h1 h2 h3
    · refine hcur id o (fun hx => ?_) (h.piece p hp (hA.resolve_right hpj) (hu.less fun _ x => .inl x) id o h1 h2 h3)
      rw [hp.lo] at h1; rw [hp.hi] at h2
      exact hpj (ht.apart hc hk hp.lt hj ⟨h1, h2⟩ hx)
  base := fun id o hg => by
    refine hcur id o (fun hx => ?_) (h.base id o hg)
    rcases hr with hr | ⟨p, hp, hpj⟩
    · omega
    · have := h.away p hp (fun i hi _ hbi => hnA (h.closed i hi j (hpj ▸ hbi))) id (by rw [hp.lo, hpj]; exact hx.1) (by rw [hp.hi, hpj]; exact hx.2)
      rw [this] at hg; cases hg
  away := fun p hp hu => h.away p hp (hu.less fun _ x => .inl x)
  top := h.top
  low := h.low
theorem Phi.nextE (h : Phi ops pl D N ro ι0 w0 σ0 A m e ι cur w) {j : Nat} {e' : Env} (hj : j < ops.size) (hb : ∀ i, bitOf pl j i → A i) (hkd : kdOf pl j = .effect) (heff : ∀ i, i < ops.size → kdOf pl i = .effect → (A i ↔ i < j))
    (he : EnvOf ops D (fun i => A i ∨ i = j) e') {Fr : Nat → Prop} (hmid : Mid ro (D ops.size).n ι0 w0 σ0 Fr ι' cur' w')
    (hfr : ∀ id, ((∃ i, i < ops.size ∧ ¬ (A i ∨ i = j) ∧ (D i).n ≤ id ∧ id < (D (i + 1)).n) ∨ ((D ops.size).n ≤ id ∧ id < N)) → Fr id)
    (hpc : ∀ p, Made ops D p → p.j ≠ j → A p.j → Unab ops pl D (fun i => A i ∨ i = j) p.j → ∀ id o, p.lo ≤ id → id < p.hi → cur id = some o → cur' id = some o) (hne : ∀ p, Made ops D p → p.j ≠ j)
    (hbase : ∀ id o, (headB (D (j + 1)).bs).get id = some o → cur' id = some o)
    (haway : ∀ p, Made ops D p → Unab ops pl D (fun i => A i ∨ i = j) p.j → ∀ id, p.lo ≤ id → id < p.hi → (headB (D (j + 1)).bs).get id = none)
    (htop : ∀ id, (D (j + 1)).n ≤ id → (headB (D (j + 1)).bs).get id = none) (hlow : ∀ id, id < ro → id < σ0.n → (headB (D (j + 1)).bs).get id = σ0.at id) :
    Phi ops pl D N ro ι0 w0 σ0 (fun i => A i ∨ i = j) (j + 1) e' ι' cur' w' where
  sub := fun i hi => hi.elim (h.sub i) (fun x => x ▸ hj)
  closed := fun i hi q hq => hi.elim (fun hi => .inl (h.closed i hi q hq)) (fun x => .inl (hb q (x ▸ hq)))
  env := he
  mle := hj
  eff := fun i hi hke => by
    constructor
    · intro x
      rcases x with x | rfl
      · have := (heff i hi hke).1 x; omega
      · omega
    · intro x
      by_cases hij : i = j
      · exact .inr hij
      · exact .inl ((heff i hi hke).2 (by omega))
  last := .inr ⟨j, rfl, .inr rfl, hkd⟩
  mid := hmid.fr hfr
  piece := fun p hp hA hu id o h1 h2 h3 => hpc p hp (hne p hp) (hA.resolve_right (hne p hp)) hu id o h1 h2 (h.piece p hp (hA.resolve_right (hne p hp)) (hu.less fun _ x => .inl x) id o h1 h2 h3)
  base := hbase
  away := haway
  top := htop
  low := hlow
end phi
end Go.Ev
