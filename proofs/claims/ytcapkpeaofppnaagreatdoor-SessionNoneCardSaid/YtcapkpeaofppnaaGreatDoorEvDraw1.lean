/- A part of the verified evaluator of closed runs (EvDraw1): lemmas and definitions over the model, without conditions of their own. -/
import Derived.Test.YtcapkpeaofppnaaGreatDoorEvWalk3
namespace Go.Ev
variable {P : Program} {N ro m : Nat} {ι : Io} {w : World} {σ : St} {e : Env} {a : Act} {S : Self} {F : Fence} {rd : Option Nat} {Q : Exit → Act → World → Prop}

theorem evOp_congr {ρ ρ' : Operand → IV} {o : Oper} (h : ∀ x ∈ o.op.operands, ρ x = ρ' x) : evOp P ro ρ o σ = evOp P ro ρ' o σ := by
  obtain ⟨dst, op, type, pos, after, guard⟩ := o
  have pairs : ∀ ps : Array (Nat × Operand), (∀ x ∈ (ps.toList.map (·.2)), ρ x = ρ' x) → (ps.toList.map fun (i, x) => (i, ρ x)) = (ps.toList.map fun (i, x) => (i, ρ' x)) := fun ps hp =>
    List.map_congr_left fun p hm => by
      obtain ⟨i, x⟩ := p
      simp only [hp x (List.mem_map.2 ⟨(i, x), hm, rfl⟩)]
  cases op <;> simp only [Op.operands] at h <;> unfold evOp <;> dsimp only
  case move x => rw [h x (by simp)]
  case assign x => rw [h x (by simp)]
  case pick c x y => rw [h c (by simp), h x (by simp), h y (by simp)]
  case box t x => rw [h x (by simp)]
  case build t ps => rw [pairs ps fun x hx => h x (by simpa using hx)]
  case buildSlice t n ps => rw [pairs ps fun x hx => h x (by simpa using hx)]
  case load t x => rw [h x (by simp)]
  case store t x y => rw [h x (by simp), h y (by simp)]
  case nilCheck x => rw [h x (by simp)]
  case binOp op t x y yT => rw [h x (by simp), h y (by simp)]
  case unOp op t x => rw [h x (by simp)]
  case convert s d x => rw [h x (by simp)]
  case makeInterface t x => rw [h x (by simp)]
  case makeFunc fn first captured =>
    rw [List.map_congr_left (l := first.toList) fun x hx => h x (by simp at hx; simp [hx]), List.map_congr_left (l := captured.toList) fun x hx => h x (by simp at hx; simp [hx])]
  case makeMap t r => cases r with | none => rfl | some x => dsimp only; rw [h x (by simp)]
  case makeSlice t x y => rw [h x (by simp), h y (by simp)]
  case slice t x lo hi mx =>
    have e1 : lo.map ρ = lo.map ρ' := by cases lo with | none => rfl | some y => simp only [Option.map_some, h y (by simp)]
    have e2 : hi.map ρ = hi.map ρ' := by cases hi with | none => rfl | some y => simp only [Option.map_some, h y (by simp)]
    have e3 : mx.map ρ = mx.map ρ' := by cases mx with | none => rfl | some y => simp only [Option.map_some, h y (by simp)]
    rw [h x (by simp), e1, e2, e3]
  case fieldAddr t x f => rw [h x (by simp)]
  case field t x f => rw [h x (by simp)]
  case indexAddr t x y => rw [h x (by simp), h y (by simp)]
  case index t x y => rw [h x (by simp), h y (by simp)]
  case lookup t x y ok => rw [h x (by simp), h y (by simp)]
  case mapUpdate t x y z => rw [h x (by simp), h y (by simp), h z (by simp)]
  case insert t x y z => rw [h x (by simp), h y (by simp), h z (by simp)]
  case mapEntry t x y => rw [h x (by simp), h y (by simp)]
  case entryStore t x y z => rw [h x (by simp), h y (by simp), h z (by simp)]
  case range t x => rw [h x (by simp)]
  case next x s => rw [h x (by simp)]
  case entry x => rw [h x (by simp)]
  case extract x i => rw [h x (by simp)]
  case typeAssert x xt t ok => rw [h x (by simp)]
  case panic x => rw [h x (by simp)]
  case call c =>
    have ha : c.args.toList.map ρ = c.args.toList.map ρ' := List.map_congr_left fun x hx => h x (by simp [Call.operands]; right; simpa using hx)
    rw [ha]
    cases hc : c.callee with
    | value f => dsimp only; rw [h f (by simp [Call.operands, hc])]
    | invoke r m => dsimp only; rw [h r (by simp [Call.operands, hc])]
    | builtin b => rfl
  case defer c =>
    have ha : c.args.toList.map ρ = c.args.toList.map ρ' := List.map_congr_left fun x hx => h x (by simp [Call.operands]; right; simpa using hx)
    rw [ha]
    cases hc : c.callee with
    | value f => dsimp only; rw [h f (by simp [Call.operands, hc])]
    | invoke r m => rfl
    | builtin b => rfl

/-! ### In the middle of a region -/
/-- What holds of the world, where the store is 'cur' and the names in 'Fr' are fresh. -/
structure Gn (Fr : Nat → Prop) (ι : Io) (cur : Nat → Option Ob) (w : World) : Prop where
  mem : ∀ b c, ι.m b = some c → ∃ e f, w.heap[b]? = some (.cells c e f)
  sep : ∀ b c id, ι.m b = some c → ¬ Own ι id b
  bnd : ∀ id b, Own ι id b → b < w.heap.size
  inj : ∀ i j b, Own ι i b → Own ι j b → i = j
  fresh : ∀ id, Fr id → ∀ e, ι id e = none
  obj : ∀ id o, cur id = some o → ObjRel ι w id o

theorem Gn.inv {Fr : Nat → Prop} {cur : Nat → Option Ob} (h : Gn Fr ι cur w) (sub : ∀ id o, σ.at id = some o → cur id = some o) (fr : ∀ id, σ.n ≤ id → id < N → Fr id) (wf : ∀ id, σ.n ≤ id → σ.at id = none) : Inv N ι σ w :=
  ⟨h.mem, h.sep, h.bnd, fun id h1 h2 => h.fresh id (fr id h1 h2), h.inj, fun id o ho => h.obj id o (sub id o ho), wf⟩

theorem objRel_own {id : Nat} {o : Ob} (h : ObjRel ι w id o) : ∃ e l, ι id e = some l := by
  cases o with
  | cells cs ep mn => obtain ⟨_, ⟨l, hl, _⟩, _⟩ := h; exact ⟨_, l, hl⟩
  | map es c => obtain ⟨l, _, hl, _⟩ := h; exact ⟨_, l, hl⟩
  | siter s p => obtain ⟨l, hl, _⟩ := h; exact ⟨_, l, hl⟩
  | miter a b c d => obtain ⟨l, _, hl, _⟩ := h; exact ⟨_, l, hl⟩
  | loop a b c d e f g h' i => obtain ⟨l, _, _, _, hl, _⟩ := h; exact ⟨_, l, hl⟩
  | dfd t => obtain ⟨l, hl, _⟩ := h; exact ⟨_, l, hl⟩

/-- The store behind a step that saw σ and left σ'. -/
def upd (cur : Nat → Option Ob) (σ σ' : St) (id : Nat) : Option Ob := if (σ.at id).isSome ∨ (σ.n ≤ id ∧ id < σ'.n) then σ'.at id else cur id

/-- From the region's start to its middle. -/
structure Mid (ro nk : Nat) (ι0 : Io) (w0 : World) (σ0 : St) (Fr : Nat → Prop) (ι : Io) (cur : Nat → Option Ob) (w : World) : Prop extends Gn Fr ι cur w where
  ext : Ext ι0 ι
  mown : ∀ b c, ι.m b = some c → ι0.m b = some c ∨ w0.heap.size ≤ b
  own : ∀ id b, Own ι id b → Own ι0 id b ∨ w0.heap.size ≤ b
  dom : ∀ id, σ0.at id = none → (id < σ0.n ∨ nk ≤ id) → ∀ e, ι id e = ι0 id e
  dead : ∀ id, σ0.at id = none → (id < σ0.n ∨ nk ≤ id) → cur id = none
  prot : ∀ id, id < ro → id < σ0.n → cur id = σ0.at id
  os : w.os = w0.os
  tape : w.tape = w0.tape
  output : w.output = w0.output
  size : w0.heap.size ≤ w.heap.size
  frame : ∀ b, b < w0.heap.size → (∀ id, Own ι0 id b → id < ro ∨ σ0.at id = none) → w.heap[b]? = w0.heap[b]?

theorem Mid.start {nk : Nat} (h : Inv N ι σ w) (hnk : nk ≤ N) : Mid ro nk ι w σ (fun id => σ.n ≤ id ∧ id < N) ι σ.at w :=
  { mem := h.mem, sep := h.sep, bnd := h.bnd, inj := h.inj, fresh := fun id hid => h.fresh id hid.1 hid.2, obj := h.obj, ext := Ext.refl _, mown := fun _ _ h => .inl h, own := fun _ _ h => .inl h,
    dom := fun _ _ _ _ => rfl, dead := fun _ h _ => h, prot := fun _ _ _ => rfl, os := rfl, tape := rfl, output := rfl, size := Nat.le_refl _, frame := fun _ _ _ => rfl }

theorem Mid.step {nk N' ro' : Nat} {ι0 ι' : Io} {w0 w' : World} {σ0 σ' : St} {Fr : Nat → Prop} {cur : Nat → Option Ob} (h : Mid ro nk ι0 w0 σ0 Fr ι cur w) (hf0 : ∀ id, σ0.n ≤ id → id < nk → ∀ e, ι0 id e = none)
    (sub : ∀ id o, σ.at id = some o → cur id = some o) (rng : ∀ id, σ.n ≤ id → id < σ'.n → σ0.n ≤ id ∧ id < nk) (hro : ∀ id, id < ro → (σ.at id).isSome = true → id < ro') (wf : ∀ id, σ.n ≤ id → σ.at id = none)
    (hi : Inv N' ι' σ' w') (hl : Le ro' ι w σ ι' w' σ') : Mid ro nk ι0 w0 σ0 (fun id => Fr id ∧ ¬ (σ.n ≤ id ∧ id < σ'.n)) ι' (upd cur σ σ') w' := by
  have none_of : ∀ id, cur id = none → σ.at id = none := fun id hc => by
    cases hs : σ.at id with
    | none => rfl
    | some o => rw [sub id o hs] at hc; cases hc
  have out : ∀ id, ¬ (σ.n ≤ id ∧ id < σ'.n) → id < σ.n ∨ σ'.n ≤ id := fun id hn => by omega
  have hnr : ∀ id, (id < σ0.n ∨ nk ≤ id) → ¬ (σ.n ≤ id ∧ id < σ'.n) := fun id hh hn => by have := rng id hn.1 hn.2; omega
  exact {
    mem := hi.mem, sep := hi.sep, bnd := hi.bnd, inj := hi.inj
    fresh := fun id hid e => by
      have hn : σ.at id = none := by
        cases hs : σ.at id with
        | none => rfl
        | some o =>
          obtain ⟨e', l, hl'⟩ := objRel_own (h.obj id o (sub id o hs))
          rw [h.fresh id hid.1 e'] at hl'; cases hl'
      rw [hl.dom id hn (out id hid.2) e, h.fresh id hid.1 e]
    obj := fun id o ho => by
      unfold upd at ho
      split at ho
      · exact hi.obj id o ho
      · rename_i hc
        have hn : σ.at id = none := by
          cases hs : σ.at id with
          | none => rfl
          | some o => exact absurd (.inl (by rw [hs]; rfl)) hc
        have hr : ¬ (σ.n ≤ id ∧ id < σ'.n) := fun hx => hc (.inr hx)
        refine (h.obj id o ho).keep hl.ext (fun e => hl.dom id hn (out id hr) e) fun b hb => ?_
        refine hl.frame b (h.bnd id b hb) fun id' hid' => .inr ?_
        rw [h.inj id' id b hid' hb]; exact hn
    ext := h.ext.trans hl.ext
    mown := fun b c hb => (hl.mown b c hb).elim (fun hb => h.mown b c hb) (fun hb => .inr (Nat.le_trans h.size hb))
    own := fun id b hb => (hl.own id b hb).elim (fun hb => h.own id b hb) (fun hb => .inr (Nat.le_trans h.size hb))
    dom := fun id hn hr e => (hl.dom id (none_of id (h.dead id hn hr)) (out id (hnr id hr)) e).trans (h.dom id hn hr e)
    dead := fun id hn hr => by
      unfold upd
      rw [if_neg]
      · exact h.dead id hn hr
      · rw [none_of id (h.dead id hn hr)]
        intro hx
        rcases hx with hx | hx
        · cases hx
        · exact hnr id hr hx
    prot := fun id hr hn => by
      unfold upd
      split
      · rename_i hc
        have hs : (σ.at id).isSome := hc.resolve_right (hnr id (.inl hn))
        obtain ⟨o, ho⟩ := Option.isSome_iff_exists.1 hs
        have hlt : id < σ.n := Nat.lt_of_not_le fun hle => by rw [wf id hle] at ho; cases ho
        rw [hl.prot id (hro id hr hs) hlt, ho, ← sub id o ho]
        exact h.prot id hr hn
      · exact h.prot id hr hn
    os := hl.os.trans h.os
    tape := hl.tape.trans h.tape
    output := hl.output.trans h.output
    size := Nat.le_trans h.size hl.size
    frame := fun b hb hc => by
      rw [hl.frame b (Nat.lt_of_lt_of_le hb h.size) ?_, h.frame b hb hc]
      intro id hid
      cases hs : σ.at id with
      | none => exact .inr rfl
      | some o =>
        have hlt : id < σ.n := Nat.lt_of_not_le fun hle => by rw [wf id hle] at hs; cases hs
        rcases h.own id b hid with ho | ho
        · rcases hc id ho with hr | hd
          · exact .inl (hro id hr (by rw [hs]; rfl))
          · right
            have hr : id < σ0.n ∨ nk ≤ id := by
              by_cases h1 : id < σ0.n
              · exact .inl h1
              · by_cases h2 : id < nk
                · obtain ⟨e, l, hl', _⟩ := ho
                  rw [hf0 id (by omega) h2 e] at hl'; cases hl'
                · exact .inr (by omega)
            have := sub id o hs
            rw [h.dead id hd hr] at this; cases this
        · omega }

theorem Mid.fr {nk : Nat} {ι0 : Io} {w0 : World} {σ0 : St} {Fr Fr' : Nat → Prop} {cur : Nat → Option Ob} (h : Mid ro nk ι0 w0 σ0 Fr ι cur w) (hf : ∀ id, Fr' id → Fr id) : Mid ro nk ι0 w0 σ0 Fr' ι cur w :=
  { h with fresh := fun id hid => h.fresh id (hf id hid) }

/-- At the end of the region. -/
theorem Mid.fin {nk : Nat} {ι0 : Io} {w0 : World} {σ0 : St} {Fr : Nat → Prop} {cur : Nat → Option Ob} {t : T Ob} (h : Mid ro nk ι0 w0 σ0 Fr ι cur w) (hn : σ0.n ≤ nk) (hfr : ∀ id, nk ≤ id → id < N → Fr id)
    (sub : ∀ id o, t.get id = some o → cur id = some o) (wf : ∀ id, nk ≤ id → t.get id = none) (hp : ∀ id, id < ro → id < σ0.n → t.get id = σ0.at id) :
    Inv N ι ⟨nk, t⟩ w ∧ Le ro ι0 w0 σ0 ι w ⟨nk, t⟩ := by
  refine ⟨h.toGn.inv sub hfr wf, h.ext, h.own, h.dom, fun id hn hr => ?_, hp, hn, h.os, h.tape, h.output, h.size, h.frame, h.mown⟩
  have := h.dead id hn hr
  cases hs : t.get id with
  | none => exact hs
  | some o => rw [sub id o hs] at this; cases this

end Go.Ev
