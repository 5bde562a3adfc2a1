/- A part of the verified evaluator of closed runs (EvInv): lemmas and definitions over the model, without conditions of their own. -/
import Derived.Test.YtcapkpeaofppnaaGreatDoorEvBase
namespace Go.Ev

def Own (ι : Io) (id b : Nat) : Prop := ∃ e l, ι id e = some l ∧ l.b = b

def EntRel (ι : Io) (es : List (Value × IV × Nat)) (res : Array MapEntry) : Prop :=
  es.length = res.size ∧ ∀ (i : Nat) (e : Value × IV × Nat) (r : MapEntry), es[i]? = some e → res[i]? = some r → r.key = e.1 ∧ Rv ι e.2.1 r.val ∧ r.born = e.2.2

/-- What an object says of the world. -/
def ObjRel (ι : Io) (w : World) (id : Nat) : Ob → Prop
  | .cells cs ep mn => (mn ≤ ep ∧ ∀ e, ep < e → ι id e = none) ∧ (∃ l, ι id ep = some l ∧ l.n = cs.length) ∧ ∀ e, mn ≤ e → e ≤ ep → ∃ l c el, ι id e = some l ∧ l.n ≤ cs.length ∧ w.heap[l.b]? = some (.cells c el (0, 0)) ∧
      l.lim = c.size ∧ ∀ k x, k < l.n → cs[k]? = some x → ∃ u, c[k]? = some u ∧ Rv ι x u
  | .map es clock => ∃ l res, ι id 0 = some l ∧ w.heap[l.b]? = some (.map res clock) ∧ EntRel ι es res
  | .siter s pos => ∃ l, ι id 0 = some l ∧ w.heap[l.b]? = some (.stringIter s pos)
  | .miter m since seen stepped => ∃ l mr, ι id 0 = some l ∧ w.heap[l.b]? = some (.mapIter mr since seen.toArray stepped) ∧
      (match m with | none => mr = none | some m => ∃ lm, ι m 0 = some lm ∧ mr = some lm.b)
  | .loop st pend _ tm ntm ps asg bd dfs => ∃ l ld ts f, ι id 0 = some l ∧ ι dfs 0 = some ld ∧
      w.heap[l.b]? = some (.loop { state := st, pending := pend, fn := f, tmps := ts, params := ps.toArray, assign := asg, body := bd, defers := ld.b }) ∧
      ts.size = ntm ∧ ∀ t, Rv ι ((tm.get t).getD .undef) (ts.getD t Go.undef)
  | .dfd taken => ∃ l, ι id 0 = some l ∧ w.heap[l.b]? = some (.deferred (if taken then none else some []))

structure Inv (N : Nat) (ι : Io) (σ : St) (w : World) : Prop where
  mem : ∀ b c, ι.m b = some c → ∃ e f, w.heap[b]? = some (.cells c e f)
  sep : ∀ b c id, ι.m b = some c → ¬ Own ι id b
  bnd : ∀ id b, Own ι id b → b < w.heap.size
  fresh : ∀ id, σ.n ≤ id → id < N → ∀ e, ι id e = none
  inj : ∀ i j b, Own ι i b → Own ι j b → i = j
  obj : ∀ id o, σ.at id = some o → ObjRel ι w id o
  wf : ∀ id, σ.n ≤ id → σ.at id = none

/-- From one state to a later one. Objects below ro are not written. -/
structure Le (ro : Nat) (ι : Io) (w : World) (σ : St) (ι' : Io) (w' : World) (σ' : St) : Prop where
  ext : Ext ι ι'
  own : ∀ id b, Own ι' id b → Own ι id b ∨ w.heap.size ≤ b
  dom : ∀ id, σ.at id = none → (id < σ.n ∨ σ'.n ≤ id) → ∀ e, ι' id e = ι id e
  dead : ∀ id, σ.at id = none → (id < σ.n ∨ σ'.n ≤ id) → σ'.at id = none
  prot : ∀ id, id < ro → id < σ.n → σ'.at id = σ.at id
  n_le : σ.n ≤ σ'.n
  os : w'.os = w.os
  tape : w'.tape = w.tape
  output : w'.output = w.output
  size : w.heap.size ≤ w'.heap.size
  frame : ∀ b, b < w.heap.size → (∀ id, Own ι id b → id < ro ∨ σ.at id = none) → w'.heap[b]? = w.heap[b]?
  mown : ∀ b c, ι'.m b = some c → ι.m b = some c ∨ w.heap.size ≤ b

theorem Le.refl (ro : Nat) (ι : Io) (w : World) (σ : St) : Le ro ι w σ ι w σ :=
  ⟨Ext.refl _, fun _ _ h => .inl h, fun _ _ _ _ => rfl, fun _ h _ => h, fun _ _ _ => rfl, Nat.le_refl _, rfl, rfl, rfl, Nat.le_refl _, fun _ _ _ => rfl, fun _ _ h => .inl h⟩

theorem Le.trans {ro : Nat} {ι ι1 ι2 : Io} {w w1 w2 : World} {σ σ1 σ2 : St} (hf : ∀ id, σ.n ≤ id → id < σ1.n → ∀ e, ι id e = none)
    (h : Le ro ι w σ ι1 w1 σ1) (k : Le ro ι1 w1 σ1 ι2 w2 σ2) : Le ro ι w σ ι2 w2 σ2 where
  ext := h.ext.trans k.ext
  own := fun id b hb => (k.own id b hb).elim (fun hb => h.own id b hb) (fun hb => .inr (Nat.le_trans h.size hb))
  dom := fun id hn hr e => (k.dom id (h.dead id hn (by have := k.n_le; omega)) (by have := h.n_le; omega) e).trans (h.dom id hn (by have := k.n_le; omega) e)
  dead := fun id hn hr => k.dead id (h.dead id hn (by have := k.n_le; omega)) (by have := h.n_le; omega)
  prot := fun id hr hn => (k.prot id hr (by have := h.n_le; omega)).trans (h.prot id hr hn)
  n_le := Nat.le_trans h.n_le k.n_le
  os := k.os.trans h.os
  tape := k.tape.trans h.tape
  output := k.output.trans h.output
  size := Nat.le_trans h.size k.size
  frame := fun b hb hc => by
    rw [k.frame b (Nat.lt_of_lt_of_le hb h.size) ?_, h.frame b hb hc]
    intro id hid
    rcases h.own id b hid with ho | ho
    · rcases hc id ho with hlt | hd
      · exact .inl hlt
      · right
        refine h.dead id hd ?_
        by_cases hn : id < σ.n
        · exact .inl hn
        · by_cases hn1 : id < σ1.n
          · obtain ⟨e, l, hl, _⟩ := ho
            rw [hf id (by omega) hn1 e] at hl; cases hl
          · exact .inr (by omega)
    · omega
  mown := fun b c hb => (k.mown b c hb).elim (fun hb => h.mown b c hb) (fun hb => .inr (Nat.le_trans h.size hb))

theorem EntRel.mono {ι ι' : Io} (hι : Ext ι ι') {es : List (Value × IV × Nat)} {res : Array MapEntry} (h : EntRel ι es res) : EntRel ι' es res :=
  ⟨h.1, fun i e r h1 h2 => let ⟨a, b, c⟩ := h.2 i e r h1 h2; ⟨a, b.mono hι, c⟩⟩

theorem ObjRel.keep {ι ι' : Io} {w w' : World} {id : Nat} (hι : Ext ι ι') (hid : ∀ e, ι' id e = ι id e) (hb : ∀ b, Own ι id b → w'.heap[b]? = w.heap[b]?) :
    ∀ {o : Ob}, ObjRel ι w id o → ObjRel ι' w' id o
  | .cells cs ep mn, h => by
    obtain ⟨h1, ⟨l, hl, hn⟩, h3⟩ := h
    refine ⟨⟨h1.1, fun e he => (hid e).trans (h1.2 e he)⟩, ⟨l, hι _ _ _ hl, hn⟩, fun e he he' => ?_⟩
    obtain ⟨l, c, el, hl, hn, hc, hlim, hk⟩ := h3 e he he'
    refine ⟨l, c, el, hι _ _ _ hl, hn, by rw [hb _ ⟨e, l, hl, rfl⟩]; exact hc, hlim, fun k x hkn hx => ?_⟩
    obtain ⟨u, hu, hr⟩ := hk k x hkn hx
    exact ⟨u, hu, hr.mono hι⟩
  | .map es clock, h => by
    obtain ⟨l, res, hl, hh, he⟩ := h
    exact ⟨l, res, hι _ _ _ hl, by rw [hb _ ⟨0, l, hl, rfl⟩]; exact hh, he.mono hι⟩
  | .siter s pos, h => by
    obtain ⟨l, hl, hh⟩ := h
    exact ⟨l, hι _ _ _ hl, by rw [hb _ ⟨0, l, hl, rfl⟩]; exact hh⟩
  | .miter m since seen stepped, h => by
    obtain ⟨l, mr, hl, hh, hm⟩ := h
    refine ⟨l, mr, hι _ _ _ hl, by rw [hb _ ⟨0, l, hl, rfl⟩]; exact hh, ?_⟩
    cases m with
    | none => exact hm
    | some m => obtain ⟨lm, h1, h2⟩ := hm; exact ⟨lm, hι _ _ _ h1, h2⟩
  | .loop st pend f tm ntm ps asg bd dfs, h => by
    obtain ⟨l, ld, ts, f, hl, hd, hh, hs, ht⟩ := h
    exact ⟨l, ld, ts, f, hι _ _ _ hl, hι _ _ _ hd, by rw [hb _ ⟨0, l, hl, rfl⟩]; exact hh, hs, fun t => (ht t).mono hι⟩
  | .dfd taken, h => by
    obtain ⟨l, hl, hh⟩ := h
    exact ⟨l, hι _ _ _ hl, by rw [hb _ ⟨0, l, hl, rfl⟩]; exact hh⟩

@[simp] theorem St.at_put (σ : St) (id : Nat) (o : Ob) (j : Nat) : (σ.put id o).at j = if id = j then some o else σ.at j := by simp [St.at, St.put, T.get_set]
@[simp] theorem St.at_add (σ : St) (o : Ob) (j : Nat) : (σ.add o).at j = if σ.n = j then some o else σ.at j := by simp [St.at, St.add, T.get_set]
@[simp] theorem St.n_put (σ : St) (id : Nat) (o : Ob) : (σ.put id o).n = σ.n := rfl
@[simp] theorem St.n_add (σ : St) (o : Ob) : (σ.add o).n = σ.n + 1 := rfl

/-- One object has changed, or is new; everything else is as it was. -/
theorem Inv.change {N : Nat} {ι ι' : Io} {σ σ' : St} {w w' : World} {id0 : Nat} {ob' : Ob} (h : Inv N ι σ w)
    (hι : Ext ι ι') (hoth : ∀ i, i ≠ id0 → ∀ e, ι' i e = ι i e) (hown : ∀ id b, Own ι' id b → Own ι id b ∨ (id = id0 ∧ w.heap.size ≤ b))
    (hbnd : ∀ b, Own ι' id0 b → b < w'.heap.size) (hsz : w.heap.size ≤ w'.heap.size)
    (hblk : ∀ b, b < w.heap.size → ¬ Own ι id0 b → w'.heap[b]? = w.heap[b]?) (hob : ObjRel ι' w' id0 ob')
    (hat : ∀ j, σ'.at j = if id0 = j then some ob' else σ.at j) (hn : σ.n ≤ σ'.n ∧ id0 < σ'.n) (hfr : ∀ id, σ'.n ≤ id → id < N → ∀ e, ι' id e = none) (hm : ι'.m = ι.m := by rfl) : Inv N ι' σ' w' where
  mem := fun b c hb => by
    rw [hm] at hb
    obtain ⟨e, f, hh⟩ := h.mem b c hb
    have hlt : b < w.heap.size := by
      rcases Nat.lt_or_ge b w.heap.size with hlt | hge
      · exact hlt
      · rw [Array.getElem?_eq_none hge] at hh; cases hh
    exact ⟨e, f, by rw [hblk b hlt (h.sep b c id0 hb)]; exact hh⟩
  sep := fun b c id hb ho => by
    rw [hm] at hb
    rcases hown id b ho with ho | ⟨_, ho⟩
    · exact h.sep b c id hb ho
    · obtain ⟨e, f, hh⟩ := h.mem b c hb
      rw [Array.getElem?_eq_none ho] at hh; cases hh
  bnd := fun id b ho => by
    rcases hown id b ho with ho' | ⟨rfl, _⟩
    · exact Nat.lt_of_lt_of_le (h.bnd id b ho') hsz
    · exact hbnd b ho
  fresh := hfr
  inj := fun i j b hi hj => by
    rcases hown i b hi with hi' | ⟨rfl, hi'⟩ <;> rcases hown j b hj with hj' | ⟨rfl, hj'⟩
    · exact h.inj i j b hi' hj'
    · exact absurd (h.bnd i b hi') (by omega)
    · exact absurd (h.bnd j b hj') (by omega)
    · rfl
  obj := fun id o ho => by
    rw [hat] at ho
    split at ho
    · rename_i e; subst e; cases ho; exact hob
    · rename_i hne
      refine (h.obj id o ho).keep hι (hoth id (Ne.symm hne)) fun b hb => ?_
      refine hblk b (h.bnd id b hb) fun hb0 => hne (h.inj id0 id b hb0 hb)
  wf := fun id hid => by
    rw [hat, if_neg (by omega)]
    exact h.wf id (by omega)

/-- A world that differs in counts alone. -/
theorem Inv.same {N : Nat} {ι : Io} {σ : St} {w w' : World} (h : Inv N ι σ w) (hh : w'.heap = w.heap) : Inv N ι σ w' where
  mem := fun b c hb => by rw [hh]; exact h.mem b c hb
  sep := h.sep
  bnd := fun id b ho => by rw [hh]; exact h.bnd id b ho
  fresh := h.fresh
  inj := h.inj
  obj := fun id o ho => (h.obj id o ho).keep (Ext.refl _) (fun _ => rfl) fun b _ => by rw [hh]
  wf := h.wf

theorem Le.same {ro : Nat} {ι : Io} {σ : St} {w w' : World} (hh : w'.heap = w.heap) (ho : w'.os = w.os) (ht : w'.tape = w.tape) (hp : w'.output = w.output) : Le ro ι w σ ι w' σ :=
  ⟨Ext.refl _, fun _ _ h => .inl h, fun _ _ _ _ => rfl, fun _ h _ => h, fun _ _ _ => rfl, Nat.le_refl _, ho, ht, hp, by rw [hh]; exact Nat.le_refl _, fun _ _ _ => by rw [hh], fun _ _ h => .inl h⟩

def updI (ι : Io) (id ep : Nat) (l : Loc) : Io := ⟨fun i e => if i = id ∧ e = ep then some l else ι i e, ι.m⟩
theorem updI_self (ι : Io) (id ep : Nat) (l : Loc) : updI ι id ep l id ep = some l := by simp [updI]
theorem updI_ext {ι : Io} {id ep : Nat} {l : Loc} (h : ι id ep = none) : Ext ι (updI ι id ep l) := by
  refine ⟨?_, fun _ _ h => h⟩
  intro i e l' hl
  show (if i = id ∧ e = ep then some l else ι i e) = some l'
  split
  · rename_i hh; rw [hh.1, hh.2, h] at hl; cases hl
  · exact hl
theorem updI_own {ι : Io} {id ep : Nat} {l : Loc} {i b : Nat} (h : Own (updI ι id ep l) i b) : Own ι i b ∨ (i = id ∧ b = l.b) := by
  obtain ⟨e, l', hl, hb⟩ := h
  change (if i = id ∧ e = ep then some l else ι i e) = some l' at hl
  split at hl
  · rename_i hh; cases hl; exact .inr ⟨hh.1, hb.symm⟩
  · exact .inl ⟨e, l', hl, hb⟩

/-- A new block that is a new object. -/
theorem Inv.add {N ro : Nat} {ι : Io} {σ : St} {w w' : World} {o : Go.Obj} {ob : Ob} {l : Loc} (h : Inv N ι σ w) (hN : σ.n < N) (hw : w'.heap = w.heap.push o)
    (hos : w'.os = w.os) (htp : w'.tape = w.tape) (hou : w'.output = w.output) (hl : l.b = w.heap.size) (hob : ObjRel (updI ι σ.n 0 l) w' σ.n ob) :
    Inv N (updI ι σ.n 0 l) (σ.add ob) w' ∧ Le ro ι w σ (updI ι σ.n 0 l) w' (σ.add ob) := by
  have hnone := h.fresh σ.n (Nat.le_refl _) hN
  have hsz : w'.heap.size = w.heap.size + 1 := by rw [hw]; simp
  have hold : ∀ b, b < w.heap.size → w'.heap[b]? = w.heap[b]? := fun b hb => by rw [hw, Array.getElem?_push, if_neg (by omega)]
  refine ⟨h.change (id0 := σ.n) (updI_ext (hnone 0)) (fun i hi e => by simp [updI, hi]) ?_ ?_ (by omega) (fun b hb _ => hold b hb) hob (fun j => by simp) ⟨by simp, by simp⟩ ?_, ?_⟩
  · intro id b hb
    rcases updI_own hb with hb | ⟨h1, h2⟩
    · exact .inl hb
    · exact .inr ⟨h1, by omega⟩
  · intro b hb
    rcases updI_own hb with hb | ⟨h1, h2⟩
    · have := h.bnd _ _ hb; omega
    · omega
  · intro id hid hlt e
    simp only [St.n_add] at hid
    have : id ≠ σ.n := by omega
    simp [updI, this, h.fresh id (by omega) hlt e]
  · refine ⟨updI_ext (hnone 0), ?_, ?_, ?_, ?_, by simp, hos, htp, hou, by omega, fun b hb _ => hold b hb, fun _ _ h => .inl h⟩
    · intro id b hb
      rcases updI_own hb with hb | ⟨h1, h2⟩
      · exact .inl hb
      · exact .inr (by omega)
    · intro id hn hr e
      simp only [St.n_add] at hr
      have : id ≠ σ.n := by omega
      simp [updI, this]
    · intro id hn hr
      simp only [St.n_add] at hr
      have : σ.n ≠ id := by omega
      simp [this, hn]
    · intro id hr hn
      have : σ.n ≠ id := by omega
      simp [this]

/-- A new block that no ideal value speaks of. -/
theorem Inv.push {N ro : Nat} {ι : Io} {σ : St} {w w' : World} {o : Go.Obj} (h : Inv N ι σ w) (hw : w'.heap = w.heap.push o)
    (hos : w'.os = w.os) (htp : w'.tape = w.tape) (hou : w'.output = w.output) : Inv N ι σ w' ∧ Le ro ι w σ ι w' σ := by
  have hsz : w'.heap.size = w.heap.size + 1 := by rw [hw]; simp
  have hold : ∀ b, b < w.heap.size → w'.heap[b]? = w.heap[b]? := fun b hb => by rw [hw, Array.getElem?_push, if_neg (by omega)]
  refine ⟨⟨fun b c hb => ?_, h.sep, fun id b ho => by have := h.bnd id b ho; omega, h.fresh, h.inj, fun id o ho => (h.obj id o ho).keep (Ext.refl _) (fun _ => rfl) fun b hb => hold b (h.bnd _ _ hb), h.wf⟩, ?_⟩
  · obtain ⟨e, f, hh⟩ := h.mem b c hb
    refine ⟨e, f, ?_⟩
    rw [hold b ?_]; exact hh
    rcases Nat.lt_or_ge b w.heap.size with hlt | hge
    · exact hlt
    · rw [Array.getElem?_eq_none hge] at hh; cases hh
  · exact ⟨Ext.refl _, fun _ _ h => .inl h, fun _ _ _ _ => rfl, fun _ h _ => h, fun _ _ _ => rfl, Nat.le_refl _, hos, htp, hou, by omega, fun b hb _ => hold b hb, fun _ _ h => .inl h⟩

/-- An object is written: its blocks alone have changed. -/
theorem Inv.put {N ro : Nat} {ι ι' : Io} {σ : St} {w w' : World} {id : Nat} {ob ob' : Ob} (h : Inv N ι σ w) (hat : σ.at id = some ob) (hro : ro ≤ id) (hid : ∃ e l, ι id e = some l)
    (hι : Ext ι ι') (hdom : ∀ i, i ≠ id → ∀ e, ι' i e = ι i e) (hown : ∀ b, Own ι' id b → Own ι id b ∨ (w.heap.size ≤ b ∧ b < w'.heap.size))
    (hsz : w.heap.size ≤ w'.heap.size) (hblk : ∀ b, b < w.heap.size → ¬ Own ι id b → w'.heap[b]? = w.heap[b]?)
    (hos : w'.os = w.os) (htp : w'.tape = w.tape) (hou : w'.output = w.output) (hob : ObjRel ι' w' id ob') (hm : ι'.m = ι.m := by rfl) :
    Inv N ι' (σ.put id ob') w' ∧ Le ro ι w σ ι' w' (σ.put id ob') := by
  obtain ⟨e0, l0, hl0⟩ := hid
  have hne : ∀ i, (∀ e, ι i e = none) → i ≠ id := fun i hn hi => by rw [hi] at hn; rw [hn e0] at hl0; cases hl0
  have hd : ∀ i, (∀ e, ι i e = none) → ∀ e, ι' i e = none := fun i hn e => (hdom i (hne i hn) e).trans (hn e)
  have hown' : ∀ i b, Own ι' i b → Own ι i b ∨ (i = id ∧ w.heap.size ≤ b ∧ b < w'.heap.size) := by
    intro i b hb
    by_cases hi : i = id
    · subst hi
      rcases hown b hb with hb | hb
      · exact .inl hb
      · exact .inr ⟨rfl, hb⟩
    · obtain ⟨e, l, hl, hlb⟩ := hb
      rw [hdom i hi e] at hl
      exact .inl ⟨e, l, hl, hlb⟩
  refine ⟨h.change (id0 := id) hι hdom (fun i b hb => (hown' i b hb).imp (fun x => x) (fun x => ⟨x.1, x.2.1⟩)) ?_ hsz hblk hob (fun j => by simp) ⟨by simp, by rw [St.n_put]; exact Nat.lt_of_not_le fun hle => by rw [h.wf id hle] at hat; cases hat⟩ ?_ hm, ?_⟩
  · intro b hb
    rcases hown b hb with hb | hb
    · exact Nat.lt_of_lt_of_le (h.bnd _ _ hb) hsz
    · exact hb.2
  · intro i hi hlt e
    exact hd i (h.fresh i hi hlt) e
  · refine ⟨hι, fun i b hb => (hown' i b hb).imp (fun x => x) (fun x => x.2.1), ?_, ?_, ?_, by simp, hos, htp, hou, hsz, ?_, fun b c hb => .inl (by rw [← hm]; exact hb)⟩
    · intro i hn _ e
      exact hdom i (fun hi => by subst hi; rw [hat] at hn; cases hn) e
    · intro i hn _
      have : id ≠ i := fun hi => by subst hi; rw [hat] at hn; cases hn
      simp [this, hn]
    · intro i hr _
      have : id ≠ i := by omega
      simp [this]
    · intro b hb hc
      refine hblk b hb fun ho => ?_
      rcases hc id ho with h1 | h1
      · omega
      · rw [hat] at h1; cases h1
end Go.Ev
