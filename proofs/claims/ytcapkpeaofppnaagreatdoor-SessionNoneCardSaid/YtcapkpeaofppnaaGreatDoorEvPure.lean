/- A part of the verified evaluator of closed runs (EvPure): lemmas and definitions over the model, without conditions of their own. -/
import Derived.Test.YtcapkpeaofppnaaGreatDoorEvSem
/-
Calls of functions of plain values: what comes in and what comes out name no object of the store.
-/
namespace Go.Ev
variable {P : Program} {N ro : Nat} {ι : Io} {w : World} {σ : St}

/-- A value that names no object. -/
inductive Pure : IV → Prop
  | raw (v : Value) : Pure (.raw v)
  | agg (cs : List IV) (h : ∀ c ∈ cs, Pure c) : Pure (.agg cs)
  | tup (cs : List IV) (h : ∀ c ∈ cs, Pure c) : Pure (.tup cs)
  | emp : Pure .emp
  | ifc (t : TypeId) (x : IV) (h : Pure x) : Pure (.ifc t x)
  | tree (s : Nat) (es : List IV) (h : ∀ e ∈ es, ∀ c ∈ cellsOf e, Pure c) : Pure (.tree s es)
  | fn (f : Fn) (as bs : List IV) (h : ∀ c ∈ as, Pure c) (h2 : ∀ c ∈ bs, Pure c) : Pure (.fn f as bs)

abbrev frz (M : Fz) : Io := ⟨fun _ _ => none, M⟩

/-- A value that names no object speaks of frozen blocks alone. -/
theorem Pure.rv {M : Fz} {x : IV} (hp : Pure x) : ∀ {v : Value}, Rv ι x v → (∀ b c, ι.m b = some c → M b = some c) → Rv (frz M) x v := by
  induction hp with
  | raw v => intro u h _; cases h; exact .raw v
  | agg cs _ ih => intro u h hM; cases h with | agg _ vs hl hh => exact .agg cs vs hl fun i c v h1 h2 => ih c (List.mem_of_getElem? h1) (hh i c v h1 h2) hM
  | tup cs _ ih => intro u h hM; cases h with | tup _ vs hl hh => exact .tup cs vs hl fun i c v h1 h2 => ih c (List.mem_of_getElem? h1) (hh i c v h1 h2) hM
  | emp => intro u h _; cases h; exact .emp _
  | ifc t x _ ih => intro u h hM; cases h with | ifc _ _ v hh => exact .ifc t x v (ih hh hM)
  | tree s es _ ih =>
    intro u h hM
    cases h with
    | tree _ _ b off c us hs hc hcs hu hh => exact .tree s es b off c us hs hc hcs (fun k hk => cellM_mono hM (hu k hk)) fun i e j c h1 h2 => ih e (List.mem_of_getElem? h1) c (List.mem_of_getElem? h2) (hh i e j c h1 h2) hM
    | treeE _ a c hs hn => exact .treeE s a c hs hn
  | fn f as bs _ _ ih ih2 =>
    intro u h hM
    cases h with
    | fn _ _ _ cs ds hl hh hl2 hh2 => exact .fn f as bs cs ds hl (fun i c v h1 h2 => ih c (List.mem_of_getElem? h1) (hh i c v h1 h2) hM) hl2 (fun i c v h1 h2 => ih2 c (List.mem_of_getElem? h1) (hh2 i c v h1 h2) hM)

/-- A value, read in a store, comes to a value that names no object. fr: it may be made of what was frozen before. -/
inductive Can (fr : Bool) (σ : St) : IV → IV → Prop
  | raw (v : Value) : Can fr σ (.raw v) (.raw v)
  | nil (s : Nat) (hs : 0 < s) : Can fr σ (.raw (.slice none 0 0)) (.tree s [])
  | emp (s : Nat) (hs : 0 < s) : Can fr σ .emp (.tree s [])
  | ifc (t : TypeId) (x y : IV) (h : Can fr σ x y) : Can fr σ (.ifc t x) (.ifc t y)
  | agg (cs ds : List IV) (hl : cs.length = ds.length) (h : ∀ (i : Nat) c d, cs[i]? = some c → ds[i]? = some d → Can fr σ c d) : Can fr σ (.agg cs) (.agg ds)
  | tup (cs ds : List IV) (hl : cs.length = ds.length) (h : ∀ (i : Nat) c d, cs[i]? = some c → ds[i]? = some d → Can fr σ c d) : Can fr σ (.tup cs) (.tup ds)
  | pure (x : IV) (hf : fr = true) (hp : Pure x) : Can fr σ x x
  | treeE (s : Nat) : Can fr σ (.tree s []) (.tree s [])
  | sl (id off len : Nat) (cap : Option Nat) (ep s : Nat) (cs : List IV) (cep mn : Nat) (es : List IV) (hat : σ.at id = some (.cells cs cep mn)) (h1 : mn ≤ ep) (h2 : ep ≤ cep) (hl : es.length = len) (hb : off + len * s ≤ cs.length)
      (hcs : ∀ e ∈ es, (cellsOf e).length = s) (h : ∀ (i : Nat) e (j : Nat) c d, es[i]? = some e → (cellsOf e)[j]? = some d → cs[off + i * s + j]? = some c → Can fr σ c d) : Can fr σ (.sl id off len cap ep s) (.tree s es)

theorem Can.rv {fr : Bool} {M : Fz} {x z : IV} (hi : Inv N ι σ w) (hM : ∀ b c el, w.heap[b]? = some (.cells c el (0, 0)) → (∃ id, Own ι id b) → M b = some c) (hm : fr = true → ∀ b c, ι.m b = some c → M b = some c)
    (h : Can fr σ x z) : ∀ {u : Value}, Rv ι x u → Rv (frz M) z u := by
  induction h with
  | raw v => intro u h; cases h; exact .raw v
  | nil s hs => intro u h; cases h; exact .treeE s none 0 hs (fun _ => rfl)
  | emp s hs => intro u h; cases h; exact .treeE s _ 0 hs (fun _ => rfl)
  | ifc t x y _ ih => intro u h; cases h with | ifc _ _ v hh => exact .ifc t y v (ih hh)
  | agg cs ds hl _ ih =>
    intro u h
    cases h with
    | agg _ vs hl' hh =>
      refine .agg ds vs (hl ▸ hl') fun i d v h1 h2 => ?_
      have hi' : i < cs.length := by have := (List.getElem?_eq_some_iff.1 h1).1; omega
      exact ih i _ d (List.getElem?_eq_getElem hi') h1 (hh i _ v (List.getElem?_eq_getElem hi') h2)
  | tup cs ds hl _ ih =>
    intro u h
    cases h with
    | tup _ vs hl' hh =>
      refine .tup ds vs (hl ▸ hl') fun i d v h1 h2 => ?_
      have hi' : i < cs.length := by have := (List.getElem?_eq_some_iff.1 h1).1; omega
      exact ih i _ d (List.getElem?_eq_getElem hi') h1 (hh i _ v (List.getElem?_eq_getElem hi') h2)
  | pure x hf hp => intro u h; exact hp.rv h (hm hf)
  | treeE s =>
    intro u h
    cases h with
    | tree _ _ b off c us hs hc hcs hu hh => exact .treeE s _ c hs (by simp)
    | treeE _ a c hs hn => exact .treeE s a c hs hn
  | sl id off len cap ep s cs cep mn es hat h1 h2 hl hb hcs _ ih =>
    intro u h
    cases h with
    | sl _ _ _ _ _ _ l c a hl' hn hlim hs hle hcap ha =>
      obtain ⟨⟨_, _⟩, _, hobj⟩ := hi.obj id _ hat
      obtain ⟨l', ca, el, hl2, hln, hheap, hlimc, hcell⟩ := hobj ep h1 h2
      rw [hl'] at hl2; cases hl2
      have hMb : M l.b = some ca := hM _ _ _ hheap ⟨id, ep, l, hl', rfl⟩
      subst hl
      by_cases he : es = []
      · subst he
        exact .treeE s (some a) c hs (by simp)
      · have hpos : 0 < es.length := by cases es with | nil => exact absurd rfl he | cons => simp
        have haa := ha (by omega)
        subst haa
        refine .tree s es l.b off c (fun k => ca.getD (off + k) Go.undef) hs hle hcs (fun k hk => ?_) (fun i e j d h1' h2' => ?_)
        · obtain ⟨x, hx⟩ : ∃ x, cs[off + k]? = some x := ⟨_, List.getElem?_eq_getElem (by omega)⟩
          obtain ⟨v, hv, _⟩ := hcell (off + k) x (by omega) hx
          show (M l.b).bind _ = _
          rw [hMb]
          simp [Array.getD_eq_getD_getElem?, hv]
        · have hi' := (List.getElem?_eq_some_iff.1 h1').1
          have hj' : j < s := by have := (List.getElem?_eq_some_iff.1 h2').1; rw [hcs e (List.mem_of_getElem? h1')] at this; exact this
          have hmul : i * s + s ≤ es.length * s := by
            have : (i + 1) * s ≤ es.length * s := Nat.mul_le_mul_right s hi'
            rw [Nat.add_mul] at this; omega
          obtain ⟨x, hx⟩ : ∃ x, cs[off + i * s + j]? = some x := ⟨_, List.getElem?_eq_getElem (by omega)⟩
          obtain ⟨v, hv, hr⟩ := hcell (off + i * s + j) x (by omega) hx
          have := ih i e j x d h1' h2' hx hr
          simp only [Array.getD_eq_getD_getElem?]
          rw [show off + (i * s + j) = off + i * s + j by omega, hv]
          exact this

def Fzm (M : Fz) (w : World) : Prop := ∀ b c, M b = some c → ∃ e f, w.heap[b]? = some (.cells c e f)
theorem Fzm.lt {M : Fz} (h : Fzm M w) {b : Nat} {c : Array Value} (hb : M b = some c) : b < w.heap.size := by
  obtain ⟨e, f, hh⟩ := h b c hb
  rcases Nat.lt_or_ge b w.heap.size with hlt | hge
  · exact hlt
  · rw [Array.getElem?_eq_none hge] at hh; cases hh
/-- A result, and what has become of the world. new: the result lies in new memory alone. -/
def PRes (new : Bool) (M : Fz) (w : World) (z : IV) (u : Value) (w' : World) : Prop :=
  ∃ M', Fzm M' w' ∧ (∀ b c, M' b = some c → (new = false ∧ M b = some c) ∨ w.heap.size ≤ b) ∧ (new = false → ∀ b c, M b = some c → M' b = some c) ∧ Rv (frz M') z u ∧
    w'.os = w.os ∧ w'.tape = w.tape ∧ w'.output = w.output ∧ w.heap.size ≤ w'.heap.size ∧ ∀ b, b < w.heap.size → w'.heap[b]? = w.heap[b]?
def PEnd (pan new : Bool) (M : Fz) (w : World) (z : IV) : Ending → World → Prop
  | .returned u, w' => pan = false ∧ PRes new M w z u w'
  | .panicked ch, w' => pan = true ∧ ∃ u, ch = [{ v := u, recovered := false }] ∧ PRes new M w z u w'
  | .outgrown, _ => False
/-- A call of plain values. pan: it ends in a panic. -/
def PCall (P : Program) (pan new : Bool) (f : FuncId) (xs : List IV) (z : IV) : Prop :=
  ∀ M w us, Fzm M w → RvL (frz M) xs us → CallsIn Fence.wide 0 P f us.toArray w (PEnd pan new M w z)

theorem inv_frz {M : Fz} (hM : Fzm M w) : Inv N (frz M) ⟨0, .lf⟩ w :=
  ⟨hM, fun _ _ _ _ h => (by obtain ⟨_, _, h, _⟩ := h; cases h), fun _ _ h => (by obtain ⟨_, _, h, _⟩ := h; cases h), fun _ _ _ _ => rfl, fun _ _ _ h => (by obtain ⟨_, _, h, _⟩ := h; cases h), fun _ _ h => (by cases h), fun _ _ => rfl⟩

/-- The frozen blocks behind a call: what was frozen before, and all new blocks of cells. -/
def newM (new : Bool) (M : Fz) (w w' : World) : Fz := fun b =>
  if b < w.heap.size then (if new then none else M b) else match w'.heap[b]? with
    | some (.cells c _ _) => some c
    | _ => none

theorem pres_of {M : Fz} {new : Bool} {σ' : St} {v z : IV} {w' : World} {u : Value} (hM : Fzm M w) (hc : Can (!new) σ' v z) (hu : Rv ι v u) (hi : Inv N ι σ' w') (hl : Le 0 (frz M) w ⟨0, .lf⟩ ι w' σ') : PRes new M w z u w' := by
  have hframe : ∀ b, b < w.heap.size → w'.heap[b]? = w.heap[b]? := fun b hb => hl.frame b hb fun id ho => (by obtain ⟨_, _, h, _⟩ := ho; cases h)
  refine ⟨newM new M w w', ?_, ?_, ?_, ?_, hl.os, hl.tape, hl.output, hl.size, hframe⟩
  · intro b c hb
    unfold newM at hb
    split at hb
    · rename_i hlt
      split at hb
      · cases hb
      · rw [hframe b hlt]; exact hM b c hb
    · split at hb
      · rename_i c' e f hh; cases hb; exact ⟨e, f, hh⟩
      · cases hb
  · intro b c hb
    unfold newM at hb
    split at hb
    · split at hb
      · cases hb
      · rename_i hn; exact .inl ⟨by simpa using hn, hb⟩
    · exact .inr (by omega)
  · intro hn b c hb
    have hlt := hM.lt hb
    unfold newM
    rw [if_pos hlt, if_neg (by simp [hn])]; exact hb
  · refine hc.rv hi ?_ ?_ hu
    · intro b c el hh ho
      obtain ⟨id, ho⟩ := ho
      rcases hl.own id b ho with ho | hge
      · obtain ⟨_, _, h, _⟩ := ho; cases h
      · unfold newM; rw [if_neg (by omega), hh]
    · intro hn b c hb
      have hn' : new = false := by simpa using hn
      rcases hl.mown b c hb with hb' | hge
      · have hlt := hM.lt hb'
        unfold newM; rw [if_pos hlt, if_neg (by simp [hn'])]; exact hb'
      · obtain ⟨e, f, hh⟩ := hi.mem b c hb
        unfold newM; rw [if_neg (by omega), hh]

/-- A contract, out of a run from the empty store. -/
theorem PCall.of {new : Bool} {f : FuncId} {xs : List IV} {v z : IV} {σ' : St} (h : SCall P 0 f xs ⟨0, .lf⟩ v σ') (hc : Can (!new) σ' v z) : PCall P false new f xs z := by
  intro M w us hM hr
  refine (h.2 σ'.n (Nat.le_refl _) (frz M) us w (inv_frz hM) hr).mono fun e w' hR => ?_
  cases e with
  | returned u =>
    obtain ⟨ι', h1, h2, h3⟩ := hR
    exact ⟨rfl, pres_of hM hc h1 h2 h3⟩
  | panicked ch => exact hR.elim
  | outgrown => exact hR.elim
theorem PCall.ofPan {new : Bool} {f : FuncId} {xs : List IV} {v z : IV} {σ' : St} (h : SPan P 0 f xs ⟨0, .lf⟩ v σ') (hc : Can (!new) σ' v z) : PCall P true new f xs z := by
  intro M w us hM hr
  refine (h.2 σ'.n (Nat.le_refl _) (frz M) us w (inv_frz hM) hr).mono fun e w' hR => ?_
  cases e with
  | returned u => exact hR.elim
  | panicked ch =>
    obtain ⟨ι', ⟨u, rfl, h1⟩, h2, h3⟩ := hR
    exact ⟨rfl, u, rfl, pres_of hM hc h1 h2 h3⟩
  | outgrown => exact hR.elim

/-- Behind a call of plain values: the store is as it was. -/
theorem back_of {M : Fz} {new : Bool} {z : IV} {u : Value} {w' : World} (hi : Inv N ι σ w) (hM : new = false → ∀ b c, ι.m b = some c ↔ M b = some c) (h : PRes new M w z u w') : ∃ ι', Rv ι' z u ∧ Inv N ι' σ w' ∧ Le ro ι w σ ι' w' σ := by
  obtain ⟨M', h1, h2, h3, h4, h5, h6, h7, h8, h9⟩ := h
  have hm : Fzm ι.m w := hi.mem
  have hold : ∀ b c, ι.m b = some c → (fun b => if b < w.heap.size then ι.m b else M' b) b = some c := by
    intro b c hb
    simp only [if_pos (hm.lt hb)]; exact hb
  have hM'm : ∀ b c, M' b = some c → (fun b => if b < w.heap.size then ι.m b else M' b) b = some c := by
    intro b c hb
    by_cases hlt : b < w.heap.size
    · simp only [if_pos hlt]
      rcases h2 b c hb with ⟨hn, hb'⟩ | hge
      · exact (hM hn b c).2 hb'
      · omega
    · simp only [if_neg hlt]; exact hb
  have hext : Ext ι ⟨ι.f, fun b => if b < w.heap.size then ι.m b else M' b⟩ := ⟨fun _ _ _ h => h, hold⟩
  refine ⟨⟨ι.f, fun b => if b < w.heap.size then ι.m b else M' b⟩, h4.mono ⟨fun _ _ _ h => (by cases h), hM'm⟩, ⟨?_, ?_, ?_, hi.fresh, hi.inj, ?_, hi.wf⟩, ⟨hext, fun _ _ h => .inl h, fun _ _ _ _ => rfl, fun _ h _ => h, fun _ _ _ => rfl, Nat.le_refl _, h5, h6, h7, h8, fun b hb _ => h9 b hb, ?_⟩⟩
  · intro b c hb
    simp only at hb
    split at hb
    · rename_i hlt
      obtain ⟨e, f, hh⟩ := hi.mem b c hb
      exact ⟨e, f, by rw [h9 b hlt]; exact hh⟩
    · exact h1 b c hb
  · intro b c id hb ho
    simp only at hb
    split at hb
    · exact hi.sep b c id hb ho
    · rename_i hge
      exact hge (hi.bnd id b ho)
  · intro id b ho
    exact Nat.lt_of_lt_of_le (hi.bnd id b ho) h8
  · intro id o ho
    exact (hi.obj id o ho).keep hext (fun _ => rfl) fun b hb => h9 b (hi.bnd id b hb)
  · intro b c hb
    simp only at hb
    split at hb
    · exact .inl hb
    · rename_i hge; exact .inr (by omega)

theorem RvL.pure {M : Fz} {xs : List IV} {us : List Value} (hp : ∀ x ∈ xs, Pure x) (h : RvL ι xs us) (hM : ∀ b c, ι.m b = some c → M b = some c) : RvL (frz M) xs us :=
  ⟨h.1, fun i c v h1 h2 => (hp c (List.mem_of_getElem? h1)).rv (h.2 i c v h1 h2) hM⟩
/-- Values, read in the store, one by one. -/
def CanL (fr : Bool) (σ : St) (cs ds : List IV) : Prop := cs.length = ds.length ∧ ∀ (i : Nat) c d, cs[i]? = some c → ds[i]? = some d → Can fr σ c d
theorem CanL.nil {fr : Bool} : CanL fr σ [] [] := ⟨rfl, fun i c d h => by simp at h⟩
theorem CanL.cons {fr : Bool} {c d : IV} {cs ds : List IV} (h : Can fr σ c d) (hs : CanL fr σ cs ds) : CanL fr σ (c :: cs) (d :: ds) := by
  refine ⟨by simp [hs.1], fun i => ?_⟩
  cases i with
  | zero => intro c' v' h1 h2; simp at h1 h2; subst h1 h2; exact h
  | succ i => intro c' v' h1 h2; simp at h1 h2; exact hs.2 i c' v' h1 h2

/-- The blocks of cells that are there. -/
def allM (w : World) : Fz := fun b => match w.heap[b]? with
  | some (.cells c _ _) => some c
  | _ => none
theorem allM_of {b : Nat} {c : Array Value} {e : TypeId} {f : Nat × Nat} (h : w.heap[b]? = some (.cells c e f)) : allM w b = some c := by unfold allM; rw [h]
theorem fzm_all : Fzm (allM w) w := by
  intro b c hb
  unfold allM at hb
  split at hb
  · rename_i hh; cases hb; exact ⟨_, _, hh⟩
  · cases hb
theorem CanL.rv {xs zs : List IV} {us : List Value} (hc : CanL true σ xs zs) (hi : Inv N ι σ w) (h : RvL ι xs us) : RvL (frz (allM w)) zs us := by
  refine ⟨hc.1 ▸ h.1, fun i z u h1 h2 => ?_⟩
  have hi' : i < xs.length := by have := (List.getElem?_eq_some_iff.1 h1).1; have := hc.1; omega
  refine (hc.2 i _ z (List.getElem?_eq_getElem hi') h1).rv hi (fun b c el hh _ => allM_of hh) (fun _ b c hb => ?_) (h.2 i _ u (List.getElem?_eq_getElem hi') h2)
  obtain ⟨e, f, hh⟩ := hi.mem b c hb
  exact allM_of hh

/-- A contract at plain values, in whatever store. -/
theorem PCall.call {f : FuncId} {xs : List IV} {z : IV} (h : PCall P false false f xs z) (hp : ∀ x ∈ xs, Pure x) : SCall P ro f xs σ z σ := by
  refine ⟨Nat.le_refl _, fun N hN ι us w hi hr => ?_⟩
  refine (h ι.m w us hi.mem (hr.pure hp fun _ _ h => h)).mono fun e w' hR => ?_
  cases e with
  | returned u => exact back_of hi (fun _ _ _ => Iff.rfl) hR.2
  | panicked ch => exact absurd hR.1 (by simp)
  | outgrown => exact hR.elim
/-- A contract whose result is new, at values that are read in the store. -/
theorem PCall.callC {f : FuncId} {args xs : List IV} {z : IV} (h : PCall P false true f xs z) (hc : CanL true σ args xs) : SCall P ro f args σ z σ := by
  refine ⟨Nat.le_refl _, fun N hN ι us w hi hr => ?_⟩
  refine (h (allM w) w us fzm_all (hc.rv hi hr)).mono fun e w' hR => ?_
  cases e with
  | returned u => exact back_of hi (fun hn => by cases hn) hR.2
  | panicked ch => exact absurd hR.1 (by simp)
  | outgrown => exact hR.elim
theorem PCall.pan {f : FuncId} {xs : List IV} {z : IV} (h : PCall P true false f xs z) (hp : ∀ x ∈ xs, Pure x) : SPan P ro f xs σ z σ := by
  refine ⟨Nat.le_refl _, fun N hN ι us w hi hr => ?_⟩
  refine (h ι.m w us hi.mem (hr.pure hp fun _ _ h => h)).mono fun e w' hR => ?_
  cases e with
  | returned u => exact absurd hR.1 (by simp)
  | panicked ch =>
    obtain ⟨_, u, rfl, hR⟩ := hR
    obtain ⟨ι', h1, h2, h3⟩ := back_of (ro := ro) hi (fun _ _ _ => Iff.rfl) hR
    exact ⟨ι', ⟨u, rfl, h1⟩, h2, h3⟩
  | outgrown => exact hR.elim
theorem PCall.panC {f : FuncId} {args xs : List IV} {z : IV} (h : PCall P true true f xs z) (hc : CanL true σ args xs) : SPan P ro f args σ z σ := by
  refine ⟨Nat.le_refl _, fun N hN ι us w hi hr => ?_⟩
  refine (h (allM w) w us fzm_all (hc.rv hi hr)).mono fun e w' hR => ?_
  cases e with
  | returned u => exact absurd hR.1 (by simp)
  | panicked ch =>
    obtain ⟨_, u, rfl, hR⟩ := hR
    obtain ⟨ι', h1, h2, h3⟩ := back_of (ro := ro) hi (fun hn => by cases hn) hR
    exact ⟨ι', ⟨u, rfl, h1⟩, h2, h3⟩
  | outgrown => exact hR.elim
theorem PCall.old {pan : Bool} {f : FuncId} {xs : List IV} {z : IV} (h : PCall P pan true f xs z) : PCall P pan false f xs z := by
  have key : ∀ {M : Fz} {w w' : World} {u : Value}, Fzm M w → PRes true M w z u w' → PRes false M w z u w' := by
    intro M w w' u hM h
    obtain ⟨M', h1, h2, h3, h4, h5, h6, h7, h8, h9⟩ := h
    have hnew : ∀ b c, M' b = some c → w.heap.size ≤ b := fun b c hb => (h2 b c hb).elim (fun h => by cases h.1) fun h => h
    refine ⟨fun b => if b < w.heap.size then M b else M' b, ?_, ?_, ?_, h4.mono ⟨fun _ _ _ h => (by cases h), ?_⟩, h5, h6, h7, h8, h9⟩
    · intro b c hb
      simp only at hb
      split at hb
      · rename_i hlt; rw [h9 b hlt]; exact hM b c hb
      · exact h1 b c hb
    · intro b c hb
      simp only at hb
      split at hb
      · exact .inl ⟨rfl, hb⟩
      · rename_i hge; exact .inr (by omega)
    · intro _ b c hb
      simp only [if_pos (hM.lt hb)]; exact hb
    · intro b c hb
      have := hnew b c hb
      simp only [if_neg (show ¬ b < w.heap.size by omega)]; exact hb
  intro M w us hM hr
  refine (h M w us hM hr).mono fun e w' hR => ?_
  cases e with
  | returned u => exact ⟨hR.1, key hM hR.2⟩
  | panicked ch => obtain ⟨h1, u, h2, h3⟩ := hR; exact ⟨h1, u, h2, key hM h3⟩
  | outgrown => exact hR.elim

/-! ### Bodies -/
/-- The frame at the beginning. -/
def argEnv (args : List IV) (n : Nat) : Env := args.zipIdx.foldl (fun e (v, i) => e.put (some i) v) ⟨n, .lf⟩
section body
variable {S : Self} {f : FuncId} {fn : Func} {c : Code} {args : List IV} {e1 : Env} {df : List Df} {σ1 σ' : St} {ex : Ex} {v : IV}
theorem body_sem {m : Nat} {mi mo : Option IV} {R : Ending → World → Prop} (hC : CallOk P S) (hk : CallMono S) (hfn : P.funcs[f]? = some fn) (hb : fn.body = some c) (hlen : args.length ≤ fn.ntmps)
    (h1 : SCode P ro none f c (argEnv args fn.ntmps) [] σ ⟨ex, e1, df, σ1⟩) (hex : ((ex = .normal ∨ ex = .ret) ∧ mi = none) ∨ ∃ v, ex = .pan v ∧ mi = some v)
    (h2 : evLeave S ro df mi σ1 = some (mo, σ')) (hN : σ'.n ≤ m) {us : List Value} (hi : Inv m ι σ w) (hr : RvL ι args us)
    (hQ : ∀ ts w' ι' u', Inv m ι' σ' w' → Le ro ι w σ ι' w' σ' → EnvR ι' e1 ts → ModeR ι' mo u' → LeavesIn Fence.wide 0 P fn ts R [] u' w') : CallsIn Fence.wide 0 P f us.toArray w R := by
  have hnm := leave_mono hk h2
  have hn1 : σ1.n ≤ m := by omega
  refine callsIn_of_wp_marks hfn hb trivial ?_
  refine h1.wp (a := { tmps := us.toArray ++ Array.replicate (fn.ntmps - us.toArray.size) Go.undef, defers := [] }) hn1 (.inl ⟨rfl, rfl⟩) hi (env_args hr hlen) trivial ?_
  intro a1 w1 ι1 ch1 i1 l1 e1' d1 p1
  have : ∀ u, ModeR ι1 mi u → LeavesInM Fence.wide 0 P fn a1.tmps R a1.defers u w1 := fun u hu =>
    leave_ok hC hk h2 d1 hu i1 hN fun w2 ι2 u2 i2 l2 hu2 => hQ a1.tmps w2 ι2 u2 i2 (Le.then hi hn1 l1 l2) (e1'.mono l2.ext) hu2
  rcases hex with ⟨rfl | rfl, rfl⟩ | ⟨v, rfl, rfl⟩
  · exact this _ rfl
  · exact this _ rfl
  · obtain ⟨u, rfl, hu⟩ := p1
    exact this _ ⟨u, rfl, hu⟩
theorem SCall.bodyS {mi : Option IV} (hC : CallOk P S) (hk : CallMono S) (hfn : P.funcs[f]? = some fn) (hb : fn.body = some c) (hlen : args.length ≤ fn.ntmps)
    (h1 : SCode P ro none f c (argEnv args fn.ntmps) [] σ ⟨ex, e1, df, σ1⟩) (hex : ((ex = .normal ∨ ex = .ret) ∧ mi = none) ∨ ∃ v, ex = .pan v ∧ mi = some v)
    (h2 : evLeave S ro df mi σ1 = some (none, σ')) (hv : resultOf P fn e1 σ' = some v) : SCall P ro f args σ v σ' := by
  refine ⟨Nat.le_trans h1.1 (leave_mono hk h2), fun N hN ι us w hi hr => ?_⟩
  refine body_sem hC hk hfn hb hlen h1 hex h2 hN hi hr fun ts w' ι' u' i1 l1 e1' hu => ?_
  rw [show u' = _ from hu]
  obtain ⟨u, k1, k2⟩ := results_ok hv i1 e1'
  exact ⟨u, k1, ι', k2, i1, l1⟩
theorem SPan.bodyS {mi : Option IV} (hC : CallOk P S) (hk : CallMono S) (hfn : P.funcs[f]? = some fn) (hb : fn.body = some c) (hlen : args.length ≤ fn.ntmps)
    (h1 : SCode P ro none f c (argEnv args fn.ntmps) [] σ ⟨ex, e1, df, σ1⟩) (hex : ((ex = .normal ∨ ex = .ret) ∧ mi = none) ∨ ∃ v, ex = .pan v ∧ mi = some v)
    (h2 : evLeave S ro df mi σ1 = some (some v, σ')) : SPan P ro f args σ v σ' := by
  refine ⟨Nat.le_trans h1.1 (leave_mono hk h2), fun N hN ι us w hi hr => ?_⟩
  refine body_sem hC hk hfn hb hlen h1 hex h2 hN hi hr fun ts w' ι' u' i1 l1 e1' hu => ?_
  obtain ⟨x, rfl, hx⟩ := hu
  exact ⟨ι', ⟨x, rfl, hx⟩, i1, l1⟩
theorem none_ok : CallOk P Self.none ∧ CallMono Self.none :=
  ⟨⟨fun _ _ _ _ _ _ _ h => (by cases h), fun _ _ _ _ _ _ _ h => (by cases h), fun _ _ _ _ _ _ _ _ h => (by cases h), fun _ _ _ _ _ _ _ h => (by cases h)⟩, ⟨fun _ _ _ _ _ _ h => (by cases h), fun _ _ _ _ _ _ h => (by cases h), fun _ _ _ _ _ _ _ h => (by cases h)⟩⟩
theorem SCall.body (hfn : P.funcs[f]? = some fn) (hb : fn.body = some c) (hlen : args.length ≤ fn.ntmps)
    (h1 : SCode P ro none f c (argEnv args fn.ntmps) [] σ ⟨ex, e1, [], σ'⟩) (hex : ex = .normal ∨ ex = .ret) (hv : resultOf P fn e1 σ' = some v) : SCall P ro f args σ v σ' :=
  .bodyS (none_ok (P := P)).1 (none_ok (P := P)).2 hfn hb hlen h1 (.inl ⟨hex, rfl⟩) rfl hv
theorem SPan.body (hfn : P.funcs[f]? = some fn) (hb : fn.body = some c) (hlen : args.length ≤ fn.ntmps)
    (h1 : SCode P ro none f c (argEnv args fn.ntmps) [] σ ⟨.pan v, e1, [], σ'⟩) : SPan P ro f args σ v σ' :=
  .bodyS (none_ok (P := P)).1 (none_ok (P := P)).2 hfn hb hlen h1 (.inr ⟨_, rfl, rfl⟩) rfl
end body
end Go.Ev
