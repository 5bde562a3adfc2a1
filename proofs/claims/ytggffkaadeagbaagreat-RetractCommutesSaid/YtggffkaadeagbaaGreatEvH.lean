/- Lemmas over the model, without conditions of their own: contracts of calls of plain values. -/
import Derived.Test.YtggffkaadeagbaaGreatEvG
set_option linter.all false
namespace Go.Ev
variable {P : Program} {N ro : Nat} {ι : Io} {w : World} {σ : St}
inductive Pure : IV → Prop
  | raw (v : Value) : Pure (.raw v)
  | agg (cs : List IV) (h : ∀ c ∈ cs, Pure c) : Pure (.agg cs)
  | tup (cs : List IV) (h : ∀ c ∈ cs, Pure c) : Pure (.tup cs)
  | emp : Pure .emp
  | ifc (t : TypeId) (x : IV) (h : Pure x) : Pure (.ifc t x)
  | tree (s : Nat) (es : List IV) (h : ∀ e ∈ es, ∀ c ∈ cellsOf e, Pure c) : Pure (.tree s es)
  | fn (f : Fn) (as bs : List IV) (h : ∀ c ∈ as, Pure c) (h2 : ∀ c ∈ bs, Pure c) : Pure (.fn f as bs)
abbrev frz (M : Fz) : Io := ⟨fun _ _ => none, M⟩
theorem Pure.rv {M : Fz} {x : IV} (hp : Pure x) : ∀ {v : Value}, Rv ι x v → (∀ b c, ι.m b = some c → M b = some c) → Rv (frz M) x v := by
  induction hp with
  | raw v => intro u h _; cases h; exact .raw v
  | agg cs _ ih => intro u h hM; cases h with | agg _ vs hl hh => exact .agg cs vs hl fun i c v h1 h2 => ih c (List.mem_of_getElem? h1) (hh i c v h1 h2) hM
  | tup cs _ ih => intro u h hM; cases h with | tup _ vs hl hh => exact .tup cs vs hl fun i c v h1 h2 => ih c (List.mem_of_getElem? h1) (hh i c v h1 h2) hM
  | emp => intro u h _; cases h; exact .emp _
  | ifc t x _ ih => intro u h hM; cases h with | ifc _ _ v hh => exact .ifc t x v (ih hh hM)
  | tree s es _ ih =>
    intro u h hM
    cases h with
    | tree _ _ b off c us hs hc hcs hu hh => exact .tree s es b off c us hs hc hcs (fun k hk => cellM_mono hM (hu k hk)) fun i e j c h1 h2 => ih e (List.mem_of_getElem? h1) c (List.mem_of_getElem? h2) (hh i e j c h1 h2) hM
    | treeE _ a c hs hn => exact .treeE s a c hs hn
  | fn f as bs _ _ ih ih2 =>
    intro u h hM
    cases h with
    | fn _ _ _ cs ds hl hh hl2 hh2 => exact .fn f as bs cs ds hl (fun i c v h1 h2 => ih c (List.mem_of_getElem? h1) (hh i c v h1 h2) hM) hl2 (fun i c v h1 h2 => ih2 c (List.mem_of_getElem? h1) (hh2 i c v h1 h2) hM)
inductive Can (fr : Bool) (σ : St) : IV → IV → Prop
  | raw (v : Value) : Can fr σ (.raw v) (.raw v)
  | nil (s : Nat) (hs : 0 < s) : Can fr σ (.raw (.slice none 0 0)) (.tree s [])
  | emp (s : Nat) (hs : 0 < s) : Can fr σ .emp (.tree s [])
  | ifc (t : TypeId) (x y : IV) (h : Can fr σ x y) : Can fr σ (.ifc t x) (.ifc t y)
  | agg (cs ds : List IV) (hl : cs.length = ds.length) (h : ∀ (i : Nat) c d, cs[i]? = some c → ds[i]? = some d → Can fr σ c d) : Can fr σ (.agg cs) (.agg ds)
  | tup (cs ds : List IV) (hl : cs.length = ds.length) (h : ∀ (i : Nat) c d, cs[i]? = some c → ds[i]? = some d → Can fr σ c d) : Can fr σ (.tup cs) (.tup ds)
  | pure (x : IV) (hf : fr = true) (hp : Pure x) : Can fr σ x x
  | treeE (s : Nat) : Can fr σ (.tree s []) (.tree s [])
  | sl (id off len : Nat) (cap : Option Nat) (ep s : Nat) (cs : List IV) (cep mn : Nat) (es : List IV) (hat : σ.at id = some (.cells cs cep mn)) (h1 : mn ≤ ep) (h2 : ep ≤ cep) (hl : es.length = len) (hb : off + len * s ≤ cs.length)
      (hcs : ∀ e ∈ es, (cellsOf e).length = s) (h : ∀ (i : Nat) e (j : Nat) c d, es[i]? = some e → (cellsOf e)[j]? = some d → cs[off + i * s + j]? = some c → Can fr σ c d) : Can fr σ (.sl id off len cap ep s) (.tree s es)
theorem Can.rv {fr : Bool} {M : Fz} {x z : IV} (hi : Inv N ι σ w) (hM : ∀ b c el, w.heap[b]? = some (.cells c el (0, 0)) → (∃ id, Own ι id b) → M b = some c) (hm : fr = true → ∀ b c, ι.m b = some c → M b = some c)
    (h : Can fr σ x z) : ∀ {u : Value}, Rv ι x u → Rv (frz M) z u := by
  induction h with
  | raw v => intro u h; cases h; exact .raw v
  | nil s hs => intro u h; cases h; exact .treeE s none 0 hs (fun _ => rfl)
  | emp s hs => intro u h; cases h; exact .treeE s _ 0 hs (fun _ => rfl)
  | ifc t x y _ ih => intro u h; cases h with | ifc _ _ v hh => exact .ifc t y v (ih hh)
  | agg cs ds hl _ ih =>
    intro u h
    cases h with
    | agg _ vs hl' hh =>
      refine .agg ds vs (hl ▸ hl') fun i d v h1 h2 => ?_
      have hi' : i < cs.length := by have := (List.getElem?_eq_some_iff.1 h1).1; omega
      exact ih i _ d (List.getElem?_eq_getElem hi') h1 (hh i _ v (List.getElem?_eq_getElem hi') h2)
  | tup cs ds hl _ ih =>
    intro u h
    cases h with
    | tup _ vs hl' hh =>
      refine .tup ds vs (hl ▸ hl') fun i d v h1 h2 => ?_
      have hi' : i < cs.length := by have := (List.getElem?_eq_some_iff.1 h1).1; omega
      exact ih i _ d (List.getElem?_eq_getElem hi') h1 (hh i _ v (List.getElem?_eq_getElem hi') h2)
  | pure x hf hp => intro u h; exact hp.rv h (hm hf)
  | treeE s =>
    intro u h
    cases h with
    | tree _ _ b off c us hs hc hcs hu hh => exact .treeE s _ c hs (by simp)
    | treeE _ a c hs hn => exact .treeE s a c hs hn
  | sl id off len cap ep s cs cep mn es hat h1 h2 hl hb hcs _ ih =>
    intro u h
    cases h with
    | sl _ _ _ _ _ _ l c a hl' hn hlim hs hle hcap ha =>
      obtain ⟨⟨_, _⟩, _, hobj⟩ := hi.obj id _ hat
      obtain ⟨l', ca, el, hl2, hln, hheap, hlimc, hcell⟩ := hobj ep h1 h2
      rw [hl'] at hl2; cases hl2
      have hMb : M l.b = some ca := hM _ _ _ hheap ⟨id, ep, l, hl', rfl⟩
      subst hl
      by_cases he : es = []
      · subst he
        exact .treeE s (some a) c hs (by simp)
      · have hpos : 0 < es.length := by cases es with | nil => exact absurd rfl he | cons => simp
        have haa := ha (by omega)
        subst haa
        refine .tree s es l.b off c (fun k => ca.getD (off + k) Go.undef) hs hle hcs (fun k hk => ?_) (fun i e j d h1' h2' => ?_)
        · obtain ⟨x, hx⟩ : ∃ x, cs[off + k]? = some x := ⟨_, List.getElem?_eq_getElem (by omega)⟩
          obtain ⟨v, hv, _⟩ := hcell (off + k) x (by omega) hx
          show (M l.b).bind _ = _
          rw [hMb]
          simp [Array.getD_eq_getD_getElem?, hv]
        · have hi' := (List.getElem?_eq_some_iff.1 h1').1
          have hj' : j < s := by have := (List.getElem?_eq_some_iff.1 h2').1; rw [hcs e (List.mem_of_getElem? h1')] at this; exact this
          have hmul : i * s + s ≤ es.length * s := by
            have : (i + 1) * s ≤ es.length * s := Nat.mul_le_mul_right s hi'
            rw [Nat.add_mul] at this; omega
          obtain ⟨x, hx⟩ : ∃ x, cs[off + i * s + j]? = some x := ⟨_, List.getElem?_eq_getElem (by omega)⟩
          obtain ⟨v, hv, hr⟩ := hcell (off + i * s + j) x (by omega) hx
          have := ih i e j x d h1' h2' hx hr
          simp only [Array.getD_eq_getD_getElem?]
          rw [show off + (i * s + j) = off + i * s + j by omega, hv]
          exact this
def Fzm (M : Fz) (w : World) : Prop := ∀ b c, M b = some c → ∃ e f, w.heap[b]? = some (.cells c e f)
theorem Fzm.lt {M : Fz} (h : Fzm M w) {b : Nat} {c : Array Value} (hb : M b = some c) : b < w.heap.size := by
  obtain ⟨e, f, hh⟩ := h b c hb
  rcases Nat.lt_or_ge b w.heap.size with hlt | hge
  · exact hlt
  · rw [Array.getElem?_eq_none hge] at hh; cases hh
def PRes (new : Bool) (M : Fz) (w : World) (z : IV) (u : Value) (w' : World) : Prop :=
  ∃ M', Fzm M' w' ∧ (∀ b c, M' b = some c → (new = false ∧ M b = some c) ∨ w.heap.size ≤ b) ∧ (new = false → ∀ b c, M b = some c → M' b = some c) ∧ Rv (frz M') z u ∧
    w'.os = w.os ∧ w'.tape = w.tape ∧ w'.output = w.output ∧ w.heap.size ≤ w'.heap.size ∧ ∀ b, b < w.heap.size → w'.heap[b]? = w.heap[b]?
def PEnd (pan new : Bool) (M : Fz) (w : World) (z : IV) : Ending → World → Prop
  | .returned u, w' => pan = false ∧ PRes new M w z u w'
  | .panicked ch, w' => pan = true ∧ ∃ u, ch = [{ v := u, recovered := false }] ∧ PRes new M w z u w'
  | .outgrown, _ => False
def PCall (P : Program) (pan new : Bool) (f : FuncId) (xs : List IV) (z : IV) : Prop :=
  ∀ M w us, Fzm M w → RvL (frz M) xs us → CallsIn Fence.wide 0 P f us.toArray w (PEnd pan new M w z)
theorem inv_frz {M : Fz} (hM : Fzm M w) : Inv N (frz M) ⟨0, .lf⟩ w :=
  ⟨hM, fun _ _ _ _ h => (by obtain ⟨_, _, h, _⟩ := h; cases h), fun _ _ h => (by obtain ⟨_, _, h, _⟩ := h; cases h), fun _ _ _ _ => rfl, fun _ _ _ h => (by obtain ⟨_, _, h, _⟩ := h; cases h), fun _ _ h => (by cases h), fun _ _ => rfl⟩
def newM (new : Bool) (M : Fz) (w w' : World) : Fz := fun b =>
  if b < w.heap.size then (if new then none else M b) else match w'.heap[b]? with
    | some (.cells c _ _) => some c
    | _ => none
theorem pres_of {M : Fz} {new : Bool} {σ' : St} {v z : IV} {w' : World} {u : Value} (hM : Fzm M w) (hc : Can (!new) σ' v z) (hu : Rv ι v u) (hi : Inv N ι σ' w') (hl : Le 0 (frz M) w ⟨0, .lf⟩ ι w' σ') : PRes new M w z u w' := by
  have hframe : ∀ b, b < w.heap.size → w'.heap[b]? = w.heap[b]? := fun b hb => hl.frame b hb fun id ho => (by obtain ⟨_, _, h, _⟩ := ho; cases h)
  refine ⟨newM new M w w', ?_, ?_, ?_, ?_, hl.os, hl.tape, hl.output, hl.size, hframe⟩
  · intro b c hb
    unfold newM at hb
    split at hb
    · rename_i hlt
      split at hb
      · cases hb
      · rw [hframe b hlt]; exact hM b c hb
    · split at hb
      · rename_i c' e f hh; cases hb; exact ⟨e, f, hh⟩
      · cases hb
  · intro b c hb
    unfold newM at hb
    split at hb
    · split at hb
      · cases hb
      · rename_i hn; exact .inl ⟨by simpa using hn, hb⟩
    · exact .inr (by omega)
  · intro hn b c hb
    have hlt := hM.lt hb
    unfold newM
    rw [if_pos hlt, if_neg (by simp [hn])]; exact hb
  · refine hc.rv hi ?_ ?_ hu
    · intro b c el hh ho
      obtain ⟨id, ho⟩ := ho
      rcases hl.own id b ho with ho | hge
      · obtain ⟨_, _, h, _⟩ := ho; cases h
      · unfold newM; rw [if_neg (by omega), hh]
    · intro hn b c hb
      have hn' : new = false := by simpa using hn
      rcases hl.mown b c hb with hb' | hge
      · have hlt := hM.lt hb'
        unfold newM; rw [if_pos hlt, if_neg (by simp [hn'])]; exact hb'
      · obtain ⟨e, f, hh⟩ := hi.mem b c hb
        unfold newM; rw [if_neg (by omega), hh]
theorem PCall.of {new : Bool} {f : FuncId} {xs : List IV} {v z : IV} {σ' : St} (h : SCall P 0 f xs ⟨0, .lf⟩ v σ') (hc : Can (!new) σ' v z) : PCall P false new f xs z := by
  intro M w us hM hr
  refine (h.2 σ'.n (Nat.le_refl _) (frz M) us w (inv_frz hM) hr).mono fun e w' hR => ?_
  cases e with
  | returned u =>
    obtain ⟨ι', h1, h2, h3⟩ := hR
    exact ⟨rfl, pres_of hM hc h1 h2 h3⟩
  | panicked ch => exact hR.elim
  | outgrown => exact hR.elim
theorem back_of {M : Fz} {new : Bool} {z : IV} {u : Value} {w' : World} (hi : Inv N ι σ w) (hM : new = false → ∀ b c, ι.m b = some c ↔ M b = some c) (h : PRes new M w z u w') : ∃ ι', Rv ι' z u ∧ Inv N ι' σ w' ∧ Le ro ι w σ ι' w' σ := by
  obtain ⟨M', h1, h2, h3, h4, h5, h6, h7, h8, h9⟩ := h
  have hm : Fzm ι.m w := hi.mem
  have hold : ∀ b c, ι.m b = some c → (fun b => if b < w.heap.size then ι.m b else M' b) b = some c := by
    intro b c hb
    simp only [if_pos (hm.lt hb)]; exact hb
  have hM'm : ∀ b c, M' b = some c → (fun b => if b < w.heap.size then ι.m b else M' b) b = some c := by
    intro b c hb
    by_cases hlt : b < w.heap.size
    · simp only [if_pos hlt]
      rcases h2 b c hb with ⟨hn, hb'⟩ | hge
      · exact (hM hn b c).2 hb'
      · omega
    · simp only [if_neg hlt]; exact hb
  have hext : Ext ι ⟨ι.f, fun b => if b < w.heap.size then ι.m b else M' b⟩ := ⟨fun _ _ _ h => h, hold⟩
  refine ⟨⟨ι.f, fun b => if b < w.heap.size then ι.m b else M' b⟩, h4.mono ⟨fun _ _ _ h => (by cases h), hM'm⟩, ⟨?_, ?_, ?_, hi.fresh, hi.inj, ?_, hi.wf⟩, ⟨hext, fun _ _ h => .inl h, fun _ _ _ _ => rfl, fun _ h _ => h, fun _ _ _ => rfl, Nat.le_refl _, h5, h6, h7, h8, fun b hb _ => h9 b hb, ?_⟩⟩
  · intro b c hb
    simp only at hb
    split at hb
    · rename_i hlt
      obtain ⟨e, f, hh⟩ := hi.mem b c hb
      exact ⟨e, f, by rw [h9 b hlt]; exact hh⟩
    · exact h1 b c hb
  · intro b c id hb ho
    simp only at hb
    split at hb
    · exact hi.sep b c id hb ho
    · rename_i hge
      exact hge (hi.bnd id b ho)
  · intro id b ho
    exact Nat.lt_of_lt_of_le (hi.bnd id b ho) h8
  · intro id o ho
    exact (hi.obj id o ho).keep hext (fun _ => rfl) fun b hb => h9 b (hi.bnd id b hb)
  · intro b c hb
    simp only at hb
    split at hb
    · exact .inl hb
    · rename_i hge; exact .inr (by omega)
theorem RvL.pure {M : Fz} {xs : List IV} {us : List Value} (hp : ∀ x ∈ xs, Pure x) (h : RvL ι xs us) (hM : ∀ b c, ι.m b = some c → M b = some c) : RvL (frz M) xs us :=
  ⟨h.1, fun i c v h1 h2 => (hp c (List.mem_of_getElem? h1)).rv (h.2 i c v h1 h2) hM⟩
def CanL (fr : Bool) (σ : St) (cs ds : List IV) : Prop := cs.length = ds.length ∧ ∀ (i : Nat) c d, cs[i]? = some c → ds[i]? = some d → Can fr σ c d
theorem CanL.nil {fr : Bool} : CanL fr σ [] [] := ⟨rfl, fun i c d h => by simp at h⟩
theorem CanL.cons {fr : Bool} {c d : IV} {cs ds : List IV} (h : Can fr σ c d) (hs : CanL fr σ cs ds) : CanL fr σ (c :: cs) (d :: ds) := by
  refine ⟨by simp [hs.1], fun i => ?_⟩
  cases i with
  | zero => intro c' v' h1 h2; simp at h1 h2; subst h1 h2; exact h
  | succ i => intro c' v' h1 h2; simp at h1 h2; exact hs.2 i c' v' h1 h2
def allM (w : World) : Fz := fun b => match w.heap[b]? with
  | some (.cells c _ _) => some c
  | _ => none
theorem allM_of {b : Nat} {c : Array Value} {e : TypeId} {f : Nat × Nat} (h : w.heap[b]? = some (.cells c e f)) : allM w b = some c := by unfold allM; rw [h]
theorem fzm_all : Fzm (allM w) w := by
  intro b c hb
  unfold allM at hb
  split at hb
  · rename_i hh; cases hb; exact ⟨_, _, hh⟩
  · cases hb
theorem CanL.rv {xs zs : List IV} {us : List Value} (hc : CanL true σ xs zs) (hi : Inv N ι σ w) (h : RvL ι xs us) : RvL (frz (allM w)) zs us := by
  refine ⟨hc.1 ▸ h.1, fun i z u h1 h2 => ?_⟩
  have hi' : i < xs.length := by have := (List.getElem?_eq_some_iff.1 h1).1; have := hc.1; omega
  refine (hc.2 i _ z (List.getElem?_eq_getElem hi') h1).rv hi (fun b c el hh _ => allM_of hh) (fun _ b c hb => ?_) (h.2 i _ u (List.getElem?_eq_getElem hi') h2)
  obtain ⟨e, f, hh⟩ := hi.mem b c hb
  exact allM_of hh
theorem PCall.call {f : FuncId} {xs : List IV} {z : IV} (h : PCall P false false f xs z) (hp : ∀ x ∈ xs, Pure x) : SCall P ro f xs σ z σ := by
  refine ⟨Nat.le_refl _, fun N hN ι us w hi hr => ?_⟩
  refine (h ι.m w us hi.mem (hr.pure hp fun _ _ h => h)).mono fun e w' hR => ?_
  cases e with
  | returned u => exact back_of hi (fun _ _ _ => Iff.rfl) hR.2
  | panicked ch => exact absurd hR.1 (by simp)
  | outgrown => exact hR.elim
theorem PCall.callC {f : FuncId} {args xs : List IV} {z : IV} (h : PCall P false true f xs z) (hc : CanL true σ args xs) : SCall P ro f args σ z σ := by
  refine ⟨Nat.le_refl _, fun N hN ι us w hi hr => ?_⟩
  refine (h (allM w) w us fzm_all (hc.rv hi hr)).mono fun e w' hR => ?_
  cases e with
  | returned u => exact back_of hi (fun hn => by cases hn) hR.2
  | panicked ch => exact absurd hR.1 (by simp)
  | outgrown => exact hR.elim
theorem PCall.pan {f : FuncId} {xs : List IV} {z : IV} (h : PCall P true false f xs z) (hp : ∀ x ∈ xs, Pure x) : SPan P ro f xs σ z σ := by
  refine ⟨Nat.le_refl _, fun N hN ι us w hi hr => ?_⟩
  refine (h ι.m w us hi.mem (hr.pure hp fun _ _ h => h)).mono fun e w' hR => ?_
  cases e with
  | returned u => exact absurd hR.1 (by simp)
  | panicked ch =>
    obtain ⟨_, u, rfl, hR⟩ := hR
    obtain ⟨ι', h1, h2, h3⟩ := back_of (ro := ro) hi (fun _ _ _ => Iff.rfl) hR
    exact ⟨ι', ⟨u, rfl, h1⟩, h2, h3⟩
  | outgrown => exact hR.elim
theorem PCall.old {pan : Bool} {f : FuncId} {xs : List IV} {z : IV} (h : PCall P pan true f xs z) : PCall P pan false f xs z := by
  have key : ∀ {M : Fz} {w w' : World} {u : Value}, Fzm M w → PRes true M w z u w' → PRes false M w z u w' := by
    intro M w w' u hM h
    obtain ⟨M', h1, h2, h3, h4, h5, h6, h7, h8, h9⟩ := h
    have hnew : ∀ b c, M' b = some c → w.heap.size ≤ b := fun b c hb => (h2 b c hb).elim (fun h => by cases h.1) fun h => h
    refine ⟨fun b => if b < w.heap.size then M b else M' b, ?_, ?_, ?_, h4.mono ⟨fun _ _ _ h => (by cases h), ?_⟩, h5, h6, h7, h8, h9⟩
    · intro b c hb
      simp only at hb
      split at hb
      · rename_i hlt; rw [h9 b hlt]; exact hM b c hb
      · exact h1 b c hb
    · intro b c hb
      simp only at hb
      split at hb
      · exact .inl ⟨rfl, hb⟩
      · rename_i hge; exact .inr (by omega)
    · intro _ b c hb
      simp only [if_pos (hM.lt hb)]; exact hb
    · intro b c hb
      have := hnew b c hb
      simp only [if_neg (show ¬ b < w.heap.size by omega)]; exact hb
  intro M w us hM hr
  refine (h M w us hM hr).mono fun e w' hR => ?_
  cases e with
  | returned u => exact ⟨hR.1, key hM hR.2⟩
  | panicked ch => obtain ⟨h1, u, h2, h3⟩ := hR; exact ⟨h1, u, h2, key hM h3⟩
  | outgrown => exact hR.elim
def argEnv (args : List IV) (n : Nat) : Env := args.zipIdx.foldl (fun e (v, i) => e.put (some i) v) ⟨n, .lf⟩
section body
variable {S : Self} {f : FuncId} {fn : Func} {c : Code} {args : List IV} {e1 : Env} {df : List Df} {σ1 σ' : St} {ex : Ex} {v : IV}
theorem body_sem {m : Nat} {mi mo : Option IV} {R : Ending → World → Prop} (hC : CallOk P S) (hk : CallMono S) (hfn : P.funcs[f]? = some fn) (hb : fn.body = some c) (hlen : args.length ≤ fn.ntmps)
    (h1 : SCode P ro none f c (argEnv args fn.ntmps) [] σ ⟨ex, e1, df, σ1⟩) (hex : ((ex = .normal ∨ ex = .ret) ∧ mi = none) ∨ ∃ v, ex = .pan v ∧ mi = some v)
    (h2 : evLeave S ro df mi σ1 = some (mo, σ')) (hN : σ'.n ≤ m) {us : List Value} (hi : Inv m ι σ w) (hr : RvL ι args us)
    (hQ : ∀ ts w' ι' u', Inv m ι' σ' w' → Le ro ι w σ ι' w' σ' → EnvR ι' e1 ts → ModeR ι' mo u' → LeavesIn Fence.wide 0 P fn ts R [] u' w') : CallsIn Fence.wide 0 P f us.toArray w R := by
  have hnm := leave_mono hk h2
  have hn1 : σ1.n ≤ m := by omega
  refine callsIn_of_wp_marks hfn hb trivial ?_
  refine h1.wp (a := { tmps := us.toArray ++ Array.replicate (fn.ntmps - us.toArray.size) Go.undef, defers := [] }) hn1 (.inl ⟨rfl, rfl⟩) hi (env_args hr hlen) trivial ?_
  intro a1 w1 ι1 ch1 i1 l1 e1' d1 p1
  have : ∀ u, ModeR ι1 mi u → LeavesInM Fence.wide 0 P fn a1.tmps R a1.defers u w1 := fun u hu =>
    leave_ok hC hk h2 d1 hu i1 hN fun w2 ι2 u2 i2 l2 hu2 => hQ a1.tmps w2 ι2 u2 i2 (Le.then hi hn1 l1 l2) (e1'.mono l2.ext) hu2
  rcases hex with ⟨rfl | rfl, rfl⟩ | ⟨v, rfl, rfl⟩
  · exact this _ rfl
  · exact this _ rfl
  · obtain ⟨u, rfl, hu⟩ := p1
    exact this _ ⟨u, rfl, hu⟩
theorem SCall.bodyS {mi : Option IV} (hC : CallOk P S) (hk : CallMono S) (hfn : P.funcs[f]? = some fn) (hb : fn.body = some c) (hlen : args.length ≤ fn.ntmps)
    (h1 : SCode P ro none f c (argEnv args fn.ntmps) [] σ ⟨ex, e1, df, σ1⟩) (hex : ((ex = .normal ∨ ex = .ret) ∧ mi = none) ∨ ∃ v, ex = .pan v ∧ mi = some v)
    (h2 : evLeave S ro df mi σ1 = some (none, σ')) (hv : resultOf P fn e1 σ' = some v) : SCall P ro f args σ v σ' := by
  refine ⟨Nat.le_trans h1.1 (leave_mono hk h2), fun N hN ι us w hi hr => ?_⟩
  refine body_sem hC hk hfn hb hlen h1 hex h2 hN hi hr fun ts w' ι' u' i1 l1 e1' hu => ?_
  rw [show u' = _ from hu]
  obtain ⟨u, k1, k2⟩ := results_ok hv i1 e1'
  exact ⟨u, k1, ι', k2, i1, l1⟩
theorem SPan.bodyS {mi : Option IV} (hC : CallOk P S) (hk : CallMono S) (hfn : P.funcs[f]? = some fn) (hb : fn.body = some c) (hlen : args.length ≤ fn.ntmps)
    (h1 : SCode P ro none f c (argEnv args fn.ntmps) [] σ ⟨ex, e1, df, σ1⟩) (hex : ((ex = .normal ∨ ex = .ret) ∧ mi = none) ∨ ∃ v, ex = .pan v ∧ mi = some v)
    (h2 : evLeave S ro df mi σ1 = some (some v, σ')) : SPan P ro f args σ v σ' := by
  refine ⟨Nat.le_trans h1.1 (leave_mono hk h2), fun N hN ι us w hi hr => ?_⟩
  refine body_sem hC hk hfn hb hlen h1 hex h2 hN hi hr fun ts w' ι' u' i1 l1 e1' hu => ?_
  obtain ⟨x, rfl, hx⟩ := hu
  exact ⟨ι', ⟨x, rfl, hx⟩, i1, l1⟩
theorem none_ok : CallOk P Self.none ∧ CallMono Self.none :=
  ⟨⟨fun _ _ _ _ _ _ _ h => (by cases h), fun _ _ _ _ _ _ _ h => (by cases h), fun _ _ _ _ _ _ _ _ h => (by cases h), fun _ _ _ _ _ _ _ h => (by cases h)⟩, ⟨fun _ _ _ _ _ _ h => (by cases h), fun _ _ _ _ _ _ h => (by cases h), fun _ _ _ _ _ _ _ h => (by cases h)⟩⟩
theorem SCall.body (hfn : P.funcs[f]? = some fn) (hb : fn.body = some c) (hlen : args.length ≤ fn.ntmps)
    (h1 : SCode P ro none f c (argEnv args fn.ntmps) [] σ ⟨ex, e1, [], σ'⟩) (hex : ex = .normal ∨ ex = .ret) (hv : resultOf P fn e1 σ' = some v) : SCall P ro f args σ v σ' :=
  .bodyS (none_ok (P := P)).1 (none_ok (P := P)).2 hfn hb hlen h1 (.inl ⟨hex, rfl⟩) rfl hv
theorem SPan.body (hfn : P.funcs[f]? = some fn) (hb : fn.body = some c) (hlen : args.length ≤ fn.ntmps)
    (h1 : SCode P ro none f c (argEnv args fn.ntmps) [] σ ⟨.pan v, e1, [], σ'⟩) : SPan P ro f args σ v σ' :=
  .bodyS (none_ok (P := P)).1 (none_ok (P := P)).2 hfn hb hlen h1 (.inr ⟨_, rfl, rfl⟩) rfl
end body
end Go.Ev
namespace Go.Ev
open Go.RowKit
variable {P : Program}
def rawEq : Value → Value → Bool
  | .int k n, .int k' n' => decide (k = k') && decide (n = n')
  | .bool a, .bool b => a == b
  | .string a, .string b => decide (a = b)
  | _, _ => false
theorem rawEq_eq {a b : Value} (h : rawEq a b = true) : a = b := by
  unfold rawEq at h
  split at h
  · simp only [Bool.and_eq_true, decide_eq_true_eq] at h; rw [h.1, h.2]
  · rw [beq_iff_eq] at h; rw [h]
  · rw [decide_eq_true_eq] at h; rw [h]
  · cases h
def all2 (p : IV → IV → Bool) : List IV → List IV → Bool
  | [], [] => true
  | a :: as, b :: bs => p a b && all2 p as bs
  | _, _ => false
theorem all2_sound {p : IV → IV → Bool} : ∀ {as bs : List IV}, all2 p as bs = true → as.length = bs.length ∧ ∀ (i : Nat) a b, as[i]? = some a → bs[i]? = some b → p a b = true
  | [], [], _ => ⟨rfl, fun i a b h => by simp at h⟩
  | a :: as, b :: bs, h => by
    simp only [all2, Bool.and_eq_true] at h
    obtain ⟨h1, h2⟩ := all2_sound h.2
    refine ⟨by simp [h1], fun i => ?_⟩
    cases i with
    | zero => intro a' b' e1 e2; simp at e1 e2; subst e1 e2; exact h.1
    | succ i => intro a' b' e1 e2; simp at e1 e2; exact h2 i a' b' e1 e2
  | [], _ :: _, h => by simp [all2] at h
  | _ :: _, [], h => by simp [all2] at h
def canB (σ : St) : Nat → IV → IV → Bool
  | 0, _, _ => false
  | f + 1, x, z =>
    match z with
    | .raw u => match x with
      | .raw v => rawEq v u
      | _ => false
    | .agg ds => match x with
      | .agg cs => all2 (canB σ f) cs ds
      | _ => false
    | .tup ds => match x with
      | .tup cs => all2 (canB σ f) cs ds
      | _ => false
    | .tree s es => match x with
      | .raw (.slice none l c) => es.isEmpty && Nat.blt 0 s && Nat.beq l 0 && Nat.beq c 0
      | .emp => es.isEmpty && Nat.blt 0 s
      | .tree s' es' => es.isEmpty && es'.isEmpty && Nat.beq s s'
      | .sl id off len _ ep s' => match σ.at id with
        | some (.cells cs cep mn) => Nat.ble mn ep && Nat.ble ep cep && Nat.beq es.length len && Nat.ble (off + len * s) cs.length && Nat.beq s s' &&
            es.zipIdx.all fun (e, i) => Nat.beq (cellsOf e).length s && (cellsOf e).zipIdx.all fun (d, j) => match cs[off + i * s + j]? with
              | some c => canB σ f c d
              | none => true
        | _ => false
      | _ => false
    | _ => false
theorem canB_sound {fr : Bool} {σ : St} : ∀ {f : Nat} {x z : IV}, canB σ f x z = true → Can fr σ x z
  | 0, _, _, h => by simp [canB] at h
  | f + 1, x, z, h => by
    unfold canB at h
    split at h
    · split at h
      · rw [rawEq_eq h]; exact .raw _
      · cases h
    · split at h
      · obtain ⟨h1, h2⟩ := all2_sound h
        exact .agg _ _ h1 fun i c d e1 e2 => canB_sound (h2 i c d e1 e2)
      · cases h
    · split at h
      · obtain ⟨h1, h2⟩ := all2_sound h
        exact .tup _ _ h1 fun i c d e1 e2 => canB_sound (h2 i c d e1 e2)
      · cases h
    · split at h
      · rename_i es _ l c
        simp only [Bool.and_eq_true, List.isEmpty_iff, Nat.blt_eq, Nat.beq_eq] at h
        obtain ⟨⟨⟨h1, h2⟩, h3⟩, h4⟩ := h
        subst h1 h3 h4
        exact .nil _ h2
      · simp only [Bool.and_eq_true, List.isEmpty_iff, Nat.blt_eq] at h
        obtain ⟨h1, h2⟩ := h
        subst h1
        exact .emp _ h2
      · simp only [Bool.and_eq_true, List.isEmpty_iff, Nat.beq_eq] at h
        obtain ⟨⟨h1, h2⟩, h3⟩ := h
        subst h1 h2 h3
        exact .treeE _
      · split at h
        · rename_i hat
          simp only [Bool.and_eq_true, Nat.beq_eq, Nat.ble_eq, List.all_eq_true] at h
          obtain ⟨⟨⟨⟨⟨h1, h2⟩, h3⟩, h4⟩, h5⟩, h6⟩ := h
          subst h5
          refine .sl _ _ _ _ _ _ _ _ _ _ hat h1 h2 h3 h4 (fun e he => ?_) fun i e j c d e1 e2 e3 => ?_
          · obtain ⟨i, hi, rfl⟩ := List.getElem_of_mem he
            exact (h6 (_, i) (List.mk_mem_zipIdx_iff_getElem?.2 (List.getElem?_eq_getElem hi))).1
          · have := (h6 (e, i) (List.mk_mem_zipIdx_iff_getElem?.2 e1)).2 (d, j) (List.mk_mem_zipIdx_iff_getElem?.2 e2)
            simp only [e3] at this
            exact canB_sound this
        · cases h
      · cases h
    · cases h
abbrev Hk := FuncId → List (List IV × IV)
def hit (σ : St) (args : List IV) : List (List IV × IV) → Option IV
  | [] => none
  | (xs, z) :: l => if all2 (canB σ 40) args xs then some z else hit σ args l
theorem hit_sound {σ : St} {args : List IV} {z : IV} : ∀ {l : List (List IV × IV)}, hit σ args l = some z → ∃ xs, (xs, z) ∈ l ∧ CanL true σ args xs
  | [], h => by cases h
  | (xs, y) :: l, h => by
    rw [hit] at h
    split at h
    · rename_i ha
      cases h
      obtain ⟨h1, h2⟩ := all2_sound ha
      exact ⟨xs, .head _, h1, fun i c d e1 e2 => canB_sound (h2 i c d e1 e2)⟩
    · obtain ⟨xs', h1, h2⟩ := hit_sound h
      exact ⟨xs', .tail _ h1, h2⟩
def hook (H : Hk) (S : Self) : Self := ⟨S.code, fun ro f args σ => match hit σ args (H f) with
  | some z => some (z, σ)
  | none => S.call ro f args σ, S.pan, S.dcl⟩
def evH (P : Program) (H : Hk) (n : Nat) : Self := Nat.rec Self.none (fun _ S => hook H (evStep P S)) n
theorem hook_call {H : Hk} {S : Self} (hH : ∀ f xs z, (xs, z) ∈ H f → PCall P false true f xs z) (hC : CallOk P S) : CallOk P (hook H S) where
  call := by
    intro N ro f args σ v σ' h hN ι us w hi hr
    simp only [hook] at h
    split at h
    · rename_i z hz
      cases h
      obtain ⟨xs, h1, h2⟩ := hit_sound hz
      exact ((hH f xs _ h1).callC (ro := ro) h2).2 N hN ι us w hi hr
    · exact hC.call N ro f args σ v σ' h hN ι us w hi hr
  pan := hC.pan
  dcl := hC.dcl
  ent := hC.ent
theorem hook_mono {H : Hk} {S : Self} (hk : CallMono S) : CallMono (hook H S) where
  call := by
    intro ro f args σ v σ' h
    simp only [hook] at h
    split at h
    · cases h; exact Nat.le_refl _
    · exact hk.call ro f args σ v σ' h
  pan := hk.pan
  dcl := hk.dcl
theorem evH_ok (hmix : P.follows .mixedOrders = true) {H : Hk} (hH : ∀ f xs z, (xs, z) ∈ H f → PCall P false true f xs z) : ∀ n, CodeOk P (evH P H n) n ∧ CallOk P (evH P H n) ∧ CodeMono (evH P H n) ∧ CallMono (evH P H n)
  | 0 => ev_ok (fun _ _ h1 h2 h3 h4 => draw_ok hmix h1 h2 h3 h4) 0
  | n + 1 => by
    obtain ⟨h1, h2, h3, h4⟩ := evH_ok hmix hH n
    exact ⟨code_ok h1 h2 h3 h4 (draw_ok hmix h1 h2 h3 h4), hook_call hH (call_ok h1 h2 h3 h4), code_mono h3 h4, hook_mono (call_mono h3 h4)⟩
def comes (r : Option (IV × St)) (z : IV) : Bool :=
  match r with
  | some (v, σ) => canB σ 40 v z
  | none => false
theorem PCall.run (hmix : P.follows .mixedOrders = true) {H : Hk} (hH : ∀ f xs z, (xs, z) ∈ H f → PCall P false true f xs z) {n : Nat} {new : Bool} {f : FuncId} {xs : List IV} {z : IV} (h : comes ((evH P H n).call 0 f xs ⟨0, .lf⟩) z = true) : PCall P false new f xs z := by
  unfold comes at h
  split at h
  · rename_i v σ hc
    obtain ⟨_, h2, _, h4⟩ := evH_ok hmix hH n
    exact PCall.of ⟨h4.call _ _ _ _ _ _ hc, fun N hN ι us w hi hr => h2.call N 0 f xs _ _ _ hc hN ι us w hi hr⟩ (canB_sound h)
  · cases h
end Go.Ev
namespace Go.Ev
namespace T
variable {α : Type}
inductive WF : T α → Prop
  | lf : WF .lf
  | nd (l : T α) (v : Option α) (r : T α) (hl : WF l) (hr : WF r) (h : v.isSome = true ∨ (∃ i, (l.get i).isSome = true) ∨ ∃ i, (r.get i).isSome = true) : WF (.nd l v r)
theorem get_left (l : T α) (v : Option α) (r : T α) (i : Nat) : (T.nd l v r).get (2 * i + 1) = l.get i := by
  rw [get_nd, if_neg (by omega), if_pos (by omega)]; congr 1; omega
theorem get_right (l : T α) (v : Option α) (r : T α) (i : Nat) : (T.nd l v r).get (2 * i + 2) = r.get i := by
  rw [get_nd, if_neg (by omega), if_neg (by omega)]; congr 1; omega
theorem get_root (l : T α) (v : Option α) (r : T α) : (T.nd l v r).get 0 = v := by rw [get_nd, if_pos rfl]
theorem WF.key {l : T α} {v : Option α} {r : T α} (h : WF (.nd l v r)) : ∃ i, ((T.nd l v r).get i).isSome = true := by
  cases h with
  | nd _ _ _ _ _ h =>
    rcases h with h | ⟨i, h⟩ | ⟨i, h⟩
    · exact ⟨0, by rw [get_root]; exact h⟩
    · exact ⟨2 * i + 1, by rw [get_left]; exact h⟩
    · exact ⟨2 * i + 2, by rw [get_right]; exact h⟩
theorem WF.ext : ∀ {t t' : T α}, WF t → WF t' → (∀ i, t.get i = t'.get i) → t = t'
  | .lf, .lf, _, _, _ => rfl
  | .lf, .nd l v r, _, h', he => by
    obtain ⟨i, hi⟩ := h'.key
    rw [← he i] at hi; cases hi
  | .nd l v r, .lf, h, _, he => by
    obtain ⟨i, hi⟩ := h.key
    rw [he i] at hi; cases hi
  | .nd l v r, .nd l' v' r', .nd _ _ _ hl hr _, .nd _ _ _ hl' hr' _, he => by
    have e0 : v = v' := by have := he 0; rwa [get_root, get_root] at this
    have e1 : l = l' := hl.ext hl' fun i => by have := he (2 * i + 1); rwa [get_left, get_left] at this
    have e2 : r = r' := hr.ext hr' fun i => by have := he (2 * i + 2); rwa [get_right, get_right] at this
    rw [e0, e1, e2]
theorem wf_setF : ∀ (f : Nat) (t : T α) (i : Nat) (x : α), i < f → WF t → WF (setF f t i x) := by
  intro f
  induction f with
  | zero => intro t i x h; omega
  | succ f ih =>
    intro t i x h hw
    have key : ∀ (l : T α) (v : Option α) (r : T α), WF l → WF r → WF (setF (f + 1) (.nd l v r) i x) := by
      intro l v r hl hr
      rw [setF_nd]
      by_cases hi : i = 0
      · rw [if_pos hi]; exact .nd _ _ _ hl hr (.inl rfl)
      · rw [if_neg hi]
        by_cases ho : i % 2 = 1
        · rw [if_pos ho]
          exact .nd _ _ _ (ih _ _ _ (by omega) hl) hr (.inr (.inl ⟨i / 2, by rw [get_setF _ _ _ _ _ (by omega), if_pos rfl]; rfl⟩))
        · rw [if_neg ho]
          exact .nd _ _ _ hl (ih _ _ _ (by omega) hr) (.inr (.inr ⟨i / 2 - 1, by rw [get_setF _ _ _ _ _ (by omega), if_pos rfl]; rfl⟩))
    cases t with
    | lf => rw [setF_lf]; exact key _ _ _ .lf .lf
    | nd l v r => cases hw with | nd _ _ _ hl hr _ => exact key l v r hl hr
theorem WF.set {t : T α} (h : WF t) (i : Nat) (x : α) : WF (t.set i x) := wf_setF _ _ _ _ (by omega) h
end T
variable {P : Program} {ro : Nat} {σ : St} {ρ : Operand → IV} {o : Oper} {out : OpOut}
def WFo (σ : St) : OpOut → Prop
  | .val _ σ' => σ.t.WF → σ'.t.WF
  | _ => True
theorem wf_ret {v : IV} {σ' : St} (hle : σ.t.WF → σ'.t.WF) (h : ret v σ' = some out) : WFo σ out := by rw [ret_val h]; exact hle
theorem wf_same {v : IV} (h : ret v σ = some out) : WFo σ out := wf_ret (fun h => h) h
theorem wf_put {v : IV} {id : Nat} {ob : Ob} (h : ret v (σ.put id ob) = some out) : WFo σ out := wf_ret (σ' := σ.put id ob) (fun h => h.set _ _) h
theorem wf_put2 {v : IV} {id id' : Nat} {ob ob' : Ob} (h : ret v ((σ.put id ob).put id' ob') = some out) : WFo σ out := wf_ret (σ' := (σ.put id ob).put id' ob') (fun h => (h.set _ _).set _ _) h
theorem wf_add {v : IV} {ob : Ob} (h : ret v (σ.add ob) = some out) : WFo σ out := wf_ret (fun h => h.set _ _) h
theorem mapSet_wf {kt : TypeId} {m k v : IV} {σ' : St} (h : mapSet P ro kt m k v σ = some σ') : σ.t.WF → σ'.t.WF := by
  unfold mapSet at h
  repeat' split at h
  all_goals first | (cases h; done) | (cases h; exact fun h => h.set _ _)
theorem callee_wf {f : IV} {args : List IV} (h : calleeI P f args = some out) : WFo σ out := by
  unfold calleeI at h
  repeat' split at h
  all_goals first | (cases h; done) | (cases h; exact trivial)
theorem invoke_wf {x : IV} {name : String} {args : List IV} (h : invokeI P x name args = some out) : WFo σ out := by
  unfold invokeI at h
  repeat' split at h
  all_goals first | (cases h; done) | (cases h; exact trivial)
theorem append_wf {argTypes : Array TypeId} {s x : IV} (h : appendI P ro argTypes s x σ = some out) : WFo σ out := by
  have hn : ∀ {size sLen n : Nat} {new : List IV} {s : IV}, appendNew size sLen n new s σ = some out → WFo σ out := by
    intro size sLen n new s h
    unfold appendNew at h
    split at h
    · split at h
      · exact wf_add h
      · cases h
    · cases h
  unfold appendI at h
  split at h
  · split at h
    · split at h
      · split at h
        · cases h
        · split at h
          · split at h
            · unfold appendTo at h
              repeat' split at h
              all_goals first | exact wf_same h | exact wf_put h | exact wf_put2 h | exact hn h | cases h
            · cases h
          · cases h
      · cases h
    · cases h
  · cases h
theorem builtin_wf {b : Builtin} {argTypes : Array TypeId} {args : List IV} (h : builtinI P ro b argTypes args σ = some out) : WFo σ out := by
  unfold builtinI at h
  split at h
  · split at h
    · exact append_wf h
    · cases h
  · split at h
    · rw [Option.map_eq_some_iff] at h; obtain ⟨z, _, rfl⟩ := h; exact fun h => h
    · cases h
  · split at h
    · rw [Option.map_eq_some_iff] at h; obtain ⟨z, _, rfl⟩ := h; exact fun h => h
    · cases h
  · rw [Option.map_eq_some_iff] at h; obtain ⟨z, _, rfl⟩ := h; exact fun h => h
  · rw [Option.map_eq_some_iff] at h; obtain ⟨z, _, rfl⟩ := h; exact fun h => h
  · split at h
    · unfold deleteB at h
      repeat' split at h
      all_goals first | exact wf_put h | (cases h; done)
    · cases h
  · split at h
    · unfold clearB at h
      repeat' split at h
      all_goals first | exact wf_same h | exact wf_put h | (cases h; done)
    · cases h
  · split at h
    · unfold copyB at h
      repeat' split at h
      all_goals first | exact wf_same h | exact wf_put h | (cases h; done)
    · cases h
  · cases h
theorem op_wfo (h : evOp P ro ρ o σ = some out) : WFo σ out := by
  unfold evOp at h
  cases ho : o.op <;> rw [ho] at h <;> (try dsimp only at h)
  case call c =>
    split at h
    · exact builtin_wf h
    · exact callee_wf h
    · exact invoke_wf h
  case defer c =>
    split at h
    · split at h
      · cases h; exact trivial
      · cases h
    · cases h
  case mapUpdate =>
    split at h
    · split at h
      · rename_i σ' hs
        exact wf_ret (mapSet_wf hs) h
      · cases h
    · cases h
  case insert =>
    split at h
    · split at h
      · rename_i σ' hs
        exact wf_ret (mapSet_wf hs) h
      · cases h
    · cases h
  all_goals (repeat' split at h)
  all_goals first | exact wf_same h | exact wf_put h | exact wf_add h | (cases h; done) | (cases h; exact trivial)
theorem op_wf {v : IV} {σ' : St} (h : evOp P ro ρ o σ = some (.val v σ')) (hw : σ.t.WF) : σ'.t.WF := op_wfo h hw
theorem pure_free {v : IV} {σ1 : St} (hk : kindOp o = .pure) (h : evOp P ro ρ o σ = some (.val v σ1)) : σ1 = σ ∧ ∀ ro' σ', evOp P ro' ρ o σ' = some (.val v σ') := by
  unfold kindOp at hk
  unfold evOp at h ⊢
  cases ho : o.op <;> rw [ho] at h hk <;> (try dsimp only at h hk ⊢) <;> (try (cases hk; done))
  case call c =>
    obtain ⟨callee, argTypes, args⟩ := c
    cases callee with
    | builtin b =>
      cases b <;> simp only at hk <;> (try (cases hk; done))
      all_goals
        simp only [builtinI] at h ⊢
        first
        | (rw [Option.map_eq_some_iff] at h
           obtain ⟨z, hz, he⟩ := h
           cases he
           exact ⟨rfl, fun _ _ => by rw [hz]; rfl⟩)
        | (split at h
           · rename_i hx
             rw [Option.map_eq_some_iff] at h
             obtain ⟨z, hz, he⟩ := h
             cases he
             exact ⟨rfl, fun _ _ => by rw [hz]; rfl⟩
           · cases h)
    | value f => cases hk
    | invoke r m => cases hk
  all_goals (repeat' split at h)
  all_goals first
    | (cases h; done)
    | (cases h; exact ⟨rfl, fun _ _ => by simp_all [ret]⟩)
theorem load_free {v : IV} {σ1 : St} (hk : kindOp o = .load) (h : evOp P ro ρ o σ = some (.val v σ1)) : σ1 = σ ∧ ∀ ro', evOp P ro' ρ o σ = some (.val v σ) := by
  unfold kindOp at hk
  unfold evOp at h ⊢
  cases ho : o.op <;> rw [ho] at h hk <;> (try dsimp only at h hk ⊢) <;> (try (cases hk; done))
  case call c =>
    obtain ⟨callee, argTypes, args⟩ := c
    cases callee with
    | builtin b =>
      cases b <;> simp only at hk <;> (try (cases hk; done))
      simp only [builtinI] at h ⊢
      split at h
      · rename_i hx
        rw [Option.map_eq_some_iff] at h
        obtain ⟨z, hz, he⟩ := h
        cases he
        exact ⟨rfl, fun _ => by rw [hz]; rfl⟩
      · cases h
    | value f => cases hk
    | invoke r m => cases hk
  all_goals (repeat' split at h)
  all_goals first
    | (cases h; done)
    | (cases h; exact ⟨rfl, fun _ => by simp_all [ret]⟩)
theorem add_lf (σ : St) (ob : Ob) : (St.add ⟨σ.n, .lf⟩ ob) = ⟨(σ.add ob).n, T.lf.set σ.n ob⟩ := rfl
theorem alloc_free {v : IV} {σ1 : St} (hk : kindOp o = .alloc) (h : evOp P ro ρ o σ = some (.val v σ1)) :
    ∃ t, (∀ ro', evOp P ro' ρ o ⟨σ.n, .lf⟩ = some (.val v ⟨σ1.n, t⟩)) ∧ ((σ1 = σ ∧ t = .lf) ∨ ∃ ob, σ1 = σ.add ob ∧ t = T.lf.set σ.n ob) := by
  unfold kindOp at hk
  unfold evOp at h ⊢
  cases ho : o.op <;> rw [ho] at h hk <;> (try dsimp only at h hk ⊢) <;> (try (cases hk; done))
  case call c =>
    obtain ⟨callee, argTypes, args⟩ := c
    cases callee with
    | builtin b => cases b <;> cases hk
    | value f => cases hk
    | invoke r m => cases hk
  all_goals (repeat' split at h)
  all_goals first
    | (cases h; done)
    | (cases h; exact ⟨_, fun _ => by simp_all [ret, add_lf], .inr ⟨_, rfl, rfl⟩⟩)
    | (cases h; exact ⟨_, fun _ => by simp_all [ret], .inl ⟨rfl, rfl⟩⟩)
theorem builtin_no_enter {b : Builtin} {argTypes : Array TypeId} {args : List IV} {f : FuncId} {as : List IV} (h : builtinI P ro b argTypes args σ = some (.enter f as)) : False := by
  unfold builtinI at h
  split at h
  · split at h
    · obtain ⟨_, _, he⟩ := appendI_out h; cases he
    · cases h
  · split at h
    · rw [Option.map_eq_some_iff] at h; obtain ⟨z, _, he⟩ := h; cases he
    · cases h
  · split at h
    · rw [Option.map_eq_some_iff] at h; obtain ⟨z, _, he⟩ := h; cases he
    · cases h
  · rw [Option.map_eq_some_iff] at h; obtain ⟨z, _, he⟩ := h; cases he
  · rw [Option.map_eq_some_iff] at h; obtain ⟨z, _, he⟩ := h; cases he
  · split at h
    · unfold deleteB at h
      repeat' split at h
      all_goals cases h
    · cases h
  · split at h
    · unfold clearB at h
      repeat' split at h
      all_goals cases h
    · cases h
  · split at h
    · unfold copyB at h
      repeat' split at h
      all_goals cases h
    · cases h
  · cases h
theorem enter_free {f : FuncId} {args : List IV} (h : evOp P ro ρ o σ = some (.enter f args)) : ∀ ro' σ', evOp P ro' ρ o σ' = some (.enter f args) := by
  intro ro' σ'
  unfold evOp at h ⊢
  cases ho : o.op <;> rw [ho] at h <;> (try dsimp only at h ⊢)
  case call c =>
    split at h
    · exact (builtin_no_enter h).elim
    · exact h
    · exact h
  case defer c =>
    split at h
    · split at h <;> cases h
    · cases h
  all_goals (repeat' split at h)
  all_goals cases h
open Classical in
@[reducible] noncomputable def eqSm : Sm := ⟨fun u v => decide (u = v), fun _ _ h => of_decide_eq_true h⟩
attribute [local instance] eqSm
open Classical in
noncomputable def tab1 (R : Option Nat) (f : FuncId) (args : List IV) (σ : St) (v : IV) (σ1 : St) : Self where
  code := fun _ _ _ _ _ _ _ => none
  call := fun ro' f' a' σ' => if (R = none ∨ R = some ro') ∧ f' = f ∧ a' = args ∧ σ' = σ then some (v, σ1) else none
  pan := fun _ _ _ _ => none
  dcl := fun _ _ _ _ _ => none
def SelfOk (P : Program) (U : Self) : Prop := CodeOk P U 0 ∧ CallOk P U ∧ CodeMono U ∧ CallMono U
theorem selfOk_none : SelfOk P Self.none :=
  ⟨fun _ _ _ _ _ _ _ _ _ h => (by cases h), (none_ok (P := P)).1, fun _ _ _ _ _ _ _ _ h => (by cases h), (none_ok (P := P)).2⟩
theorem tab1_call {R : Option Nat} {f : FuncId} {args : List IV} {σ : St} {v : IV} {σ1 : St} (h : ∀ ro, (R = none ∨ R = some ro) → SCall P ro f args σ v σ1) {ro' : Nat} {f' : FuncId} {a' : List IV} {σ' : St} {v' : IV} {σ2 : St}
    (hc : (tab1 R f args σ v σ1).call ro' f' a' σ' = some (v', σ2)) : SCall P ro' f' a' σ' v' σ2 := by
  simp only [tab1] at hc
  split at hc
  · rename_i hh
    cases hc
    obtain ⟨h1, rfl, rfl, rfl⟩ := hh
    exact h _ h1
  · cases hc
theorem selfOk_tab {R : Option Nat} {f : FuncId} {args : List IV} {σ : St} {v : IV} {σ1 : St} (h : ∀ ro, (R = none ∨ R = some ro) → SCall P ro f args σ v σ1) : SelfOk P (tab1 R f args σ v σ1) :=
  ⟨fun _ _ _ _ _ _ _ _ _ h => (by cases h), ⟨fun N _ _ _ _ _ _ hc hN => (tab1_call h hc).2 N hN, fun _ _ _ _ _ _ _ h => (by cases h), fun _ _ _ _ _ _ _ _ h => (by cases h), fun _ _ _ _ _ _ _ h => (by cases h)⟩,
    fun _ _ _ _ _ _ _ _ h => (by cases h), ⟨fun _ _ _ _ _ _ hc => (tab1_call h hc).1, fun _ _ _ _ _ _ h => (by cases h), fun _ _ _ _ _ _ _ h => (by cases h)⟩⟩
inductive RunOps (P : Program) (ro : Nat) (ops : Array Oper) (pl : Plan) : List (Oper × Nat) → Env → St → Env → St → Prop
  | nil (e : Env) (σ : St) : RunOps P ro ops pl [] e σ e σ
  | skip {o : Oper} {j : Nat} {l : List (Oper × Nat)} {e : Env} {σ : St} {e' : Env} {σ' : St} (hw : wantedI o ops e = false) (h : RunOps P ro ops pl l (e.put o.dst .undef) σ e' σ') : RunOps P ro ops pl ((o, j) :: l) e σ e' σ'
  | val {o : Oper} {j : Nat} {l : List (Oper × Nat)} {e : Env} {σ : St} {e' : Env} {σ' : St} {v : IV} {σ1 : St} (hw : wantedI o ops e = true) (hv : evOp P ro (evalI e) o σ = some (.val v σ1)) (h : RunOps P ro ops pl l (e.put o.dst v) σ1 e' σ') : RunOps P ro ops pl ((o, j) :: l) e σ e' σ'
  | pcall {o : Oper} {j : Nat} {l : List (Oper × Nat)} {e : Env} {σ : St} {e' : Env} {σ' : St} {f : FuncId} {args : List IV} {v : IV} (hw : wantedI o ops e = true) (hv : evOp P ro (evalI e) o σ = some (.enter f args)) (hc : ∀ ro, SCall P ro f args σ v σ)
      (h : RunOps P ro ops pl l (e.put o.dst v) σ e' σ') : RunOps P ro ops pl ((o, j) :: l) e σ e' σ'
  | call {o : Oper} {j : Nat} {l : List (Oper × Nat)} {e : Env} {σ : St} {e' : Env} {σ' : St} {f : FuncId} {args : List IV} {v : IV} {σ1 : St} (hk : kdOf pl j = .effect) (hw : wantedI o ops e = true) (hv : evOp P ro (evalI e) o σ = some (.enter f args))
      (hc : SCall P ro f args σ v σ1) (hwf : σ.t.WF → σ1.t.WF) (h : RunOps P ro ops pl l (e.put o.dst v) σ1 e' σ') : RunOps P ro ops pl ((o, j) :: l) e σ e' σ'
def valCall (o : Oper) : Bool :=
  match o.op with
  | .call { callee := .value _, .. } => true
  | _ => false
def seqOk (ops : Array Oper) (pl : Plan) : Bool :=
  ops.toList.zipIdx.all fun (o, j) =>
    (match pl.kinds.getD j .effect with
      | .call => valCall o && kindOp o == .call
      | .effect => true
      | k => kindOp o == k) &&
    (pl.kinds.getD j .effect == .pure || ops.toList.zipIdx.all fun (_, i) => !Nat.blt i j || Nat.testBit (pl.bef.getD j 0) i ||
      (match pl.kinds.getD i .effect with
        | .alloc | .effect => false
        | .load => !(pl.kinds.getD j .effect == .effect)
        | _ => true))
theorem seqOk_at {ops : Array Oper} {pl : Plan} (h : seqOk ops pl = true) {o : Oper} {j : Nat} (ho : (o, j) ∈ ops.toList.zipIdx) :
    (kdOf pl j ≠ .call → kdOf pl j ≠ .effect → kindOp o = kdOf pl j) ∧ (kdOf pl j = .call → valCall o = true) ∧
    (kdOf pl j ≠ .pure → ∀ p i, (p, i) ∈ ops.toList.zipIdx → i < j → (kdOf pl i = .alloc ∨ kdOf pl i = .effect ∨ (kdOf pl i = .load ∧ kdOf pl j = .effect)) → Nat.testBit (pl.bef.getD j 0) i = true) := by
  unfold seqOk at h
  have h1 := List.all_eq_true.1 h (o, j) ho
  simp only [Bool.and_eq_true, Bool.or_eq_true] at h1
  obtain ⟨h1, h2⟩ := h1
  refine ⟨fun hc he => ?_, fun hc => ?_, fun hp p i hi hlt hk => ?_⟩
  · unfold kdOf at hc he ⊢
    cases hk : pl.kinds.getD j .effect <;> rw [hk] at h1 hc he <;> first | exact absurd rfl hc | exact absurd rfl he | simpa using h1
  · unfold kdOf at hc
    rw [hc] at h1
    simp only [Bool.and_eq_true] at h1
    exact h1.1
  · rcases h2 with h2 | h2
    · exact absurd (by simpa [kdOf] using h2) hp
    · have h3 := List.all_eq_true.1 h2 (p, i) hi
      simp only [Bool.or_eq_true] at h3
      rcases h3 with (h3 | h3) | h3
      · rw [Bool.not_eq_true', ← Bool.not_eq_true, Nat.blt_eq] at h3; exact absurd hlt h3
      · exact h3
      · unfold kdOf at hk
        rcases hk with hk | hk | ⟨hk, hk'⟩
        · rw [hk] at h3; cases h3
        · rw [hk] at h3; cases h3
        · rw [hk, hk'] at h3; simp at h3
theorem overlay_none (b : T Ob) (p : Piece) (h : p.hi ≤ p.lo) : overlay b p = b := by
  unfold overlay
  rw [show p.hi - p.lo = 0 by omega]
  rfl
theorem overlay_wf {b : T Ob} (h : b.WF) (p : Piece) : (overlay b p).WF := by
  unfold overlay
  generalize List.range' p.lo (p.hi - p.lo) = l
  induction l generalizing b with
  | nil => exact h
  | cons id l ih =>
    simp only [List.foldl_cons]
    refine ih ?_
    split
    · exact h.set _ _
    · exact h
theorem foldO_wf : ∀ (l : List Piece) {b : T Ob}, b.WF → (l.foldl overlay b).WF
  | [], _, h => h
  | p :: l, _, h => foldO_wf l (overlay_wf h p)
theorem foldO_filter {f : Piece → Bool} : ∀ (l : List Piece) (b : T Ob), (∀ p ∈ l, f p = true ∨ p.hi ≤ p.lo) → (l.filter f).foldl overlay b = l.foldl overlay b
  | [], _, _ => rfl
  | p :: l, b, h => by
    have ht := fun q hq => h q (List.mem_cons_of_mem _ hq)
    rw [List.filter_cons]
    by_cases hf : f p = true
    · rw [if_pos hf]; exact foldO_filter l _ ht
    · rw [if_neg hf, List.foldl_cons, overlay_none b p ((h p (List.mem_cons_self ..)).resolve_left hf)]
      exact foldO_filter l b ht
theorem foldO_out {f : Piece → Bool} : ∀ (l : List Piece) (b : T Ob), (∀ p ∈ l, f p = true → p.hi ≤ p.lo) → (l.filter f).foldl overlay b = b
  | [], _, _ => rfl
  | p :: l, b, h => by
    have ht := fun q hq => h q (List.mem_cons_of_mem _ hq)
    rw [List.filter_cons]
    by_cases hf : f p = true
    · rw [if_pos hf, List.foldl_cons, overlay_none b p (h p (List.mem_cons_self ..) hf)]
      exact foldO_out l b ht
    · rw [if_neg hf]; exact foldO_out l b ht
theorem foldO_set {n : Nat} {ob : Ob} : ∀ (l : List Piece) (b1 b2 : T Ob), (∀ p ∈ l, p.hi ≤ n) → (∀ id, b1.get id = (b2.set n ob).get id) → ∀ id, (l.foldl overlay b1).get id = ((l.foldl overlay b2).set n ob).get id
  | [], b1, b2, _, h, id => h id
  | p :: l, b1, b2, hp, h, id => by
    simp only [List.foldl_cons]
    refine foldO_set l _ _ (fun q hq => hp q (List.mem_cons_of_mem _ hq)) (fun id => ?_) id
    have hpn := hp p (List.mem_cons_self ..)
    rw [overlay_get, T.get_set, overlay_get, h id, T.get_set]
    by_cases hn : n = id
    · subst hn
      simp only [if_true]
      rw [if_neg (by omega)]
    · simp only [if_neg hn]
structure SeqInv (pl : Plan) (j : Nat) (d : DS) (e : Env) (σ : St) : Prop where
  e : d.e = e
  n : d.n = σ.n
  bs : ∃ i b rest, d.bs = (i, b) :: rest ∧ (rest = [] ∨ (i < j ∧ kdOf pl i = .effect)) ∧ d.pcs.foldl overlay b = σ.t ∧ b.WF
  pcs : ∀ p ∈ d.pcs, (p.hi ≤ p.lo ∨ (p.j < j ∧ kdOf pl p.j = .alloc)) ∧ p.hi ≤ d.n
theorem seen_eq {ops : Array Oper} {pl : Plan} {d : DS} {e : Env} {σ : St} {j : Nat} {b : T Ob} (hs : SeqInv pl j d e σ) (hb3 : d.pcs.foldl overlay b = σ.t)
    (hbit : ∀ i, i < j → (kdOf pl i = .alloc ∨ kdOf pl i = .effect) → Nat.testBit (pl.bef.getD j 0) i = true) : seen d.pcs (pl.bef.getD j 0) b = σ.t := by
  unfold seen
  rw [foldO_filter _ _ fun p hp => ?_, hb3]
  rcases (hs.pcs p hp).1 with h | ⟨h1, h2⟩
  · exact .inr h
  · exact .inl (hbit _ h1 (.inl h2))
theorem valCall_noval {v : IV} {σ1 : St} (h : valCall o = true) (hv : evOp P ro ρ o σ = some (.val v σ1)) : False := by
  unfold valCall at h
  split at h
  · rename_i f a b hop
    unfold evOp at hv
    rw [hop] at hv
    dsimp only at hv
    unfold calleeI at hv
    repeat' split at hv
    all_goals cases hv
  · cases h
theorem enter_kind {f : FuncId} {args : List IV} (h : evOp P ro ρ o σ = some (.enter f args)) : kindOp o = .call ∨ kindOp o = .effect := by
  unfold evOp at h
  unfold kindOp
  cases ho : o.op <;> rw [ho] at h <;> (try dsimp only at h ⊢)
  case call c =>
    obtain ⟨callee, argTypes, args⟩ := c
    cases callee with
    | builtin b => exact (builtin_no_enter h).elim
    | value f => exact .inl rfl
    | invoke r m => exact .inr rfl
  case defer c =>
    split at h
    · split at h <;> cases h
    · cases h
  all_goals (repeat' split at h)
  all_goals cases h
theorem eff_step {U : Self} {ops : Array Oper} {pl : Plan} {o : Oper} {j : Nat} {d : DS} {e : Env} {σ σ1 : St} {v : IV} (hs : SeqInv pl j d e σ) (hk : kdOf pl j = .effect) (hw : wantedI o ops e = true)
    (htake : ∀ p i, (p, i) ∈ ops.toList.zipIdx.take j → (p, i) ∈ ops.toList.zipIdx ∧ i < j)
    (hbit : ∀ i, i < j → (kdOf pl i = .alloc ∨ kdOf pl i = .effect ∨ (kdOf pl i = .load ∧ kdOf pl j = .effect)) → Nat.testBit (pl.bef.getD j 0) i = true)
    (hx : evX P U ro e o σ = some (v, σ1)) (hwf : σ1.t.WF) (hn : σ.n ≤ σ1.n) : ∃ d1, drawStep P U pl ro ops o j d = some d1 ∧ SeqInv pl (j + 1) d1 (e.put o.dst v) σ1 := by
  obtain ⟨i, b, rest, hb1, hb2, hb3, hb4⟩ := hs.bs
  have hseen := seen_eq (ops := ops) hs hb3 fun i hi h => hbit i hi (h.imp id .inl)
  have hst : (⟨d.n, seen d.pcs (pl.bef.getD j 0) b⟩ : St) = σ := by rw [hseen, hs.n]
  refine ⟨⟨e.put o.dst v, σ1.n, (j, σ1.t) :: d.bs, d.pcs.filter fun p => !Nat.testBit (pl.bef.getD j 0) p.j⟩, ?_, ⟨rfl, rfl, ⟨j, σ1.t, d.bs, rfl, .inr ⟨by omega, hk⟩, ?_, hwf⟩, fun p hp => ?_⟩⟩
  · unfold drawStep
    rw [hb1]
    simp only
    rw [hs.e, hw, if_pos rfl]
    have hk' : pl.kinds.getD j .effect = .effect := hk
    rw [hk']
    simp only
    rw [hst, hx]
    simp only
    rw [if_pos]
    unfold recheck
    rw [List.all_eq_true]
    rintro ⟨p, q⟩ hpq
    obtain ⟨h5, h6⟩ := htake p q hpq
    simp only
    split
    · rename_i hld
      rw [hbit q h6 (.inr (.inr ⟨hld, hk⟩))]
      rfl
    · rfl
  · refine foldO_out _ _ fun p hp hf => ?_
    rcases (hs.pcs p hp).1 with h | ⟨h1, h2⟩
    · exact h
    · rw [hbit _ h1 (.inl h2)] at hf; cases hf
  · have hp' := (List.mem_filter.1 hp).1
    obtain ⟨h1, h2⟩ := hs.pcs p hp'
    exact ⟨h1.imp id (fun h => ⟨by omega, h.2⟩), by rw [hs.n] at h2; exact Nat.le_trans h2 hn⟩
theorem drawAll_congr {SF SF' : Nat → Self} {pl : Plan} {ops : Array Oper} : ∀ {l : List (Oper × Nat)} {d : DS}, (∀ o i, (o, i) ∈ l → SF i = SF' i) → drawAll P SF pl ro ops l d = drawAll P SF' pl ro ops l d
  | [], _, _ => rfl
  | (o, j) :: l, d, h => by
    unfold drawAll
    rw [h o j (List.mem_cons_self ..)]
    split
    · exact drawAll_congr fun o' i hi => h o' i (List.mem_cons_of_mem _ hi)
    · rfl
theorem draw_cons {U : Self} {pl : Plan} {ops : Array Oper} {o : Oper} {j : Nat} {l : List (Oper × Nat)} {d d1 d' : DS} {SF : Nat → Self} (hU : SelfOk P U) (hS : ∀ i, SelfOk P (SF i)) (h1 : drawStep P U pl ro ops o j d = some d1)
    (h3 : drawAll P SF pl ro ops l d1 = some d') (hl : ∀ o' i, (o', i) ∈ l → i ≠ j) : ∃ SF', (∀ i, SelfOk P (SF' i)) ∧ drawAll P SF' pl ro ops ((o, j) :: l) d = some d' := by
  refine ⟨fun i => if i = j then U else SF i, fun i => ?_, ?_⟩
  · by_cases hi : i = j
    · simp only [if_pos hi]; exact hU
    · simp only [if_neg hi]; exact hS i
  · unfold drawAll
    simp only [if_true]
    rw [h1]
    simp only
    rw [← h3]
    exact drawAll_congr fun o' i hi => by simp only [if_neg (hl o' i hi)]
theorem draw_step {ops : Array Oper} {pl : Plan} (hok : seqOk ops pl = true) {l : List (Oper × Nat)} {e e' : Env} {σ σ' : St} (h : RunOps P ro ops pl l e σ e' σ') :
    ∀ (k : Nat) (d : DS), ops.toList.zipIdx.drop k = l → SeqInv pl k d e σ → ∃ SF : Nat → Self, (∀ i, SelfOk P (SF i)) ∧ ∃ d', drawAll P SF pl ro ops l d = some d' ∧ d'.e = e' ∧ d'.n = σ'.n ∧ ∃ i b rest, d'.bs = (i, b) :: rest ∧ d'.pcs.foldl overlay b = σ'.t := by
  have hmem : ∀ {o : Oper} {j : Nat} {l : List (Oper × Nat)} {k : Nat}, ops.toList.zipIdx.drop k = (o, j) :: l → (o, j) ∈ ops.toList.zipIdx ∧ j = k ∧ ops.toList.zipIdx.drop (k + 1) = l ∧
      (∀ p i, (p, i) ∈ ops.toList.zipIdx.take j → (p, i) ∈ ops.toList.zipIdx ∧ i < j) ∧ (∀ i, i < j → ∃ p, (p, i) ∈ ops.toList.zipIdx) ∧ ∀ o' i, (o', i) ∈ l → i ≠ j := by
    intro o j l k h
    have h1 : (ops.toList.zipIdx.drop k)[0]? = some (o, j) := by rw [h]; rfl
    rw [List.getElem?_drop, Nat.add_zero] at h1
    have h2 := List.mem_of_getElem? h1
    have hlt := (List.getElem?_eq_some_iff.1 h1).1
    rw [List.getElem?_zipIdx] at h1
    have hj : j = k := by
      cases hk : ops.toList[k]? with
      | none => rw [hk] at h1; cases h1
      | some o' => rw [hk] at h1; simp at h1; omega
    have hd1 : ops.toList.zipIdx.drop (k + 1) = l := by rw [← List.drop_drop (i := 1) (j := k), h]; rfl
    refine ⟨h2, hj, hd1, fun p i hp => ⟨List.mem_of_mem_take hp, ?_⟩, fun i hi => ?_, fun o' i hi => ?_⟩
    · obtain ⟨m, hm, he⟩ := List.getElem_of_mem hp
      rw [List.length_take] at hm
      rw [List.getElem_take, List.getElem_zipIdx] at he
      cases he
      omega
    · rw [List.length_zipIdx] at hlt
      refine ⟨ops.toList[i], List.mem_of_getElem? (i := i) ?_⟩
      rw [List.getElem?_zipIdx, List.getElem?_eq_getElem (by omega)]
      simp
    · rw [← hd1] at hi
      obtain ⟨m, hm, he⟩ := List.getElem_of_mem hi
      rw [List.getElem_drop, List.getElem_zipIdx] at he
      cases he
      omega
  induction h with
  | nil e σ =>
    intro k d _ hs
    obtain ⟨i, b, rest, h1, _, h3, _⟩ := hs.bs
    exact ⟨fun _ => Self.none, fun _ => selfOk_none, d, rfl, hs.e, hs.n, i, b, rest, h1, h3⟩
  | @skip o j l e σ e' σ' hw h ih =>
    intro k d hl hs
    obtain ⟨hm, rfl, hd, htake, hall, hlt⟩ := hmem hl
    obtain ⟨hkd, hcl, hbit⟩ := seqOk_at hok hm
    obtain ⟨i, b, rest, hb1, hb2, hb3, hb4⟩ := hs.bs
    have hpcs : ∀ p ∈ d.pcs, (p.hi ≤ p.lo ∨ (p.j < j + 1 ∧ kdOf pl p.j = .alloc)) ∧ p.hi ≤ d.n := fun p hp => ⟨(hs.pcs p hp).1.imp id (fun h => ⟨by omega, h.2⟩), (hs.pcs p hp).2⟩
    have key : ∃ U, SelfOk P U ∧ ∃ d1, drawStep P U pl ro ops o j d = some d1 ∧ SeqInv pl (j + 1) d1 (e.put o.dst .undef) σ := by
      refine ⟨Self.none, selfOk_none, ?_⟩
      by_cases hk : kdOf pl j = .effect
      · refine ⟨⟨d.e.put o.dst .undef, d.n, (j, b) :: d.bs, d.pcs⟩, ?_, ⟨by rw [hs.e], hs.n, ⟨j, b, d.bs, rfl, .inr ⟨by omega, hk⟩, hb3, hb4⟩, hpcs⟩⟩
        unfold drawStep
        rw [hb1]
        simp only
        rw [hs.e, hw, if_neg (by simp)]
        have hk' : pl.kinds.getD j .effect = .effect := hk
        rw [hk']
        simp only
        rw [if_pos]
        unfold recheck
        rw [List.all_eq_true]
        rintro ⟨p, q⟩ hpq
        obtain ⟨h5, h6⟩ := htake p q hpq
        simp only
        split
        · rename_i hld
          rw [hbit (by rw [hk]; simp) p q h5 h6 (.inr (.inr ⟨hld, hk⟩))]
          rfl
        · rfl
      · refine ⟨{ d with e := d.e.put o.dst .undef }, ?_, ⟨by rw [hs.e], hs.n, ⟨i, b, rest, hb1, hb2.imp id (fun h => ⟨by omega, h.2⟩), hb3, hb4⟩, hpcs⟩⟩
        unfold drawStep
        rw [hb1]
        simp only
        rw [hs.e, hw, if_neg (by simp)]
        have hk' : pl.kinds.getD j .effect ≠ .effect := hk
        cases hq : pl.kinds.getD j .effect <;> first | exact absurd hq hk' | simp only
    obtain ⟨U, hU, d1, h1, h2⟩ := key
    obtain ⟨SF, hSF, d', h3, h4⟩ := ih (j + 1) d1 hd h2
    obtain ⟨SF', h5, h6⟩ := draw_cons hU hSF h1 h3 hlt
    exact ⟨SF', h5, d', h6, h4⟩
  | @val o j l e σ e' σ' v σ1 hw hv h ih =>
    intro k d hl hs
    obtain ⟨hm, rfl, hd, htake, hall, hlt⟩ := hmem hl
    obtain ⟨hkd, hcl, hbit⟩ := seqOk_at hok hm
    obtain ⟨i, b, rest, hb1, hb2, hb3, hb4⟩ := hs.bs
    have hσw : σ.t.WF := hb3 ▸ foldO_wf _ hb4
    have hpcs : ∀ p ∈ d.pcs, (p.hi ≤ p.lo ∨ (p.j < j + 1 ∧ kdOf pl p.j = .alloc)) ∧ p.hi ≤ d.n := fun p hp => ⟨(hs.pcs p hp).1.imp id (fun h => ⟨by omega, h.2⟩), (hs.pcs p hp).2⟩
    have hbit' : kdOf pl j ≠ .pure → ∀ i, i < j → (kdOf pl i = .alloc ∨ kdOf pl i = .effect ∨ (kdOf pl i = .load ∧ kdOf pl j = .effect)) → Nat.testBit (pl.bef.getD j 0) i = true := by
      intro hp i hi hk
      obtain ⟨p, hpi⟩ := hall i hi
      exact hbit hp p i hpi hi hk
    have key : ∃ U, SelfOk P U ∧ ∃ d1, drawStep P U pl ro ops o j d = some d1 ∧ SeqInv pl (j + 1) d1 (e.put o.dst v) σ1 := by
      refine ⟨Self.none, selfOk_none, ?_⟩
      cases hk : kdOf pl j with
      | pure =>
        have hk1 : kindOp o = .pure := by rw [hkd (by rw [hk]; simp) (by rw [hk]; simp), hk]
        obtain ⟨rfl, hfree⟩ := pure_free hk1 hv
        refine ⟨{ d with e := d.e.put o.dst v }, ?_, ⟨by rw [hs.e], hs.n, ⟨i, b, rest, hb1, hb2.imp id (fun h => ⟨by omega, h.2⟩), hb3, hb4⟩, hpcs⟩⟩
        unfold drawStep
        rw [hb1]
        simp only
        rw [hs.e, hw, if_pos rfl]
        have hk' : pl.kinds.getD j .effect = .pure := hk
        rw [hk']
        simp only
        rw [hfree 0 ⟨0, .lf⟩]
        simp [hs.e, hb1]
      | alloc =>
        have hk1 : kindOp o = .alloc := by rw [hkd (by rw [hk]; simp) (by rw [hk]; simp), hk]
        obtain ⟨t, hfree, hcase⟩ := alloc_free hk1 hv
        refine ⟨⟨d.e.put o.dst v, σ1.n, d.bs, ⟨j, d.n, σ1.n, t⟩ :: d.pcs⟩, ?_, ⟨by rw [hs.e], rfl, ⟨i, b, rest, hb1, hb2.imp id (fun h => ⟨by omega, h.2⟩), ?_, hb4⟩, fun p hp => ?_⟩⟩
        · unfold drawStep
          rw [hb1]
          simp only
          rw [hs.e, hw, if_pos rfl]
          have hk' : pl.kinds.getD j .effect = .alloc := hk
          rw [hk']
          simp only
          rw [hs.n, hfree 0]
        · simp only [List.foldl_cons]
          rcases hcase with ⟨rfl, rfl⟩ | ⟨ob, rfl, rfl⟩
          · rw [overlay_none _ _ (by simp [hs.n]), hb3]
          · refine T.WF.ext (foldO_wf _ (overlay_wf hb4 _)) (hσw.set _ _) fun id => ?_
            have := foldO_set (n := σ.n) (ob := ob) d.pcs (overlay b ⟨j, d.n, (σ.add ob).n, T.lf.set σ.n ob⟩) b (fun p hp => by rw [← hs.n]; exact (hs.pcs p hp).2) (fun id => by
              rw [overlay_get, T.get_set, T.get_set]
              simp only [hs.n, St.n_add]
              by_cases hid : σ.n = id
              · subst hid; simp
              · rw [if_neg (by omega), if_neg hid]) id
            rw [this, hb3]
            rfl
        · rcases List.mem_cons.1 hp with rfl | hp
          · exact ⟨.inr ⟨by simp, hk⟩, Nat.le_refl _⟩
          · obtain ⟨h1, h2⟩ := hpcs p hp
            exact ⟨h1, by have := op_grown hv; rw [hs.n] at h2; exact Nat.le_trans h2 this⟩
      | load =>
        have hk1 : kindOp o = .load := by rw [hkd (by rw [hk]; simp) (by rw [hk]; simp), hk]
        obtain ⟨rfl, hfree⟩ := load_free hk1 hv
        have hseen := seen_eq (ops := ops) hs hb3 fun i hi h => hbit' (by rw [hk]; simp) i hi (h.imp id .inl)
        have hst : (⟨d.n, seen d.pcs (pl.bef.getD j 0) b⟩ : St) = σ1 := by rw [hseen, hs.n]
        refine ⟨{ d with e := d.e.put o.dst v }, ?_, ⟨by rw [hs.e], hs.n, ⟨i, b, rest, hb1, hb2.imp id (fun h => ⟨by omega, h.2⟩), hb3, hb4⟩, hpcs⟩⟩
        unfold drawStep
        rw [hb1]
        simp only
        rw [hs.e, hw, if_pos rfl]
        have hk' : pl.kinds.getD j .effect = .load := hk
        rw [hk']
        simp only
        rw [hst, hfree d.n]
        simp only
        rw [if_pos]
        refine ⟨hs.n.symm, ?_⟩
        rcases hb2 with rfl | ⟨h1, h2⟩
        · simp [loadBack]
        · rw [hbit' (by rw [hk]; simp) i h1 (.inr (.inl h2))]; rfl
      | call => exact (valCall_noval (hcl hk) hv).elim
      | effect =>
        refine eff_step hs hk hw htake (fun i hi h => hbit' (by rw [hk]; simp) i hi h) ?_ (op_wf hv hσw) (op_grown hv)
        unfold evX
        rw [hv]
    obtain ⟨U, hU, d1, h1, h2⟩ := key
    obtain ⟨SF, hSF, d', h3, h4⟩ := ih (j + 1) d1 hd h2
    obtain ⟨SF', h5, h6⟩ := draw_cons hU hSF h1 h3 hlt
    exact ⟨SF', h5, d', h6, h4⟩
  | @pcall o j l e σ e' σ' f args v hw hv hc h ih =>
    intro k d hl hs
    obtain ⟨hm, rfl, hd, htake, hall, hlt⟩ := hmem hl
    obtain ⟨hkd, hcl, hbit⟩ := seqOk_at hok hm
    obtain ⟨i, b, rest, hb1, hb2, hb3, hb4⟩ := hs.bs
    have hσw : σ.t.WF := hb3 ▸ foldO_wf _ hb4
    have hpcs : ∀ p ∈ d.pcs, (p.hi ≤ p.lo ∨ (p.j < j + 1 ∧ kdOf pl p.j = .alloc)) ∧ p.hi ≤ d.n := fun p hp => ⟨(hs.pcs p hp).1.imp id (fun h => ⟨by omega, h.2⟩), (hs.pcs p hp).2⟩
    have hbit' : kdOf pl j ≠ .pure → ∀ i, i < j → (kdOf pl i = .alloc ∨ kdOf pl i = .effect ∨ (kdOf pl i = .load ∧ kdOf pl j = .effect)) → Nat.testBit (pl.bef.getD j 0) i = true := by
      intro hp i hi hk
      obtain ⟨p, hpi⟩ := hall i hi
      exact hbit hp p i hpi hi hk
    have hcallv : ∀ ro', evX P (tab1 none f args σ v σ) ro' e o σ = some (v, σ) := by
      intro ro'
      unfold evX
      rw [enter_free hv ro' σ]
      simp [tab1]
    have hseen := seen_eq (ops := ops) hs hb3
    have key : ∃ U, SelfOk P U ∧ ∃ d1, drawStep P U pl ro ops o j d = some d1 ∧ SeqInv pl (j + 1) d1 (e.put o.dst v) σ := by
      refine ⟨tab1 none f args σ v σ, selfOk_tab fun ro' _ => hc ro', ?_⟩
      have hkk : kdOf pl j = .call ∨ kdOf pl j = .effect := by
        by_cases hcc : kdOf pl j = .call
        · exact .inl hcc
        · by_cases he : kdOf pl j = .effect
          · exact .inr he
          · have := hkd hcc he
            rcases enter_kind hv with h | h
            · rw [h] at this; exact absurd this.symm hcc
            · rw [h] at this; exact absurd this.symm he
      rcases hkk with hk | hk
      · refine ⟨⟨d.e.put o.dst v, d.n, d.bs, ⟨j, d.n, d.n, seen d.pcs (pl.bef.getD j 0) b⟩ :: d.pcs⟩, ?_, ⟨by rw [hs.e], hs.n, ⟨i, b, rest, hb1, hb2.imp id (fun h => ⟨by omega, h.2⟩), ?_, hb4⟩, fun p hp => ?_⟩⟩
        · unfold drawStep
          rw [hb1]
          simp only
          rw [hs.e, hw, if_pos rfl]
          have hk' : pl.kinds.getD j .effect = .call := hk
          rw [hk']
          simp only
          have hsn := hseen fun i hi h => hbit' (by rw [hk]; simp) i hi (h.imp id .inl)
          have hst : (⟨d.n, seen d.pcs (pl.bef.getD j 0) b⟩ : St) = σ := by rw [hsn, hs.n]
          rw [hst, hcallv, hsn]
          simp only [hs.n, hb1]
        · simp only [List.foldl_cons]
          rw [overlay_none _ _ (by simp), hb3]
        · rcases List.mem_cons.1 hp with rfl | hp
          · exact ⟨.inl (Nat.le_refl _), Nat.le_refl _⟩
          · exact hpcs p hp
      · exact eff_step hs hk hw htake (fun i hi h => hbit' (by rw [hk]; simp) i hi h) (hcallv ro) hσw (Nat.le_refl _)
    obtain ⟨U, hU, d1, h1, h2⟩ := key
    obtain ⟨SF, hSF, d', h3, h4⟩ := ih (j + 1) d1 hd h2
    obtain ⟨SF', h5, h6⟩ := draw_cons hU hSF h1 h3 hlt
    exact ⟨SF', h5, d', h6, h4⟩
  | @call o j l e σ e' σ' f args v σ1 hk hw hv hc hwf h ih =>
    intro k d hl hs
    obtain ⟨hm, rfl, hd, htake, hall, hlt⟩ := hmem hl
    obtain ⟨hkd, hcl, hbit⟩ := seqOk_at hok hm
    obtain ⟨i, b, rest, hb1, hb2, hb3, hb4⟩ := hs.bs
    have hσw : σ.t.WF := hb3 ▸ foldO_wf _ hb4
    have hbit' : kdOf pl j ≠ .pure → ∀ i, i < j → (kdOf pl i = .alloc ∨ kdOf pl i = .effect ∨ (kdOf pl i = .load ∧ kdOf pl j = .effect)) → Nat.testBit (pl.bef.getD j 0) i = true := by
      intro hp i hi hk
      obtain ⟨p, hpi⟩ := hall i hi
      exact hbit hp p i hpi hi hk
    obtain ⟨d1, h1, h2⟩ := eff_step (U := tab1 (some ro) f args σ v σ1) (v := v) (σ1 := σ1) hs hk hw htake (fun i hi h => hbit' (by rw [hk]; simp) i hi h) (by unfold evX; rw [hv]; simp [tab1]) (hwf hσw) hc.1
    obtain ⟨SF, hSF, d', h3, h4⟩ := ih (j + 1) d1 hd h2
    obtain ⟨SF', h5, h6⟩ := draw_cons (selfOk_tab (R := some ro) fun ro' hR => by rcases hR with hR | hR <;> cases hR; exact hc) hSF h1 h3 hlt
    exact ⟨SF', h5, d', h6, h4⟩
variable {rd : Option Nat} {fn : FuncId} {df : List Df} {e e' : Env} {σ' : St} {ops : Array Oper}
theorem SCode.draw {id : Nat} (hmix : P.follows .mixedOrders = true) (hpl : (planOf ops).ok = true) (hok : seqOk ops (planOf ops) = true) (hwf : σ.t.WF)
    (h : RunOps P ro ops (planOf ops) ops.toList.zipIdx e σ e' σ') : SCode P ro rd fn (.region id ops true) e df σ ⟨.normal, e', df, σ'⟩ := by
  obtain ⟨SF, hSF, d', h1, h2, h3, i, b, rest, h4, h5⟩ := draw_step hok h 0 ⟨e, σ.n, [(0, σ.t)], []⟩ (by simp) ⟨rfl, rfl, ⟨0, σ.t, [], rfl, .inl rfl, rfl, hwf⟩, fun p hp => by cases hp⟩
  have hev : evDrawF P SF ro ops e df σ = some ⟨.normal, e', df, σ'⟩ := by
    unfold evDrawF
    simp only
    rw [if_pos hpl, h1]
    obtain ⟨de, dn, dbs, dpcs⟩ := d'
    simp only at h2 h3 h4 h5
    subst h2 h4
    simp only [h3, h5]
  refine .mk (drawF_mono (fun i => (hSF i).2.2.1) (fun i => (hSF i).2.2.2) hev) (by simp) fun N hN F ι a w Q hF hi he hd hQ => ?_
  exact drawF_ok hmix (fun i => (hSF i).1) (fun i => (hSF i).2.1) (fun i => (hSF i).2.2.1) (fun i => (hSF i).2.2.2) N ro rd ops e df σ _ hev hN F ι a w Q id hF hi he hd hQ
theorem SOps.run {pl : Plan} {l : List (Oper × Nat)} (h : RunOps P ro ops pl l e σ e' σ') : SOps P ro rd ops (l.map (·.1)) e df σ ⟨.normal, e', df, σ'⟩ := by
  induction h with
  | nil e σ => exact .nil
  | skip hw h ih => exact .skip hw ih
  | val hw hv h ih => exact .val hw hv ih
  | pcall hw hv hc h ih => exact .call hw hv (hc _) ih
  | call hk hw hv hc hwf h ih => exact .call hw hv hc ih
theorem SCode.plain {id : Nat} {pl : Plan} (h : RunOps P ro ops pl ops.toList.zipIdx e σ e' σ') : SCode P ro rd fn (.region id ops false) e df σ ⟨.normal, e', df, σ'⟩ := by
  refine .region ?_
  have := SOps.run (rd := rd) (df := df) h
  rwa [show ops.toList.zipIdx.map (·.1) = ops.toList by simp] at this
end Go.Ev
namespace Go.Ev
attribute [local instance] eqSm
variable {P : Program} {ro : Nat} {σ : St} {ρ : Operand → IV} {o : Oper} {out : OpOut}
structure Trk where
  nt : Nat
  old : List Nat
  emp : List Nat
def memB (l : List Nat) (t : Nat) : Bool := l.any (Nat.beq t)
def isTmp (l : List Nat) : Operand → Bool
  | .tmp t => memB l t
  | _ => false
def Trk.del (T : Trk) : Option Nat → Trk
  | some d => ⟨T.nt, T.old.filter (fun t => !Nat.beq t d), T.emp.filter (fun t => !Nat.beq t d)⟩
  | none => T
def trk (T : Trk) (o : Oper) : Trk :=
  let D := T.del o.dst
  match o.guard, o.dst with
  | none, some d => if !Nat.blt d T.nt then D else match o.op with
    | .fieldAddr _ x _ => if isTmp T.old x then ⟨D.nt, d :: D.old, D.emp⟩ else D
    | .buildSlice _ 0 _ => ⟨D.nt, D.old, d :: D.emp⟩
    | _ => D
  | _, _ => D
def ordL (pl : Plan) (j : Nat) : Bool :=
  (List.range j).all fun i => Nat.testBit (pl.bef.getD j 0) i || (match pl.kinds.getD i .effect with | .alloc | .effect | .call => false | _ => true)
def ordE (pl : Plan) (j : Nat) : Bool :=
  (List.range j).all fun i => Nat.testBit (pl.bef.getD j 0) i || (match pl.kinds.getD i .effect with | .effect => false | _ => true)
def ordA (pl : Plan) (j : Nat) : Bool :=
  (List.range j).all fun i => Nat.testBit (pl.bef.getD j 0) i || (match pl.kinds.getD i .effect with | .pure => true | _ => false)
def appBase (o : Oper) : Option Operand :=
  match o.op with
  | .call { callee := .builtin .append, args, .. } => args.toList.head?
  | _ => none
def chkOp (pl : Plan) (T : Trk) (o : Oper) (j : Nat) : Bool :=
  match pl.kinds.getD j .effect with
  | .pure => kindOp o == .pure
  | .alloc => kindOp o == .alloc && ordL pl j
  | .load => kindOp o == .load && (ordL pl j || (ordE pl j && match o.op with | .load _ a => isTmp T.old a | _ => false))
  | .call => kindOp o == .call && ordL pl j && (valCall o || (match appBase o with | some a => isTmp T.emp a | none => false))
  | .effect => ordA pl j
def chkAll (pl : Plan) : List (Oper × Nat) → Trk → Bool
  | [], _ => true
  | (o, j) :: l, T => chkOp pl T o j && chkAll pl l (trk T o)
def OldV (n0 : Nat) (x : IV) : Prop := (∃ id off ep ext, x = .ptr id off ep ext ∧ id < n0) ∨ ∃ cs, x = .tptr cs
structure TInv (n0 : Nat) (e : Env) (T : Trk) : Prop where
  n : e.n = T.nt
  old : ∀ t, memB T.old t = true → OldV n0 (e.at t)
  emp : ∀ t, memB T.emp t = true → e.at t = .emp
theorem memB_filter {l : List Nat} {d t : Nat} (h : memB (l.filter fun t => !Nat.beq t d) t = true) : memB l t = true ∧ t ≠ d := by
  unfold memB at h ⊢
  rw [List.any_eq_true] at h ⊢
  obtain ⟨x, hx, hxt⟩ := h
  obtain ⟨h1, h2⟩ := List.mem_filter.1 hx
  have := Nat.eq_of_beq_eq_true hxt
  subst this
  exact ⟨⟨t, h1, by simp⟩, fun h => by subst h; simp at h2⟩
theorem memB_cons {l : List Nat} {d t : Nat} (h : memB (d :: l) t = true) : t = d ∨ memB l t = true := by
  unfold memB at h ⊢
  simp only [List.any_cons, Bool.or_eq_true] at h
  exact h.imp (fun h => Nat.eq_of_beq_eq_true h) id
theorem put_ne {e : Env} {d t : Nat} {v : IV} (h : t ≠ d) : (e.put (some d) v).at t = e.at t := by
  unfold Env.put Env.at
  simp only
  split
  · rw [T.get_set, if_neg (Ne.symm h)]
  · rfl
theorem put_same {e : Env} {d : Nat} {v : IV} (h : d < e.n) : (e.put (some d) v).at d = v := by
  unfold Env.put Env.at
  simp only
  rw [if_pos (by simpa using h), T.get_set, if_pos rfl]; rfl
theorem put_nn (e : Env) (d : Option Nat) (v : IV) : (e.put d v).n = e.n := by
  unfold Env.put
  split
  · rfl
  · split <;> rfl
theorem TInv.del {n0 : Nat} {e : Env} {T : Trk} (h : TInv n0 e T) (d : Option Nat) (v : IV) : TInv n0 (e.put d v) (T.del d) := by
  cases d with
  | none => exact h
  | some d =>
    refine ⟨by rw [put_nn]; exact h.n, fun t ht => ?_, fun t ht => ?_⟩
    · obtain ⟨h1, h2⟩ := memB_filter ht
      rw [put_ne h2]; exact h.old t h1
    · obtain ⟨h1, h2⟩ := memB_filter ht
      rw [put_ne h2]; exact h.emp t h1
theorem isTmp_old {n0 : Nat} {e : Env} {T : Trk} (h : TInv n0 e T) {x : Operand} (hx : isTmp T.old x = true) : OldV n0 (evalI e x) := by
  cases x with
  | tmp t => exact h.old t hx
  | _ => cases hx
theorem isTmp_emp {n0 : Nat} {e : Env} {T : Trk} (h : TInv n0 e T) {x : Operand} (hx : isTmp T.emp x = true) : evalI e x = .emp := by
  cases x with
  | tmp t => exact h.emp t hx
  | _ => cases hx
theorem TInv.step {n0 : Nat} {e : Env} {T : Trk} {v : IV} {σ1 : St} (h : TInv n0 e T) (hv : evOp P ro (evalI e) o σ = some (.val v σ1)) : TInv n0 (e.put o.dst v) (trk T o) := by
  have hd := h.del o.dst v
  unfold trk
  simp only
  split
  · rename_i d _ hdst
    split
    · exact hd
    · rename_i hlt
      have hlt' : d < e.n := by rw [h.n]; simpa using hlt
      split
      · rename_i s x f ho
        split
        · rename_i hx
          refine ⟨hd.n, fun t ht => ?_, hd.emp⟩
          rcases memB_cons ht with rfl | ht
          · rw [hdst, put_same hlt']
            have ho := isTmp_old h hx
            unfold evOp at hv
            rw [‹o.op = _›] at hv
            dsimp only at hv
            repeat' split at hv
            all_goals first | (cases hv; done) | skip
            · rename_i he _
              rcases ho with ⟨id', off', ep', ext', h1, h2⟩ | ⟨cs, h1⟩
              · rw [he] at h1; cases h1
                have := ret_val hv
                cases this
                exact .inl ⟨_, _, _, _, rfl, h2⟩
              · rw [he] at h1; cases h1
            · have := ret_val hv
              cases this
              exact .inr ⟨_, rfl⟩
          · exact hd.old t ht
        · exact hd
      · rename_i t0 parts ho
        refine ⟨hd.n, hd.old, fun t ht => ?_⟩
        rcases memB_cons ht with rfl | ht
        · rw [hdst, put_same hlt']
          unfold evOp at hv
          rw [ho] at hv
          dsimp only at hv
          repeat' split at hv
          all_goals first | (cases hv; done) | skip
          all_goals first | (have := ret_val hv; cases this; rfl) | (exfalso; omega) | skip
        · exact hd.emp t ht
      · exact hd
  · exact hd
theorem TInv.skip {n0 : Nat} {e : Env} {T : Trk} {v : IV} {ops : Array Oper} (h : TInv n0 e T) (hw : wantedI o ops e = false ∨ kindOp o = .call ∨ kindOp o = .effect) : TInv n0 (e.put o.dst v) (trk T o) := by
  have hd := h.del o.dst v
  unfold trk
  simp only
  split
  · rename_i d hg hdst
    rcases hw with hw | hw
    · unfold wantedI at hw
      rw [hg] at hw; cases hw
    · split
      · exact hd
      · unfold kindOp at hw
        split
        · rename_i ho; rw [ho] at hw; rcases hw with hw | hw <;> cases hw
        · rename_i ho; rw [ho] at hw; rcases hw with hw | hw <;> cases hw
        · exact hd
  · exact hd
theorem load_frame {n0 : Nat} {e : Env} {t : TypeId} {a : Operand} {v : IV} {σ1 : St} (ho : o.op = .load t a) (ha : OldV n0 (evalI e a)) (hv : evOp P ro (evalI e) o σ = some (.val v σ1)) {σ' : St} (hσ : ∀ id, id < n0 → σ'.at id = σ.at id) (ro' : Nat) :
    evOp P ro' (evalI e) o σ' = some (.val v σ') := by
  unfold evOp at hv ⊢
  rw [ho] at hv ⊢
  dsimp only at hv ⊢
  rcases ha with ⟨id, off, ep, ext, h1, h2⟩ | ⟨cs, h1⟩
  · rw [h1] at hv ⊢
    dsimp only at hv ⊢
    rw [hσ id h2]
    repeat' split at hv
    all_goals first | (cases hv; done) | skip
    have := ret_val hv
    cases this
    simp_all [ret]
  · rw [h1] at hv ⊢
    dsimp only at hv ⊢
    repeat' split at hv
    all_goals first | (cases hv; done) | skip
    have := ret_val hv
    cases this
    simp_all [ret]
theorem appEmp {e : Env} {a : Operand} {v : IV} {σ1 : St} (hb : appBase o = some a) (ha : evalI e a = .emp) (hv : evOp P ro (evalI e) o σ = some (.val v σ1)) : (∀ ro', evOp P ro' (evalI e) o σ = some (.val v σ1)) ∧ (σ1 = σ ∨ ∃ ob, σ1 = σ.add ob) := by
  unfold appBase at hb
  split at hb <;> first | (cases hb; done) | skip
  rename_i args ats hop
  unfold evOp at hv ⊢
  rw [hop] at hv ⊢
  dsimp only at hv ⊢
  unfold builtinI at hv ⊢
  split at hv
  · split at hv <;> first | (cases hv; done) | skip
    rename_i s x hargs
    have hs : s = .emp := by
      cases hl : args.toList with
      | nil => rw [hl] at hb; cases hb
      | cons y l =>
        rw [hl] at hb hargs
        simp only [List.head?_cons, Option.some.injEq] at hb
        subst hb
        simp only [List.map_cons, List.cons.injEq] at hargs
        rw [← hargs.1, ha]
    subst hs
    unfold appendI at hv ⊢
    repeat' split at hv
    all_goals first | (cases hv; done) | skip
    simp only [*]
    unfold appendTo at hv ⊢
    simp only at hv ⊢
    split at hv
    · have := ret_val hv
      cases this
      refine ⟨fun _ => ?_, .inl rfl⟩
      simp_all
    · refine ⟨fun _ => by simp_all, ?_⟩
      unfold appendNew at hv
      repeat' split at hv
      all_goals first | (cases hv; done) | skip
      have := ret_val hv
      cases this
      exact .inr ⟨_, rfl⟩
  all_goals (first | (exfalso; simp_all; done) | (simp_all; done))
theorem ordL_at {pl : Plan} {j i : Nat} (h : ordL pl j = true) (hi : i < j) (hk : kdOf pl i = .alloc ∨ kdOf pl i = .effect ∨ kdOf pl i = .call) : Nat.testBit (pl.bef.getD j 0) i = true := by
  have := List.all_eq_true.1 h i (List.mem_range.2 hi)
  simp only [Bool.or_eq_true] at this
  refine this.resolve_right fun hh => ?_
  unfold kdOf at hk
  rcases hk with hk | hk | hk <;> rw [hk] at hh <;> cases hh
theorem ordE_at {pl : Plan} {j i : Nat} (h : ordE pl j = true) (hi : i < j) (hk : kdOf pl i = .effect) : Nat.testBit (pl.bef.getD j 0) i = true := by
  have := List.all_eq_true.1 h i (List.mem_range.2 hi)
  simp only [Bool.or_eq_true] at this
  refine this.resolve_right fun hh => ?_
  unfold kdOf at hk
  rw [hk] at hh; cases hh
theorem ordA_at {pl : Plan} {j i : Nat} (h : ordA pl j = true) (hi : i < j) (hk : kdOf pl i ≠ .pure) : Nat.testBit (pl.bef.getD j 0) i = true := by
  have := List.all_eq_true.1 h i (List.mem_range.2 hi)
  simp only [Bool.or_eq_true] at this
  refine this.resolve_right fun hh => hk ?_
  unfold kdOf
  split at hh
  · assumption
  · cases hh
theorem foldO_low {n0 : Nat} : ∀ (l : List Piece) (b : T Ob), (∀ p ∈ l, n0 ≤ p.lo) → ∀ id, id < n0 → (l.foldl overlay b).get id = b.get id
  | [], _, _, _, _ => rfl
  | p :: l, b, h, id, hid => by
    rw [List.foldl_cons, foldO_low l _ (fun q hq => h q (List.mem_cons_of_mem _ hq)) id hid, overlay_get, if_neg]
    have := h p (List.mem_cons_self ..)
    omega
structure SeqInv2 (pl : Plan) (n0 j : Nat) (d : DS) (e : Env) (σ : St) : Prop where
  e : d.e = e
  n : d.n = σ.n
  le : n0 ≤ σ.n
  bs : ∃ i b rest, d.bs = (i, b) :: rest ∧ (rest = [] ∨ (i < j ∧ kdOf pl i = .effect)) ∧ d.pcs.foldl overlay b = σ.t ∧ b.WF
  pcs : ∀ p ∈ d.pcs, (p.hi ≤ p.lo ∨ (p.j < j ∧ (kdOf pl p.j = .alloc ∨ kdOf pl p.j = .call))) ∧ p.hi ≤ d.n ∧ n0 ≤ p.lo
variable {ops : Array Oper} {pl : Plan} {d : DS} {e e' : Env} {σ' : St} {j n0 : Nat}
theorem seen_eq2 {b : T Ob} (hs : SeqInv2 pl n0 j d e σ) (hb3 : d.pcs.foldl overlay b = σ.t) (ho : ordL pl j = true) : seen d.pcs (pl.bef.getD j 0) b = σ.t := by
  unfold seen
  rw [foldO_filter _ _ fun p hp => ?_, hb3]
  rcases (hs.pcs p hp).1 with h | ⟨h1, h2⟩
  · exact .inr h
  · exact .inl (ordL_at ho h1 (h2.elim .inl fun h => .inr (.inr h)))
theorem ordA_L (h : ordA pl j = true) : ordL pl j = true := by
  refine List.all_eq_true.2 fun i hi => ?_
  have := List.all_eq_true.1 h i hi
  simp only [Bool.or_eq_true] at this ⊢
  refine this.imp id fun h => ?_
  split at h
  · rename_i hk; rw [hk]
  · cases h
theorem recheck_all {bits : Nat} {e : Env} {n : Nat} {pcs : List Piece} {b : T Ob} {l : List (Oper × Nat)} (h : ∀ p i, (p, i) ∈ l → kdOf pl i = .load → Nat.testBit bits i = true) : recheck P pl ops bits e n pcs b l = true := by
  unfold recheck
  rw [List.all_eq_true]
  rintro ⟨p, q⟩ hpq
  simp only
  split
  · rename_i hld
    rw [h p q hpq hld]
    rfl
  · rfl
theorem eff_step2 {U : Self} {σ1 : St} {v : IV} (hs : SeqInv2 pl n0 j d e σ) (hk : kdOf pl j = .effect) (hw : wantedI o ops e = true) (htake : ∀ p i, (p, i) ∈ ops.toList.zipIdx.take j → (p, i) ∈ ops.toList.zipIdx ∧ i < j) (hA : ordA pl j = true)
    (hx : evX P U ro e o σ = some (v, σ1)) (hwf : σ1.t.WF) (hn : σ.n ≤ σ1.n) : ∃ d1, drawStep P U pl ro ops o j d = some d1 ∧ SeqInv2 pl n0 (j + 1) d1 (e.put o.dst v) σ1 := by
  obtain ⟨i, b, rest, hb1, hb2, hb3, hb4⟩ := hs.bs
  have hseen := seen_eq2 hs hb3 (ordA_L hA)
  have hst : (⟨d.n, seen d.pcs (pl.bef.getD j 0) b⟩ : St) = σ := by rw [hseen, hs.n]
  refine ⟨⟨e.put o.dst v, σ1.n, (j, σ1.t) :: d.bs, d.pcs.filter fun p => !Nat.testBit (pl.bef.getD j 0) p.j⟩, ?_, ⟨rfl, rfl, Nat.le_trans hs.le hn, ⟨j, σ1.t, d.bs, rfl, .inr ⟨by omega, hk⟩, ?_, hwf⟩, fun p hp => ?_⟩⟩
  · unfold drawStep
    rw [hb1]
    simp only
    rw [hs.e, hw, if_pos rfl]
    have hk' : pl.kinds.getD j .effect = .effect := hk
    rw [hk']
    simp only
    rw [hst, hx]
    simp only
    rw [if_pos (recheck_all fun p q hpq hld => ordA_at hA (htake p q hpq).2 (by rw [hld]; simp))]
  · refine foldO_out _ _ fun p hp hf => ?_
    rcases (hs.pcs p hp).1 with h | ⟨h1, h2⟩
    · exact h
    · rw [ordL_at (ordA_L hA) h1 (h2.elim .inl fun h => .inr (.inr h))] at hf; cases hf
  · have hp' := (List.mem_filter.1 hp).1
    obtain ⟨h1, h2, h3⟩ := hs.pcs p hp'
    exact ⟨h1.imp id (fun h => ⟨by omega, h.2⟩), by rw [hs.n] at h2; exact Nat.le_trans h2 hn, h3⟩
theorem draw_step2 {l : List (Oper × Nat)} (h : RunOps P ro ops pl l e σ e' σ') :
    ∀ (k : Nat) (d : DS) (T : Trk), ops.toList.zipIdx.drop k = l → SeqInv2 pl n0 k d e σ → chkAll pl l T = true → TInv n0 e T →
      ∃ SF : Nat → Self, (∀ i, SelfOk P (SF i)) ∧ ∃ d', drawAll P SF pl ro ops l d = some d' ∧ d'.e = e' ∧ d'.n = σ'.n ∧ ∃ i b rest, d'.bs = (i, b) :: rest ∧ d'.pcs.foldl overlay b = σ'.t := by
  have hmem : ∀ {o : Oper} {j : Nat} {l : List (Oper × Nat)} {k : Nat}, ops.toList.zipIdx.drop k = (o, j) :: l → j = k ∧ ops.toList.zipIdx.drop (k + 1) = l ∧
      (∀ p i, (p, i) ∈ ops.toList.zipIdx.take j → (p, i) ∈ ops.toList.zipIdx ∧ i < j) ∧ ∀ o' i, (o', i) ∈ l → i ≠ j := by
    intro o j l k h
    have h1 : (ops.toList.zipIdx.drop k)[0]? = some (o, j) := by rw [h]; rfl
    rw [List.getElem?_drop, Nat.add_zero] at h1
    rw [List.getElem?_zipIdx] at h1
    have hj : j = k := by
      cases hk : ops.toList[k]? with
      | none => rw [hk] at h1; cases h1
      | some o' => rw [hk] at h1; simp at h1; omega
    have hd1 : ops.toList.zipIdx.drop (k + 1) = l := by rw [← List.drop_drop (i := 1) (j := k), h]; rfl
    refine ⟨hj, hd1, fun p i hp => ⟨List.mem_of_mem_take hp, ?_⟩, fun o' i hi => ?_⟩
    · obtain ⟨m, hm, he⟩ := List.getElem_of_mem hp
      rw [List.length_take] at hm
      rw [List.getElem_take, List.getElem_zipIdx] at he
      cases he
      omega
    · rw [← hd1] at hi
      obtain ⟨m, hm, he⟩ := List.getElem_of_mem hi
      rw [List.getElem_drop, List.getElem_zipIdx] at he
      cases he
      omega
  induction h with
  | nil e σ =>
    intro k d T _ hs _ _
    obtain ⟨i, b, rest, h1, _, h3, _⟩ := hs.bs
    exact ⟨fun _ => Self.none, fun _ => selfOk_none, d, rfl, hs.e, hs.n, i, b, rest, h1, h3⟩
  | @skip o j l e σ e' σ' hw h ih =>
    intro k d T hl hs hc hT
    obtain ⟨rfl, hd, htake, hlt⟩ := hmem hl
    simp only [chkAll, Bool.and_eq_true] at hc
    obtain ⟨hc1, hc2⟩ := hc
    obtain ⟨i, b, rest, hb1, hb2, hb3, hb4⟩ := hs.bs
    have hpcs : ∀ p ∈ d.pcs, (p.hi ≤ p.lo ∨ (p.j < j + 1 ∧ (kdOf pl p.j = .alloc ∨ kdOf pl p.j = .call))) ∧ p.hi ≤ d.n ∧ n0 ≤ p.lo := fun p hp => ⟨(hs.pcs p hp).1.imp id (fun h => ⟨by omega, h.2⟩), (hs.pcs p hp).2⟩
    have key : ∃ U, SelfOk P U ∧ ∃ d1, drawStep P U pl ro ops o j d = some d1 ∧ SeqInv2 pl n0 (j + 1) d1 (e.put o.dst .undef) σ := by
      refine ⟨Self.none, selfOk_none, ?_⟩
      by_cases hk : kdOf pl j = .effect
      · refine ⟨⟨d.e.put o.dst .undef, d.n, (j, b) :: d.bs, d.pcs⟩, ?_, ⟨by rw [hs.e], hs.n, hs.le, ⟨j, b, d.bs, rfl, .inr ⟨by omega, hk⟩, hb3, hb4⟩, hpcs⟩⟩
        unfold drawStep
        rw [hb1]
        simp only
        rw [hs.e, hw, if_neg (by simp)]
        have hk' : pl.kinds.getD j .effect = .effect := hk
        have hA : ordA pl j = true := by unfold chkOp at hc1; rw [hk'] at hc1; exact hc1
        rw [hk']
        simp only
        rw [if_pos (recheck_all fun p q hpq hld => ordA_at hA (htake p q hpq).2 (by rw [hld]; simp))]
      · refine ⟨{ d with e := d.e.put o.dst .undef }, ?_, ⟨by rw [hs.e], hs.n, hs.le, ⟨i, b, rest, hb1, hb2.imp id (fun h => ⟨by omega, h.2⟩), hb3, hb4⟩, hpcs⟩⟩
        unfold drawStep
        rw [hb1]
        simp only
        rw [hs.e, hw, if_neg (by simp)]
        have hk' : pl.kinds.getD j .effect ≠ .effect := hk
        cases hq : pl.kinds.getD j .effect <;> first | exact absurd hq hk' | simp only
    obtain ⟨U, hU, d1, h1, h2⟩ := key
    obtain ⟨SF, hSF, d', h3, h4⟩ := ih (j + 1) d1 (trk T o) hd h2 hc2 (hT.skip (.inl hw))
    obtain ⟨SF', h5, h6⟩ := draw_cons hU hSF h1 h3 hlt
    exact ⟨SF', h5, d', h6, h4⟩
  | @val o j l e σ e' σ' v σ1 hw hv h ih =>
    intro k d T hl hs hc hT
    obtain ⟨rfl, hd, htake, hlt⟩ := hmem hl
    simp only [chkAll, Bool.and_eq_true] at hc
    obtain ⟨hc1, hc2⟩ := hc
    obtain ⟨i, b, rest, hb1, hb2, hb3, hb4⟩ := hs.bs
    have hσw : σ.t.WF := hb3 ▸ foldO_wf _ hb4
    have hpcs : ∀ p ∈ d.pcs, (p.hi ≤ p.lo ∨ (p.j < j + 1 ∧ (kdOf pl p.j = .alloc ∨ kdOf pl p.j = .call))) ∧ p.hi ≤ d.n ∧ n0 ≤ p.lo := fun p hp => ⟨(hs.pcs p hp).1.imp id (fun h => ⟨by omega, h.2⟩), (hs.pcs p hp).2⟩
    -- One object more, or none.
    have one : ∀ (t : Go.Ev.T Ob), ((σ1 = σ) ∨ ∃ ob, σ1 = σ.add ob ∧ t.get σ.n = some ob) → (kdOf pl j = .alloc ∨ kdOf pl j = .call) →
        SeqInv2 pl n0 (j + 1) ⟨d.e.put o.dst v, σ1.n, d.bs, ⟨j, d.n, σ1.n, t⟩ :: d.pcs⟩ (e.put o.dst v) σ1 := by
      intro t hcase hk
      refine ⟨by rw [hs.e], rfl, Nat.le_trans hs.le (op_grown hv), ⟨i, b, rest, hb1, hb2.imp id (fun h => ⟨by omega, h.2⟩), ?_, hb4⟩, fun p hp => ?_⟩
      · simp only [List.foldl_cons]
        rcases hcase with rfl | ⟨ob, rfl, ht⟩
        · rw [overlay_none _ _ (by simp [hs.n]), hb3]
        · refine Go.Ev.T.WF.ext (foldO_wf _ (overlay_wf hb4 _)) (hσw.set _ _) fun id => ?_
          have := foldO_set (n := σ.n) (ob := ob) d.pcs (overlay b ⟨j, d.n, (σ.add ob).n, t⟩) b (fun p hp => by rw [← hs.n]; exact (hs.pcs p hp).2.1) (fun id => by
            rw [overlay_get, Go.Ev.T.get_set]
            simp only [hs.n, St.n_add]
            by_cases hid : σ.n = id
            · subst hid; simp [ht]
            · rw [if_neg (by omega), if_neg hid]) id
          rw [this, hb3]
          rfl
      · rcases List.mem_cons.1 hp with rfl | hp
        · exact ⟨.inr ⟨by simp, hk⟩, Nat.le_refl _, by show n0 ≤ d.n; rw [hs.n]; exact hs.le⟩
        · obtain ⟨h1, h2, h3⟩ := hpcs p hp
          exact ⟨h1, by have := op_grown hv; rw [hs.n] at h2; exact Nat.le_trans h2 this, h3⟩
    have key : ∃ U, SelfOk P U ∧ ∃ d1, drawStep P U pl ro ops o j d = some d1 ∧ SeqInv2 pl n0 (j + 1) d1 (e.put o.dst v) σ1 := by
      refine ⟨Self.none, selfOk_none, ?_⟩
      cases hk : kdOf pl j with
      | pure =>
        have hk' : pl.kinds.getD j .effect = .pure := hk
        unfold chkOp at hc1
        rw [hk'] at hc1
        have hk1 : kindOp o = .pure := by simpa using hc1
        obtain ⟨rfl, hfree⟩ := pure_free hk1 hv
        refine ⟨{ d with e := d.e.put o.dst v }, ?_, ⟨by rw [hs.e], hs.n, hs.le, ⟨i, b, rest, hb1, hb2.imp id (fun h => ⟨by omega, h.2⟩), hb3, hb4⟩, hpcs⟩⟩
        unfold drawStep
        rw [hb1]
        simp only
        rw [hs.e, hw, if_pos rfl]
        rw [hk']
        simp only
        rw [hfree 0 ⟨0, .lf⟩]
        simp [hs.e, hb1]
      | alloc =>
        have hk' : pl.kinds.getD j .effect = .alloc := hk
        unfold chkOp at hc1
        rw [hk'] at hc1
        simp only [Bool.and_eq_true, beq_iff_eq] at hc1
        obtain ⟨t, hfree, hcase⟩ := alloc_free hc1.1 hv
        refine ⟨⟨d.e.put o.dst v, σ1.n, d.bs, ⟨j, d.n, σ1.n, t⟩ :: d.pcs⟩, ?_, one t (hcase.imp (fun h => h.1) fun ⟨ob, h1, h2⟩ => ⟨ob, h1, by rw [h2, Go.Ev.T.get_set, if_pos rfl]⟩) (.inl hk)⟩
        unfold drawStep
        rw [hb1]
        simp only
        rw [hs.e, hw, if_pos rfl]
        rw [hk']
        simp only
        rw [hs.n, hfree 0]
      | load =>
        have hk' : pl.kinds.getD j .effect = .load := hk
        unfold chkOp at hc1
        rw [hk'] at hc1
        simp only [Bool.and_eq_true, beq_iff_eq, Bool.or_eq_true] at hc1
        obtain ⟨hk1, hc1⟩ := hc1
        obtain ⟨rfl, hfree⟩ := load_free hk1 hv
        have hev : evOp P d.n (evalI e) o ⟨d.n, seen d.pcs (pl.bef.getD j 0) b⟩ = some (.val v ⟨d.n, seen d.pcs (pl.bef.getD j 0) b⟩) := by
          rcases hc1 with ho | ⟨_, ho⟩
          · have hseen := seen_eq2 hs hb3 ho
            have hst : (⟨d.n, seen d.pcs (pl.bef.getD j 0) b⟩ : St) = σ1 := by rw [hseen, hs.n]
            rw [hst]; exact hfree d.n
          · split at ho <;> first | (cases ho; done) | skip
            rename_i t a hop
            refine load_frame hop (isTmp_old hT ho) hv (fun id hid => ?_) d.n
            show (seen d.pcs (pl.bef.getD j 0) b).get id = σ1.t.get id
            unfold seen
            rw [← hb3, foldO_low _ _ (fun p hp => (hs.pcs p (List.mem_filter.1 hp).1).2.2) id hid, foldO_low _ _ (fun p hp => (hs.pcs p hp).2.2) id hid]
        have hback : (Nat.testBit (pl.bef.getD j 0) i || loadBack P e o d.n v d.pcs (pl.bef.getD j 0) rest) = true := by
          rcases hb2 with rfl | ⟨h1, h2⟩
          · simp [loadBack]
          · have : Nat.testBit (pl.bef.getD j 0) i = true := by
              rcases hc1 with ho | ⟨ho, _⟩
              · exact ordL_at ho h1 (.inr (.inl h2))
              · exact ordE_at ho h1 h2
            rw [this]; rfl
        refine ⟨{ d with e := d.e.put o.dst v }, ?_, ⟨by rw [hs.e], hs.n, hs.le, ⟨i, b, rest, hb1, hb2.imp id (fun h => ⟨by omega, h.2⟩), hb3, hb4⟩, hpcs⟩⟩
        unfold drawStep
        rw [hb1]
        simp only
        rw [hs.e, hw, if_pos rfl]
        rw [hk']
        simp only
        rw [hev]
        simp only
        rw [if_pos ⟨trivial, hback⟩]
      | call =>
        have hk' : pl.kinds.getD j .effect = .call := hk
        unfold chkOp at hc1
        rw [hk'] at hc1
        simp only [Bool.and_eq_true, Bool.or_eq_true] at hc1
        obtain ⟨⟨_, ho⟩, hc1⟩ := hc1
        rcases hc1 with hc1 | hc1
        · exact (valCall_noval hc1 hv).elim
        · split at hc1 <;> first | (cases hc1; done) | skip
          rename_i a hb
          obtain ⟨hfree, hcase⟩ := appEmp hb (isTmp_emp hT hc1) hv
          have hseen := seen_eq2 hs hb3 ho
          have hst : (⟨d.n, seen d.pcs (pl.bef.getD j 0) b⟩ : St) = σ := by rw [hseen, hs.n]
          refine ⟨⟨d.e.put o.dst v, σ1.n, d.bs, ⟨j, d.n, σ1.n, σ1.t⟩ :: d.pcs⟩, ?_, one σ1.t (hcase.imp id fun ⟨ob, h1⟩ => ⟨ob, h1, by rw [h1]; exact (by simp [St.add, Go.Ev.T.get_set])⟩) (.inr hk)⟩
          unfold drawStep
          rw [hb1]
          simp only
          rw [hs.e, hw, if_pos rfl]
          rw [hk']
          simp only
          rw [hst]
          unfold evX
          rw [hfree d.n]
      | effect =>
        have hk' : pl.kinds.getD j .effect = .effect := hk
        have hA : ordA pl j = true := by unfold chkOp at hc1; rw [hk'] at hc1; exact hc1
        refine eff_step2 hs hk hw htake hA ?_ (op_wf hv hσw) (op_grown hv)
        unfold evX
        rw [hv]
    obtain ⟨U, hU, d1, h1, h2⟩ := key
    obtain ⟨SF, hSF, d', h3, h4⟩ := ih (j + 1) d1 (trk T o) hd h2 hc2 (hT.step hv)
    obtain ⟨SF', h5, h6⟩ := draw_cons hU hSF h1 h3 hlt
    exact ⟨SF', h5, d', h6, h4⟩
  | @pcall o j l e σ e' σ' f args v hw hv hcl h ih =>
    intro k d T hl hs hc hT
    obtain ⟨rfl, hd, htake, hlt⟩ := hmem hl
    simp only [chkAll, Bool.and_eq_true] at hc
    obtain ⟨hc1, hc2⟩ := hc
    obtain ⟨i, b, rest, hb1, hb2, hb3, hb4⟩ := hs.bs
    have hσw : σ.t.WF := hb3 ▸ foldO_wf _ hb4
    have hpcs : ∀ p ∈ d.pcs, (p.hi ≤ p.lo ∨ (p.j < j + 1 ∧ (kdOf pl p.j = .alloc ∨ kdOf pl p.j = .call))) ∧ p.hi ≤ d.n ∧ n0 ≤ p.lo := fun p hp => ⟨(hs.pcs p hp).1.imp id (fun h => ⟨by omega, h.2⟩), (hs.pcs p hp).2⟩
    have hcallv : ∀ ro', evX P (tab1 none f args σ v σ) ro' e o σ = some (v, σ) := by
      intro ro'
      unfold evX
      rw [enter_free hv ro' σ]
      simp [tab1]
    have hek := enter_kind hv
    have key : ∃ U, SelfOk P U ∧ ∃ d1, drawStep P U pl ro ops o j d = some d1 ∧ SeqInv2 pl n0 (j + 1) d1 (e.put o.dst v) σ := by
      refine ⟨tab1 none f args σ v σ, selfOk_tab fun ro' _ => hcl ro', ?_⟩
      cases hk : kdOf pl j with
      | pure =>
        have hk' : pl.kinds.getD j .effect = .pure := hk
        unfold chkOp at hc1; rw [hk'] at hc1
        have hk1 : kindOp o = .pure := by simpa using hc1
        rw [hk1] at hek; rcases hek with hek | hek <;> cases hek
      | alloc =>
        have hk' : pl.kinds.getD j .effect = .alloc := hk
        unfold chkOp at hc1; rw [hk'] at hc1
        simp only [Bool.and_eq_true, beq_iff_eq] at hc1
        rw [hc1.1] at hek; rcases hek with hek | hek <;> cases hek
      | load =>
        have hk' : pl.kinds.getD j .effect = .load := hk
        unfold chkOp at hc1; rw [hk'] at hc1
        simp only [Bool.and_eq_true, beq_iff_eq] at hc1
        rw [hc1.1] at hek; rcases hek with hek | hek <;> cases hek
      | call =>
        have hk' : pl.kinds.getD j .effect = .call := hk
        unfold chkOp at hc1; rw [hk'] at hc1
        simp only [Bool.and_eq_true] at hc1
        have hsn := seen_eq2 hs hb3 hc1.1.2
        refine ⟨⟨d.e.put o.dst v, d.n, d.bs, ⟨j, d.n, d.n, seen d.pcs (pl.bef.getD j 0) b⟩ :: d.pcs⟩, ?_, ⟨by rw [hs.e], hs.n, hs.le, ⟨i, b, rest, hb1, hb2.imp id (fun h => ⟨by omega, h.2⟩), ?_, hb4⟩, fun p hp => ?_⟩⟩
        · unfold drawStep
          rw [hb1]
          simp only
          rw [hs.e, hw, if_pos rfl]
          rw [hk']
          simp only
          have hst : (⟨d.n, seen d.pcs (pl.bef.getD j 0) b⟩ : St) = σ := by rw [hsn, hs.n]
          rw [hst, hcallv, hsn]
          simp only [hs.n, hb1]
        · simp only [List.foldl_cons]
          rw [overlay_none _ _ (by simp), hb3]
        · rcases List.mem_cons.1 hp with rfl | hp
          · exact ⟨.inl (Nat.le_refl _), Nat.le_refl _, by show n0 ≤ d.n; rw [hs.n]; exact hs.le⟩
          · exact hpcs p hp
      | effect =>
        have hk' : pl.kinds.getD j .effect = .effect := hk
        have hA : ordA pl j = true := by unfold chkOp at hc1; rw [hk'] at hc1; exact hc1
        exact eff_step2 hs hk hw htake hA (hcallv ro) hσw (Nat.le_refl _)
    obtain ⟨U, hU, d1, h1, h2⟩ := key
    obtain ⟨SF, hSF, d', h3, h4⟩ := ih (j + 1) d1 (trk T o) hd h2 hc2 (hT.skip (ops := ops) (.inr hek))
    obtain ⟨SF', h5, h6⟩ := draw_cons hU hSF h1 h3 hlt
    exact ⟨SF', h5, d', h6, h4⟩
  | @call o j l e σ e' σ' f args v σ1 hk hw hv hcl hwf h ih =>
    intro k d T hl hs hc hT
    obtain ⟨rfl, hd, htake, hlt⟩ := hmem hl
    simp only [chkAll, Bool.and_eq_true] at hc
    obtain ⟨hc1, hc2⟩ := hc
    obtain ⟨i, b, rest, hb1, hb2, hb3, hb4⟩ := hs.bs
    have hσw : σ.t.WF := hb3 ▸ foldO_wf _ hb4
    have hk' : pl.kinds.getD j .effect = .effect := hk
    have hA : ordA pl j = true := by unfold chkOp at hc1; rw [hk'] at hc1; exact hc1
    obtain ⟨d1, h1, h2⟩ := eff_step2 (U := tab1 (some ro) f args σ v σ1) (v := v) (σ1 := σ1) hs hk hw htake hA (by unfold evX; rw [hv]; simp [tab1]) (hwf hσw) hcl.1
    obtain ⟨SF, hSF, d', h3, h4⟩ := ih (j + 1) d1 (trk T o) hd h2 hc2 (hT.skip (ops := ops) (.inr (enter_kind hv)))
    obtain ⟨SF', h5, h6⟩ := draw_cons (selfOk_tab (R := some ro) fun ro' hR => by rcases hR with hR | hR <;> cases hR; exact hcl) hSF h1 h3 hlt
    exact ⟨SF', h5, d', h6, h4⟩
variable {rd : Option Nat} {fn : FuncId} {df : List Df}
theorem SCode.draw2 {id : Nat} {T : Trk} (hmix : P.follows .mixedOrders = true) (hpl : (planOf ops).ok = true) (hok : chkAll (planOf ops) ops.toList.zipIdx T = true) (hT : TInv σ.n e T) (hwf : σ.t.WF)
    (h : RunOps P ro ops (planOf ops) ops.toList.zipIdx e σ e' σ') : SCode P ro rd fn (.region id ops true) e df σ ⟨.normal, e', df, σ'⟩ := by
  obtain ⟨SF, hSF, d', h1, h2, h3, i, b, rest, h4, h5⟩ := draw_step2 (n0 := σ.n) h 0 ⟨e, σ.n, [(0, σ.t)], []⟩ T (by simp) ⟨rfl, rfl, Nat.le_refl _, ⟨0, σ.t, [], rfl, .inl rfl, rfl, hwf⟩, fun p hp => by cases hp⟩ hok hT
  have hev : evDrawF P SF ro ops e df σ = some ⟨.normal, e', df, σ'⟩ := by
    unfold evDrawF
    simp only
    rw [if_pos hpl, h1]
    obtain ⟨de, dn, dbs, dpcs⟩ := d'
    simp only at h2 h3 h4 h5
    subst h2 h4
    simp only [h3, h5]
  refine .mk (drawF_mono (fun i => (hSF i).2.2.1) (fun i => (hSF i).2.2.2) hev) (by simp) fun N hN F ι a w Q hF hi he hd hQ => ?_
  exact drawF_ok hmix (fun i => (hSF i).1) (fun i => (hSF i).2.1) (fun i => (hSF i).2.2.1) (fun i => (hSF i).2.2.2) N ro rd ops e df σ _ hev hN F ι a w Q id hF hi he hd hQ
end Go.Ev
