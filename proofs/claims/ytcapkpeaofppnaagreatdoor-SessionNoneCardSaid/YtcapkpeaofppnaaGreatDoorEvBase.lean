/- A part of the verified evaluator of closed runs (EvBase): lemmas and definitions over the model, without conditions of their own. -/
import Derived.Test.YtcapkpeaofppnaaGreatDoorEvDef
namespace Go.Ev

namespace T
variable {α : Type}
theorem get_nd (l : T α) (v : Option α) (r : T α) (i : Nat) : (T.nd l v r).get i = if i = 0 then v else if i % 2 = 1 then l.get (i / 2) else r.get (i / 2 - 1) := by
  simp [get, Nat.beq_eq]
theorem setF_nd (f : Nat) (l : T α) (v : Option α) (r : T α) (i : Nat) (x : α) : setF (f + 1) (T.nd l v r) i x =
    if i = 0 then .nd l (some x) r else if i % 2 = 1 then .nd (setF f l (i / 2) x) v r else .nd l v (setF f r (i / 2 - 1) x) := by
  simp [setF, Nat.beq_eq]
theorem setF_lf (f : Nat) (i : Nat) (x : α) : setF (f + 1) (.lf : T α) i x = setF (f + 1) (.nd .lf none .lf) i x := by
  simp [setF]
theorem get_lf' (i : Nat) : (T.lf : T α).get i = (T.nd .lf none .lf : T α).get i := by
  rw [get_nd]; simp [get]
theorem get_setF : ∀ (f : Nat) (t : T α) (i : Nat) (x : α) (j : Nat), i < f → (setF f t i x).get j = if i = j then some x else t.get j := by
  intro f
  induction f with
  | zero => intro t i x j h; omega
  | succ f ih =>
    intro t i x j h
    have key : ∀ (l : T α) (v : Option α) (r : T α), (setF (f + 1) (.nd l v r) i x).get j = if i = j then some x else (T.nd l v r).get j := by
      intro l v r
      rw [setF_nd, get_nd]
      by_cases hi : i = 0
      · subst hi
        rw [if_pos rfl, get_nd]
        by_cases hj : j = 0
        · subst hj; simp
        · have : ¬ 0 = j := fun h => hj h.symm
          simp [hj, this]
      · rw [if_neg hi]
        by_cases ho : i % 2 = 1
        · rw [if_pos ho, get_nd]
          by_cases hj : j = 0
          · subst hj; simp [hi]
          · by_cases hoj : j % 2 = 1
            · simp only [hj, hoj, if_false, if_true]
              rw [ih _ _ _ _ (by omega)]
              by_cases e : i = j
              · simp [e]
              · have : i / 2 ≠ j / 2 := by omega
                simp [e, this]
            · have : i ≠ j := by omega
              simp [hj, hoj, this]
        · rw [if_neg ho, get_nd]
          by_cases hj : j = 0
          · subst hj; simp [hi]
          · by_cases hoj : j % 2 = 1
            · have : i ≠ j := by omega
              simp [hj, hoj, this]
            · simp only [hj, hoj, if_false]
              rw [ih _ _ _ _ (by omega)]
              by_cases e : i = j
              · simp [e]
              · have : i / 2 - 1 ≠ j / 2 - 1 := by omega
                simp [e, this]
    cases t with
    | lf => rw [setF_lf, key, get_lf']
    | nd l v r => exact key l v r
theorem get_set (t : T α) (i : Nat) (x : α) (j : Nat) : (t.set i x).get j = if i = j then some x else t.get j := get_setF _ _ _ _ _ (by omega)
@[simp] theorem get_lf (j : Nat) : (T.lf : T α).get j = none := rfl
end T

theorem pureRun_run {α : Type} {P : Program} (w : World) : ∀ (s : Sem α) {a : α}, pureRun P s = some a → s.run P w = .ok a w
  | .pure _, _, h => by simp only [pureRun, Option.some.injEq] at h; subst h; rfl
  | .program k, _, h => by simp only [pureRun] at h; simp only [Sem.run]; exact pureRun_run w (k P) h
  | .mark m k, _, h => by simp only [pureRun] at h; simp only [Sem.run]; exact pureRun_run w k h
  | .load .., _, h | .store .., _, h | .new .., _, h | .shape .., _, h | .freeze .., _, h | .frozen .., _, h | .getObj .., _, h | .setObj .., _, h | .choose .., _, h | .sys .., _, h | .halt .., _, h => by cases h

/-- Where an object lies: its block, how many cells of it are known, how many there are. -/
structure Loc where
  b : Nat
  n : Nat
  lim : Nat
/-- Blocks that nobody writes, with their cells. -/
abbrev Fz := Nat → Option (Array Value)
/-- Where the objects lie; and the blocks that nobody writes. -/
structure Io where
  f : Nat → Nat → Option Loc
  m : Fz
instance : CoeFun Io (fun _ => Nat → Nat → Option Loc) := ⟨Io.f⟩
structure Ext (ι ι' : Io) : Prop where
  f : ∀ id e l, ι id e = some l → ι' id e = some l
  m : ∀ b c, ι.m b = some c → ι'.m b = some c
instance {ι ι' : Io} : CoeFun (Ext ι ι') (fun _ => ∀ id e l, ι id e = some l → ι' id e = some l) := ⟨Ext.f⟩
theorem Ext.refl (ι : Io) : Ext ι ι := ⟨fun _ _ _ h => h, fun _ _ h => h⟩
theorem Ext.trans {ι ι1 ι2 : Io} (h : Ext ι ι1) (k : Ext ι1 ι2) : Ext ι ι2 := ⟨fun _ _ _ x => k.f _ _ _ (h.f _ _ _ x), fun _ _ x => k.m _ _ (h.m _ _ x)⟩
def cellM (M : Fz) (b off : Nat) : Option Value := (M b).bind (·[off]?)
theorem cellM_mono {M M' : Fz} (h : ∀ b c, M b = some c → M' b = some c) {b off : Nat} {v : Value} (hc : cellM M b off = some v) : cellM M' b off = some v := by
  unfold cellM at hc ⊢
  cases hb : M b with
  | none => rw [hb] at hc; cases hc
  | some c => rw [hb] at hc; rw [h b c hb]; exact hc

/-- An ideal value and a value of the model. -/
inductive Rv (ι : Io) : IV → Value → Prop
  | raw (v : Value) : Rv ι (.raw v) v
  | agg (cs : List IV) (vs : List Value) (hl : cs.length = vs.length) (h : ∀ (i : Nat) (c : IV) (v : Value), cs[i]? = some c → vs[i]? = some v → Rv ι c v) : Rv ι (.agg cs) (.agg vs.toArray)
  | tup (cs : List IV) (vs : List Value) (hl : cs.length = vs.length) (h : ∀ (i : Nat) (c : IV) (v : Value), cs[i]? = some c → vs[i]? = some v → Rv ι c v) : Rv ι (.tup cs) (.tuple vs.toArray)
  | ptr (id off ep ext : Nat) (l : Loc) (hl : ι id ep = some l) (hx : off + ext ≤ l.n ∧ off + ext ≤ l.lim) : Rv ι (.ptr id off ep ext) (.pointer (some ⟨l.b, off, none⟩))
  | sl (id off len : Nat) (cap : Option Nat) (ep s : Nat) (l : Loc) (c : Nat) (a : Addr) (hl : ι id ep = some l) (hn : off + len * s ≤ l.n) (hlim : off + c * s ≤ l.lim) (hs : 0 < s) (hle : len ≤ c)
      (hcap : ∀ k, cap = some k → c = k ∧ off + c * s ≤ l.n) (ha : 0 < c → a = ⟨l.b, off, none⟩) : Rv ι (.sl id off len cap ep s) (.slice (some a) len c)
  | emp (a : Addr) : Rv ι .emp (.slice (some a) 0 0)
  | map (id : Nat) (l : Loc) (hl : ι id 0 = some l) : Rv ι (.map id) (.map (some l.b))
  | fn (f : Fn) (as bs : List IV) (cs ds : List Value) (hl : as.length = cs.length) (h : ∀ (i : Nat) (c : IV) (v : Value), as[i]? = some c → cs[i]? = some v → Rv ι c v)
      (hl2 : bs.length = ds.length) (h2 : ∀ (i : Nat) (c : IV) (v : Value), bs[i]? = some c → ds[i]? = some v → Rv ι c v) : Rv ι (.fn f as bs) (.func f cs.toArray ds.toArray)
  | yld (id : Nat) (l : Loc) (hl : ι id 0 = some l) : Rv ι (.yld id) (.func (.yield l.b) #[] #[])
  | ifc (t : TypeId) (x : IV) (v : Value) (h : Rv ι x v) : Rv ι (.ifc t x) (.iface t v)
  | tree (s : Nat) (es : List IV) (b off c : Nat) (us : Nat → Value) (hs : 0 < s) (hc : es.length ≤ c) (hcs : ∀ e ∈ es, (cellsOf e).length = s)
      (hu : ∀ k, k < es.length * s → cellM ι.m b (off + k) = some (us k)) (h : ∀ (i : Nat) (e : IV) (j : Nat) (c : IV), es[i]? = some e → (cellsOf e)[j]? = some c → Rv ι c (us (i * s + j))) :
      Rv ι (.tree s es) (.slice (some ⟨b, off, none⟩) es.length c)
  /-- No elements: nil, or an empty slice. -/
  | treeE (s : Nat) (a : Option Addr) (c : Nat) (hs : 0 < s) (hn : a = none → c = 0) : Rv ι (.tree s []) (.slice a 0 c)
  | tptr (cs : List IV) (b off : Nat) (us : Nat → Value) (hu : ∀ k, k < cs.length → cellM ι.m b (off + k) = some (us k)) (h : ∀ (j : Nat) (c : IV), cs[j]? = some c → Rv ι c (us j)) :
      Rv ι (.tptr cs) (.pointer (some ⟨b, off, none⟩))

theorem Rv.mono {ι ι' : Io} (hι : Ext ι ι') {x : IV} {v : Value} (h : Rv ι x v) : Rv ι' x v := by
  induction h with
  | raw v => exact .raw v
  | agg cs vs hl _ ih => exact .agg cs vs hl ih
  | tup cs vs hl _ ih => exact .tup cs vs hl ih
  | ptr id off ep ext l hl hx => exact .ptr id off ep ext l (hι _ _ _ hl) hx
  | sl id off len cap ep s l c a hl hn hlim hs hle hcap ha => exact .sl id off len cap ep s l c a (hι _ _ _ hl) hn hlim hs hle hcap ha
  | emp a => exact .emp a
  | map id l hl => exact .map id l (hι _ _ _ hl)
  | fn f as bs cs ds hl _ hl2 _ ih ih2 => exact .fn f as bs cs ds hl ih hl2 ih2
  | yld id l hl => exact .yld id l (hι _ _ _ hl)
  | ifc t x v _ ih => exact .ifc t x v ih
  | tree s es b off c us hs hc hcs hu _ ih => exact .tree s es b off c us hs hc hcs (fun k hk => cellM_mono hι.m (hu k hk)) ih
  | treeE s a c hs hn => exact .treeE s a c hs hn
  | tptr cs b off us hu _ ih => exact .tptr cs b off us (fun k hk => cellM_mono hι.m (hu k hk)) ih

/-- Lists, element by element. -/
def RvL (ι : Io) (cs : List IV) (vs : List Value) : Prop := cs.length = vs.length ∧ ∀ (i : Nat) (c : IV) (v : Value), cs[i]? = some c → vs[i]? = some v → Rv ι c v

section lists
variable {ι : Io}
theorem RvL.mono {ι' : Io} (hι : Ext ι ι') {cs : List IV} {vs : List Value} (h : RvL ι cs vs) : RvL ι' cs vs :=
  ⟨h.1, fun i c v h1 h2 => (h.2 i c v h1 h2).mono hι⟩
theorem RvL.nil : RvL ι [] [] := ⟨rfl, fun i c v h _ => by simp at h⟩
theorem RvL.cons {c : IV} {v : Value} {cs : List IV} {vs : List Value} (h : Rv ι c v) (hs : RvL ι cs vs) : RvL ι (c :: cs) (v :: vs) := by
  refine ⟨by simp [hs.1], fun i => ?_⟩
  cases i with
  | zero => intro c' v' h1 h2; simp at h1 h2; subst h1 h2; exact h
  | succ i => intro c' v' h1 h2; simp at h1 h2; exact hs.2 i c' v' h1 h2
theorem RvL.uncons {c : IV} {cs : List IV} {vs : List Value} (h : RvL ι (c :: cs) vs) : ∃ v vs', vs = v :: vs' ∧ Rv ι c v ∧ RvL ι cs vs' := by
  cases vs with
  | nil => simp [RvL] at h
  | cons v vs' => exact ⟨v, vs', rfl, h.2 0 c v rfl rfl, by simpa [RvL] using h.1, fun i c' v' h1 h2 => h.2 (i + 1) c' v' h1 h2⟩
theorem RvL.of_nil {vs : List Value} (h : RvL ι [] vs) : vs = [] := List.eq_nil_of_length_eq_zero h.1.symm
theorem RvL.append {cs ds : List IV} {vs us : List Value} (h : RvL ι cs vs) (k : RvL ι ds us) : RvL ι (cs ++ ds) (vs ++ us) := by
  refine ⟨by simp [h.1, k.1], fun i c v h1 h2 => ?_⟩
  by_cases hi : i < cs.length
  · rw [List.getElem?_append_left hi] at h1
    rw [List.getElem?_append_left (h.1 ▸ hi)] at h2
    exact h.2 i c v h1 h2
  · rw [List.getElem?_append_right (by omega)] at h1
    rw [List.getElem?_append_right (by have := h.1; omega), ← h.1] at h2
    exact k.2 _ c v h1 h2
theorem RvL.drop (n : Nat) {cs : List IV} {vs : List Value} (h : RvL ι cs vs) : RvL ι (cs.drop n) (vs.drop n) :=
  ⟨by simp [h.1], fun i c v h1 h2 => h.2 (n + i) c v (by simpa using h1) (by simpa using h2)⟩
theorem RvL.take (n : Nat) {cs : List IV} {vs : List Value} (h : RvL ι cs vs) : RvL ι (cs.take n) (vs.take n) := by
  refine ⟨by simp [h.1], fun i c v h1 h2 => ?_⟩
  rw [List.getElem?_take] at h1 h2
  split at h1
  · rename_i hi; rw [if_pos hi] at h2; exact h.2 i c v h1 h2
  · cases h1
theorem RvL.splice (off : Nat) {cs ds : List IV} {vs us : List Value} (h : RvL ι cs vs) (k : RvL ι ds us) : RvL ι (splice cs off ds) (vs.take off ++ us ++ vs.drop (off + us.length)) := by
  unfold Ev.splice
  rw [k.1]
  exact ((h.take off).append k).append (h.drop _)
theorem RvL.get {cs : List IV} {vs : List Value} (h : RvL ι cs vs) {i : Nat} {c : IV} (hc : cs[i]? = some c) : ∃ v, vs[i]? = some v ∧ Rv ι c v := by
  have hi : i < vs.length := by have := (List.getElem?_eq_some_iff.1 hc).1; have := h.1; omega
  exact ⟨vs[i], List.getElem?_eq_getElem hi, h.2 i c _ hc (List.getElem?_eq_getElem hi)⟩
theorem RvL.raws (vs : List Value) : RvL ι (vs.map .raw) vs := by
  refine ⟨by simp, fun i c v h1 h2 => ?_⟩
  simp only [List.getElem?_map, h2, Option.map_some, Option.some.injEq] at h1
  subst h1; exact .raw v
theorem RvL.of_map {α : Type} {f : α → IV} {g : α → Value} {l : List α} (h : ∀ a ∈ l, Rv ι (f a) (g a)) : RvL ι (l.map f) (l.map g) := by
  refine ⟨by simp, fun i c v h1 h2 => ?_⟩
  simp only [List.getElem?_map, Option.map_eq_some_iff] at h1 h2
  obtain ⟨a, ha, rfl⟩ := h1
  obtain ⟨b, hb, rfl⟩ := h2
  rw [ha] at hb; cases hb
  exact h a (List.mem_of_getElem? ha)
end lists

section shapes
variable {ι : Io}
theorem Rv.lift (v : Value) : Rv ι (Ev.lift v) v := by
  unfold Ev.lift
  split
  · rename_i cs
    have := Rv.agg (ι := ι) (cs.toList.map .raw) cs.toList (by simp) (RvL.raws cs.toList).2
    simpa using this
  · exact .raw _
theorem rawCells_ok : ∀ {cs : List IV} {us : List Value}, rawCells cs = some us → ∀ {vs : List Value}, RvL ι cs vs → vs = us
  | [], us, h, vs, hr => by simp only [rawCells, Option.some.injEq] at h; subst h; exact hr.of_nil
  | c :: cs, us, h, vs, hr => by
    obtain ⟨v, vs', rfl, h1, h2⟩ := hr.uncons
    simp only [rawCells] at h
    split at h
    · split at h
      · rename_i u us' hu
        simp only [Option.some.injEq] at h; subst h
        cases h1
        rw [rawCells_ok hu h2]
      · cases h
    · cases h
theorem toRaw1_ok {x : IV} {u v : Value} (h : toRaw1 x = some u) (hr : Rv ι x v) : v = u := by
  unfold toRaw1 at h
  split at h
  · cases hr; simpa using h
  · split at h
    · rename_i us hu
      cases hr with
      | agg cs vs hl hh =>
        simp only [Option.some.injEq] at h; subst h
        rw [rawCells_ok hu ⟨hl, hh⟩]
    · cases h
  · cases h
theorem toRaw_ok {x : IV} {u v : Value} (h : toRaw x = some u) (hr : Rv ι x v) : v = u := by
  unfold toRaw at h
  split at h
  · split at h
    · rename_i hu
      cases hr with
      | ifc t x v hh =>
        simp only [Option.some.injEq] at h; subst h
        rw [toRaw1_ok hu hh]
    · cases h
  · exact toRaw1_ok h hr
theorem Rv.cells {x : IV} {v : Value} (h : Rv ι x v) (hx : ∀ u, x = .raw u → ∀ c, u ≠ .agg c) : RvL ι (cellsOf x) v.cells.toList := by
  cases h with
  | agg cs vs hl hh => exact ⟨hl, hh⟩
  | raw v =>
    have : v.cells = #[v] := by
      cases v <;> first | rfl | exact absurd rfl (hx _ rfl _)
    simp only [cellsOf, this]
    exact RvL.cons (.raw v) RvL.nil
  | tup cs vs hl hh => exact RvL.cons (.tup cs vs hl hh) RvL.nil
  | ptr id off ep ext l hl hx' => exact RvL.cons (.ptr id off ep ext l hl hx') RvL.nil
  | sl id off len cap ep s l c a hl hn hlim hs hle hcap ha => exact RvL.cons (.sl id off len cap ep s l c a hl hn hlim hs hle hcap ha) RvL.nil
  | emp a => exact RvL.cons (.emp a) RvL.nil
  | map id l hl => exact RvL.cons (.map id l hl) RvL.nil
  | fn f as bs cs ds hl h1 hl2 h2 => exact RvL.cons (.fn f as bs cs ds hl h1 hl2 h2) RvL.nil
  | yld id l hl => exact RvL.cons (.yld id l hl) RvL.nil
  | ifc t x v h => exact RvL.cons (.ifc t x v h) RvL.nil
  | tree s es b off c us hs hc hcs hu h => exact RvL.cons (.tree s es b off c us hs hc hcs hu h) RvL.nil
  | treeE s a c hs hn => exact RvL.cons (.treeE s a c hs hn) RvL.nil
  | tptr cs b off us hu h => exact RvL.cons (.tptr cs b off us hu h) RvL.nil
/-- The cells of a value all of whose cells may stand in memory. -/
theorem Rv.cells_ok {x : IV} {v : Value} (h : Rv ι x v) (hx : (cellsOf x).all cellOk = true) : RvL ι (cellsOf x) v.cells.toList := by
  refine h.cells fun u hu c hc => ?_
  subst hu hc
  simp [cellsOf, cellOk] at hx
theorem cellOk_ok {x : IV} {v : Value} (h : Rv ι x v) (hx : cellOk x = true) : (∀ c, v ≠ .agg c) ∧ (∀ c, v ≠ .tuple c) := by
  cases h <;> first | (simp [cellOk] at hx; done) | (constructor <;> (intro c hc; first | (cases hc; done) | (subst hc; simp [cellOk] at hx; done)))
end shapes
end Go.Ev
