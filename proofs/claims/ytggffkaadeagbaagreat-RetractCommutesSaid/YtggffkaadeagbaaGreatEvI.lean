/- Lemmas over the model, without conditions of their own: what is known of frames and of the store. -/
import Derived.Test.YtggffkaadeagbaaGreatEvH
set_option linter.all false
namespace Go.Ev
variable {P : Program} {σ σ' : St}
abbrev Rs := Nat → Option Nat
inductive CanR (fr : Bool) (R : Rs) (σ : St) : IV → IV → Prop
  | raw (v : Value) : CanR fr R σ (.raw v) (.raw v)
  | nil (s : Nat) (hs : 0 < s) : CanR fr R σ (.raw (.slice none 0 0)) (.tree s [])
  | emp (s : Nat) (hs : 0 < s) : CanR fr R σ .emp (.tree s [])
  | ifc (t : TypeId) (x y : IV) (h : CanR fr R σ x y) : CanR fr R σ (.ifc t x) (.ifc t y)
  | agg (cs ds : List IV) (hl : cs.length = ds.length) (h : ∀ (i : Nat) c d, cs[i]? = some c → ds[i]? = some d → CanR fr R σ c d) : CanR fr R σ (.agg cs) (.agg ds)
  | tup (cs ds : List IV) (hl : cs.length = ds.length) (h : ∀ (i : Nat) c d, cs[i]? = some c → ds[i]? = some d → CanR fr R σ c d) : CanR fr R σ (.tup cs) (.tup ds)
  | pure (x : IV) (hf : fr = true) (hp : Pure x) : CanR fr R σ x x
  | sl (id off len : Nat) (cap : Option Nat) (ep s m : Nat) (cs : List IV) (cep mn : Nat) (es : List IV) (hR : R id = some m) (hat : σ.at id = some (.cells cs cep mn)) (h1 : mn ≤ ep) (h2 : ep ≤ cep) (hs : 0 < s) (hl : es.length = len)
      (hb : off + len * s ≤ m) (hm : m ≤ cs.length)
      (hcs : ∀ e ∈ es, (cellsOf e).length = s) (h : ∀ (i : Nat) e (j : Nat) c d, es[i]? = some e → (cellsOf e)[j]? = some d → cs[off + i * s + j]? = some c → CanR fr R σ c d) : CanR fr R σ (.sl id off len cap ep s) (.tree s es)
theorem CanR.can {fr : Bool} {R : Rs} {x z : IV} (h : CanR fr R σ x z) : Can fr σ x z := by
  induction h with
  | raw v => exact .raw v
  | nil s hs => exact .nil s hs
  | emp s hs => exact .emp s hs
  | ifc t x y _ ih => exact .ifc t x y ih
  | agg cs ds hl _ ih => exact .agg cs ds hl ih
  | tup cs ds hl _ ih => exact .tup cs ds hl ih
  | pure x hf hp => exact .pure x hf hp
  | sl id off len cap ep s m cs cep mn es hR hat h1 h2 hs hl hb hm hcs _ ih => exact .sl id off len cap ep s cs cep mn es hat h1 h2 hl (by omega) hcs ih
theorem CanR.old {fr : Bool} {R : Rs} {x z : IV} (h : CanR fr R σ x z) : CanR true R σ x z := by
  induction h with
  | raw v => exact .raw v
  | nil s hs => exact .nil s hs
  | emp s hs => exact .emp s hs
  | ifc t x y _ ih => exact .ifc t x y ih
  | agg cs ds hl _ ih => exact .agg cs ds hl ih
  | tup cs ds hl _ ih => exact .tup cs ds hl ih
  | pure x hf hp => exact .pure x rfl hp
  | sl id off len cap ep s m cs cep mn es hR hat h1 h2 hs hl hb hm hcs _ ih => exact .sl id off len cap ep s m cs cep mn es hR hat h1 h2 hs hl hb hm hcs ih
theorem CanR.wide {fr fr' : Bool} {R : Rs} {x z : IV} (h : CanR fr R σ x z) (hle : fr = true → fr' = true) : CanR fr' R σ x z := by
  cases fr'
  · cases fr
    · exact h
    · exact absurd (hle rfl) (by simp)
  · exact h.old
structure GrowR (R : Rs) (σ : St) (R' : Rs) (σ' : St) : Prop where
  le : ∀ id m, R id = some m → ∃ m', R' id = some m' ∧ m ≤ m'
  keep : ∀ id m cs cep mn, R id = some m → σ.at id = some (.cells cs cep mn) → ∃ cs' cep', σ'.at id = some (.cells cs' cep' mn) ∧ cep ≤ cep' ∧ ∀ j, j < m → cs'[j]? = cs[j]?
  fits : ∀ id m cs cep mn, R' id = some m → σ'.at id = some (.cells cs cep mn) → m ≤ cs.length
theorem idx_lt {es : List IV} {i s len : Nat} {e d : IV} {j : Nat} (he : es[i]? = some e) (hd : (cellsOf e)[j]? = some d) (hcs : ∀ e ∈ es, (cellsOf e).length = s) (hl : es.length = len) : i * s + j < len * s := by
  have hi := (List.getElem?_eq_some_iff.1 he).1
  have hj : j < s := by have := (List.getElem?_eq_some_iff.1 hd).1; rw [hcs e (List.mem_of_getElem? he)] at this; exact this
  have : (i + 1) * s ≤ es.length * s := Nat.mul_le_mul_right s hi
  rw [Nat.add_mul, hl] at this; omega
theorem CanR.mono {fr : Bool} {R R' : Rs} (hg : GrowR R σ R' σ') {x z : IV} (h : CanR fr R σ x z) : CanR fr R' σ' x z := by
  induction h with
  | raw v => exact .raw v
  | nil s hs => exact .nil s hs
  | emp s hs => exact .emp s hs
  | ifc t x y _ ih => exact .ifc t x y ih
  | agg cs ds hl _ ih => exact .agg cs ds hl ih
  | tup cs ds hl _ ih => exact .tup cs ds hl ih
  | pure x hf hp => exact .pure x hf hp
  | sl id off len cap ep s m cs cep mn es hRi hat h1 h2 hs hl hb hm hcs _ ih =>
    obtain ⟨cs', cep', hat', hle, hkeep⟩ := hg.keep id m cs cep mn hRi hat
    obtain ⟨m', hR', hmm⟩ := hg.le id m hRi
    refine .sl id off len cap ep s m' cs' cep' mn es hR' hat' h1 (Nat.le_trans h2 hle) hs hl (Nat.le_trans hb hmm) (hg.fits id m' cs' cep' mn hR' hat') hcs fun i e j c d he hd hc => ?_
    have := idx_lt he hd hcs hl
    rw [hkeep _ (by omega)] at hc
    exact ih i e j c d he hd hc
theorem GrowR.refl {R : Rs} (hf : ∀ id m cs cep mn, R id = some m → σ.at id = some (.cells cs cep mn) → m ≤ cs.length) : GrowR R σ R σ :=
  ⟨fun _ m h => ⟨m, h, Nat.le_refl _⟩, fun _ _ cs cep _ _ h => ⟨cs, cep, h, Nat.le_refl _, fun _ _ => rfl⟩, hf⟩
def All2 {α β : Type} (r : α → β → Prop) : List α → List β → Prop
  | [], [] => True
  | a :: as, b :: bs => r a b ∧ All2 r as bs
  | _, _ => False
namespace All2
variable {α β : Type} {r r' : α → β → Prop}
theorem len : ∀ {as : List α} {bs : List β}, All2 r as bs → as.length = bs.length
  | [], [], _ => rfl
  | _ :: _, _ :: _, h => by simp [len h.2]
  | [], _ :: _, h => h.elim
  | _ :: _, [], h => h.elim
theorem get : ∀ {as : List α} {bs : List β}, All2 r as bs → ∀ {i : Nat} {a : α} {b : β}, as[i]? = some a → bs[i]? = some b → r a b
  | [], [], _, i, a, b, h1, _ => by simp at h1
  | _ :: as, _ :: bs, h, i, a, b, h1, h2 => by
    cases i with
    | zero => simp at h1 h2; subst h1 h2; exact h.1
    | succ i => simp at h1 h2; exact get h.2 h1 h2
  | [], _ :: _, h, _, _, _, _, _ => h.elim
  | _ :: _, [], h, _, _, _, _, _ => h.elim
theorem getR {as : List α} {bs : List β} (h : All2 r as bs) {i : Nat} {b : β} (hb : bs[i]? = some b) : ∃ a, as[i]? = some a ∧ r a b := by
  have hi : i < as.length := by have := (List.getElem?_eq_some_iff.1 hb).1; rw [h.len]; exact this
  exact ⟨_, List.getElem?_eq_getElem hi, h.get (List.getElem?_eq_getElem hi) hb⟩
theorem mk : ∀ {as : List α} {bs : List β}, as.length = bs.length → (∀ (i : Nat) a b, as[i]? = some a → bs[i]? = some b → r a b) → All2 r as bs
  | [], [], _, _ => trivial
  | a :: as, b :: bs, hl, h => ⟨h 0 a b rfl rfl, mk (by simpa using hl) fun i a b h1 h2 => h (i + 1) a b (by simpa using h1) (by simpa using h2)⟩
  | [], _ :: _, hl, _ => by simp at hl
  | _ :: _, [], hl, _ => by simp at hl
theorem mono (hr : ∀ a b, r a b → r' a b) : ∀ {as : List α} {bs : List β}, All2 r as bs → All2 r' as bs
  | [], [], _ => trivial
  | _ :: _, _ :: _, h => ⟨hr _ _ h.1, mono hr h.2⟩
  | [], _ :: _, h => h.elim
  | _ :: _, [], h => h.elim
theorem monoMem : ∀ {as : List α} {bs : List β}, (∀ a b, b ∈ bs → r a b → r' a b) → All2 r as bs → All2 r' as bs
  | [], [], _, _ => trivial
  | _ :: _, _ :: _, hr, h => ⟨hr _ _ (by simp) h.1, monoMem (fun a b hb => hr a b (by simp [hb])) h.2⟩
  | [], _ :: _, _, h => h.elim
  | _ :: _, [], _, h => h.elim
theorem app {as as' : List α} {bs bs' : List β} (h : All2 r as bs) (k : All2 r as' bs') : All2 r (as ++ as') (bs ++ bs') := by
  refine mk (by simp [h.len, k.len]) fun i a b h1 h2 => ?_
  by_cases hi : i < as.length
  · rw [List.getElem?_append_left hi] at h1
    rw [List.getElem?_append_left (h.len ▸ hi)] at h2
    exact h.get h1 h2
  · rw [List.getElem?_append_right (by omega)] at h1
    rw [List.getElem?_append_right (by have := h.len; omega), ← h.len] at h2
    exact k.get h1 h2
theorem take (n : Nat) {as : List α} {bs : List β} (h : All2 r as bs) : All2 r (as.take n) (bs.take n) := by
  refine mk (by simp [h.len]) fun i a b h1 h2 => ?_
  rw [List.getElem?_take] at h1 h2
  split at h1
  · rename_i hi; rw [if_pos hi] at h2; exact h.get h1 h2
  · cases h1
theorem drop (n : Nat) {as : List α} {bs : List β} (h : All2 r as bs) : All2 r (as.drop n) (bs.drop n) :=
  mk (by simp [h.len]) fun i a b h1 h2 => h.get (i := n + i) (by simpa using h1) (by simpa using h2)
theorem map {γ : Type} {f : β → γ} {q : α → γ → Prop} (hf : ∀ a b, r a b → q a (f b)) : ∀ {as : List α} {bs : List β}, All2 r as bs → All2 q as (bs.map f)
  | [], [], _ => trivial
  | _ :: _, _ :: _, h => ⟨hf _ _ h.1, map hf h.2⟩
  | [], _ :: _, h => h.elim
  | _ :: _, [], h => h.elim
end All2
inductive Cl (α : Type) where
  | un
  | v (z : α)                           -- just this plain value
  | w (fr : Bool) (z : α)               -- reads as this
  | pt (k off ext : Nat)                -- into a local variable
  | tp (cs : List α)                    -- to cells that nobody writes
  | tw (fr : Bool) (cs : List α)        -- to cells that stand
  | sr (k : Nat)                        -- all of a local row
  | sv (k : Nat) (lo : α)               -- a row from an index on
  | pr (k : Nat) (i : α) (off ext : Nat) -- into an element of a row
  | mp (k : Nat)
  | nl (b : Bool) (s : Nat)             -- nil (b), or an empty slice
  | fn (f : FuncId) (bs : List (Nat × Nat))
  deriving Inhabited
inductive PV (α : Type) where
  | one (x : Cl α)
  | ag (cs : List (Cl α))
  | tu (vs : List (Bool × List (Cl α)))
  deriving Inhabited
inductive LO (α : Type) where
  | var (cs : List (Cl α))
  | row (s : Nat) (st cut fr : Bool) (es : α)
  | mp (kt : TypeId) (es : α)
  | dead
abbrev Ph := Nat → Option Nat
def SlOf (φ : Ph) (σ : St) (k s : Nat) (cut : Bool) (lo len : Nat) (x : IV) : Prop :=
  (φ k = none ∧ len = 0 ∧ (x = .raw (.slice none 0 0) ∨ x = .emp)) ∨
  ∃ id cs cep mn cap, φ k = some id ∧ σ.at id = some (.cells cs cep mn) ∧ x = .sl id (lo * s) (len - lo) cap cep s ∧ lo ≤ len ∧ (cap = none → cut = false → len * s = cs.length) ∧
    ∀ c, cap = some c → mn = cep ∧ lo * s + c * s ≤ cs.length ∧ len - lo ≤ c
abbrev CanP : IV → IV → Prop := CanR true (fun _ => none) ⟨0, .lf⟩
def nat? : IV → Option Nat
  | .raw (.int _ n) => if 0 ≤ n then some n.toNat else none
  | _ => none
section ev
variable {α : Type} (ev : α → Option IV)
def VRc (R : Rs) (φ : Ph) (L : List (LO α)) (σ : St) (x : IV) : Cl α → Prop
  | .un => True
  | .v z => ∃ y, ev z = some y ∧ CanP x y ∧ cellOk y = true
  | .w fr z => ∃ y, ev z = some y ∧ CanR fr R σ x y ∧ cellOk y = true
  | .pt k off ext => ∃ id cs, φ k = some id ∧ L[k]? = some (.var cs) ∧ x = .ptr id off 0 ext
  | .tp cs => ∃ ds, x = .tptr ds ∧ All2 (fun d c => ∃ y, ev c = some y ∧ CanP d y ∧ cellOk y = true) ds cs
  | .tw fr cs => (∀ c ∈ cs, ∃ y, ev c = some y ∧ cellOk y = true) ∧ ((fr = true ∧ ∃ ds, x = .tptr ds ∧ All2 (fun d c => ∃ y, ev c = some y ∧ CanP d y) ds cs) ∨
      ∃ id off ep m ics cep mn, R id = some m ∧ σ.at id = some (.cells ics cep mn) ∧ mn ≤ ep ∧ ep ≤ cep ∧ x = .ptr id off ep cs.length ∧ off + cs.length ≤ m ∧ m ≤ ics.length ∧
        ∀ (j : Nat) c d, cs[j]? = some d → ics[off + j]? = some c → ∃ y, ev d = some y ∧ CanR fr R σ c y)
  | .sr k => ∃ s st cut fr z es, L[k]? = some (.row s st cut fr z) ∧ ev z = some (.tree s es) ∧ SlOf φ σ k s cut 0 es.length x
  | .sv k lo => ∃ s st cut fr z es y n, L[k]? = some (.row s st cut fr z) ∧ ev z = some (.tree s es) ∧ ev lo = some y ∧ nat? y = some n ∧ n ≤ es.length ∧ (SlOf φ σ k s cut n es.length x ∨ (n = es.length ∧ x = .emp))
  | .pr k i off ext => ∃ s st cut fr z es y n id cs cep mn, L[k]? = some (.row s st cut fr z) ∧ ev z = some (.tree s es) ∧ ev i = some y ∧ nat? y = some n ∧ n < es.length ∧ off + ext ≤ s ∧ φ k = some id ∧ σ.at id = some (.cells cs cep mn) ∧ x = .ptr id (n * s + off) cep ext
  | .mp k => ∃ id kt es, φ k = some id ∧ L[k]? = some (.mp kt es) ∧ x = .map id
  | .nl b s => 0 < s ∧ x = if b then .raw (.slice none 0 0) else .emp
  | .fn f bs => (bs = [] ∧ x = .raw (.func (.func f) #[] #[])) ∨ ∃ ys, x = .fn (.func f) [] ys ∧ All2 (fun y (p : Nat × Nat) => ∃ id cs, φ p.1 = some id ∧ L[p.1]? = some (.var cs) ∧ y = .ptr id 0 0 p.2) ys bs
def VR1 (R : Rs) (φ : Ph) (L : List (LO α)) (σ : St) (x : IV) (p : Bool × List (Cl α)) : Prop :=
  if p.1 then ∃ xs, x = .agg xs ∧ All2 (VRc ev R φ L σ) xs p.2 else ∃ c, p.2 = [c] ∧ VRc ev R φ L σ x c
def VR (R : Rs) (φ : Ph) (L : List (LO α)) (σ : St) (x : IV) : PV α → Prop
  | .one c => VRc ev R φ L σ x c
  | .ag cs => ∃ xs, x = .agg xs ∧ All2 (VRc ev R φ L σ) xs cs
  | .tu vs => ∃ xs, x = .tup xs ∧ All2 (VR1 ev R φ L σ) xs vs
def flat (es : List IV) : List IV := es.flatMap cellsOf
def entsR (R : Rs) (σ : St) (es : List (Value × IV × Nat)) (ds : List IV) : Prop :=
  All2 (fun (e : Value × IV × Nat) d => ∃ z, d = .tup [lift e.1, z] ∧ CanR true R σ e.2.1 z) es ds
def OR (R : Rs) (φ : Ph) (L : List (LO α)) (σ : St) (k : Nat) : LO α → Prop
  | .var cs => ∃ id ics, φ k = some id ∧ R id = none ∧ σ.at id = some (.cells ics 0 0) ∧ All2 (VRc ev R φ L σ) ics cs
  | .row s st cut fr z => 0 < s ∧ ∃ es, ev z = some (.tree s es) ∧ (∀ e ∈ es, (cellsOf e).length = s) ∧
      ((φ k = none ∧ es = []) ∨ ∃ id cs cep mn, φ k = some id ∧ σ.at id = some (.cells cs cep mn) ∧ mn ≤ cep ∧ es.length * s ≤ cs.length ∧ R id = (if st then some (es.length * s) else none) ∧
        cs.all cellOk = true ∧ ∀ (j : Nat) x d, cs[j]? = some x → (flat es)[j]? = some d → CanR fr R σ x d)
  | .mp _ z => ∃ id es clock ds, ev z = some (.tup ds) ∧ φ k = some id ∧ R id = none ∧ σ.at id = some (.map es clock) ∧ entsR R σ es ds
  | .dead => True
abbrev Gm (α : Type) := List (Nat × Nat × PV α)
def gget (d t : Nat) : List (Nat × Nat × PV α) → Option (PV α)
  | [] => none
  | (d', t', pv) :: g => if (Nat.beq d d' && Nat.beq t t') = true then some pv else gget d t g
structure J (R : Rs) (φ : Ph) (Γ : Gm α) (L : List (LO α)) (E : Nat → Env) (σ : St) : Prop where
  slot : ∀ d t pv, gget d t Γ = some pv → VR ev R φ L σ ((E d).at t) pv
  obj : ∀ k ob, L[k]? = some ob → OR ev R φ L σ k ob
  inj : ∀ k k' id, φ k = some id → φ k' = some id → k = k'
  lt : ∀ k id, φ k = some id → k < L.length ∧ id < σ.n
  ltR : ∀ id m, R id = some m → id < σ.n
  fits : ∀ id m cs cep mn, R id = some m → σ.at id = some (.cells cs cep mn) → m ≤ cs.length
  wf : σ.t.WF
  top : ∀ id, σ.n ≤ id → σ.at id = none
structure Chg (ev ev' : α → Option IV) (R : Rs) (φ : Ph) (L : List (LO α)) (σ : St) (R' : Rs) (φ' : Ph) (L' : List (LO α)) (σ' : St) (bad : Nat → Prop) : Prop where
  up : ∀ e z, ev e = some z → ev' e = some z
  grow : GrowR R σ R' σ'
  var : ∀ k cs, L[k]? = some (.var cs) → (∃ cs', L'[k]? = some (.var cs')) ∧ φ' k = φ k
  map : ∀ k kt es, L[k]? = some (.mp kt es) → (∃ es', L'[k]? = some (.mp kt es')) ∧ φ' k = φ k
  row : ∀ k s st cut fr z, L[k]? = some (.row s st cut fr z) → ¬ bad k → (∃ st' fr' z', L'[k]? = some (.row s st' cut fr' z') ∧ ∀ es, ev z = some (.tree s es) → ∃ es', ev' z' = some (.tree s es') ∧ es'.length = es.length) ∧ φ' k = φ k ∧
    ∀ id cs cep mn, φ k = some id → σ.at id = some (.cells cs cep mn) → ∃ cs' mn', σ'.at id = some (.cells cs' cep mn') ∧ cs'.length = cs.length ∧ (mn = cep → mn' = cep)
end ev
variable {α : Type} {ev ev' : α → Option IV}
def Cl.ok (bad : Nat → Prop) : Cl α → Prop
  | .sr k | .sv k _ | .pr k _ _ _ => ¬ bad k
  | _ => True
variable {R R' : Rs} {φ φ' : Ph} {L L' : List (LO α)} {bad : Nat → Prop}
theorem Chg.mk' (h0 : ∀ e z, ev e = some z → ev' e = some z) (h1 : GrowR R σ R' σ') (h2 : ∀ k cs, L[k]? = some (.var cs) → (∃ cs', L'[k]? = some (.var cs')) ∧ φ' k = φ k)
    (h3 : ∀ k kt es, L[k]? = some (.mp kt es) → (∃ es', L'[k]? = some (.mp kt es')) ∧ φ' k = φ k)
    (h4 : ∀ k s st cut fr z, L[k]? = some (.row s st cut fr z) → ¬ bad k → (∃ st', L'[k]? = some (.row s st' cut fr z)) ∧ φ' k = φ k ∧ ∀ id, φ k = some id → σ'.at id = σ.at id) : Chg ev ev' R φ L σ R' φ' L' σ' bad :=
  ⟨h0, h1, h2, h3, fun k s st cut fr z hk hb => by
    obtain ⟨⟨st', a⟩, b, c⟩ := h4 k s st cut fr z hk hb
    exact ⟨⟨st', fr, z, a, fun es he => ⟨es, h0 _ _ he, rfl⟩⟩, b, fun id cs cep mn hid hat => ⟨cs, mn, by rw [c id hid]; exact hat, rfl, fun h => h⟩⟩⟩
theorem SlOf.step {k s lo len : Nat} {cut : Bool} {x : IV} (h1 : φ' k = φ k) (h2 : ∀ id cs cep mn, φ k = some id → σ.at id = some (.cells cs cep mn) → ∃ cs' mn', σ'.at id = some (.cells cs' cep mn') ∧ cs'.length = cs.length ∧ (mn = cep → mn' = cep))
    (h : SlOf φ σ k s cut lo len x) : SlOf φ' σ' k s cut lo len x := by
  rcases h with ⟨a, b, c⟩ | ⟨id, cs, cep, mn, cap, a, b, c, d, e, f⟩
  · exact .inl ⟨by rw [h1]; exact a, b, c⟩
  · obtain ⟨cs', mn', g1, g2, g3⟩ := h2 id cs cep mn a b
    exact .inr ⟨id, cs', cep, mn', cap, by rw [h1]; exact a, g1, c, d, fun x y => by rw [g2]; exact e x y, fun c hc => by rw [g2]; exact ⟨g3 (f c hc).1, (f c hc).2⟩⟩
theorem VRc.step (hs : Chg ev ev' R φ L σ R' φ' L' σ' bad) {x : IV} {c : Cl α} (hok : c.ok bad) (h : VRc ev R φ L σ x c) : VRc ev' R' φ' L' σ' x c := by
  cases c with
  | un => trivial
  | v z => obtain ⟨y, h1, h2⟩ := h; exact ⟨y, hs.up _ _ h1, h2⟩
  | w fr z => obtain ⟨y, h1, h2, h3⟩ := h; exact ⟨y, hs.up _ _ h1, h2.mono hs.grow, h3⟩
  | pt k off ext =>
    obtain ⟨id, cs, h1, h2, h3⟩ := h
    obtain ⟨⟨cs', h4⟩, h5⟩ := hs.var k cs h2
    exact ⟨id, cs', by rw [h5]; exact h1, h4, h3⟩
  | tp cs =>
    obtain ⟨ds, h1, h2⟩ := h
    exact ⟨ds, h1, h2.mono fun d c ⟨y, h3, h4⟩ => ⟨y, hs.up _ _ h3, h4⟩⟩
  | tw fr cs =>
    obtain ⟨h0, h | ⟨id, off, ep, m, ics, cep, mn, h1, h2, h3, h4, h5, h6, h7, h8⟩⟩ := h
    · obtain ⟨hf, ds, h1, h2⟩ := h
      exact ⟨fun c hc => (h0 c hc).imp fun y hy => ⟨hs.up _ _ hy.1, hy.2⟩, .inl ⟨hf, ds, h1, h2.mono fun d c ⟨y, h3, h4⟩ => ⟨y, hs.up _ _ h3, h4⟩⟩⟩
    · obtain ⟨cs', cep', hat', hle, hkeep⟩ := hs.grow.keep id m ics cep mn h1 h2
      obtain ⟨m', hR', hmm⟩ := hs.grow.le id m h1
      refine ⟨fun c hc => (h0 c hc).imp fun y hy => ⟨hs.up _ _ hy.1, hy.2⟩, .inr ⟨id, off, ep, m', cs', cep', mn, hR', hat', h3, Nat.le_trans h4 hle, h5, by omega, hs.grow.fits id m' cs' cep' mn hR' hat', fun j c d hd hc => ?_⟩⟩
      have hj := (List.getElem?_eq_some_iff.1 hd).1
      rw [hkeep _ (by omega)] at hc
      obtain ⟨y, hy1, hy2⟩ := h8 j c d hd hc
      exact ⟨y, hs.up _ _ hy1, hy2.mono hs.grow⟩
  | sr k =>
    obtain ⟨s, st, cut, fr, z, es, h1, he, h2⟩ := h
    obtain ⟨⟨st', fr', z', h3, h6⟩, h4, h5⟩ := hs.row k _ _ _ _ _ h1 hok
    obtain ⟨es', h7, h8⟩ := h6 es he
    exact ⟨s, st', cut, fr', z', es', h3, h7, h8 ▸ h2.step h4 h5⟩
  | sv k lo =>
    obtain ⟨s, st, cut, fr, z, es, y, n, h1, he, hy, hn, hl, h2⟩ := h
    obtain ⟨⟨st', fr', z', h3, h6⟩, h4, h5⟩ := hs.row k _ _ _ _ _ h1 hok
    obtain ⟨es', h7, h8⟩ := h6 es he
    exact ⟨s, st', cut, fr', z', es', y, n, h3, h7, hs.up _ _ hy, hn, by omega, h2.elim (fun h2 => .inl (h8 ▸ h2.step h4 h5)) (fun h2 => .inr ⟨by omega, h2.2⟩)⟩
  | pr k i off ext =>
    obtain ⟨s, st, cut, fr, z, es, y, n, id, cs, cep, mn, h1, he, hy, hn, hl, hx, h6, h7, h8⟩ := h
    obtain ⟨⟨st', fr', z', h3, h9⟩, h4, h5⟩ := hs.row k _ _ _ _ _ h1 hok
    obtain ⟨es', h10, h11⟩ := h9 es he
    obtain ⟨cs', mn', g1, g2, g3⟩ := h5 id cs cep mn h6 h7
    exact ⟨s, st', cut, fr', z', es', y, n, id, cs', cep, mn', h3, h10, hs.up _ _ hy, hn, by omega, hx, by rw [h4]; exact h6, g1, h8⟩
  | mp k =>
    obtain ⟨id, kt, es, h1, h2, h3⟩ := h
    obtain ⟨⟨es', h4⟩, h5⟩ := hs.map k kt es h2
    exact ⟨id, kt, es', by rw [h5]; exact h1, h4, h3⟩
  | nl b s => exact h
  | fn f bs =>
    rcases h with h | ⟨ys, h1, h2⟩
    · exact .inl h
    · refine .inr ⟨ys, h1, h2.mono fun y p ⟨id, cs, h3, h4, h5⟩ => ?_⟩
      obtain ⟨⟨cs', h6⟩, h7⟩ := hs.var p.1 cs h4
      exact ⟨id, cs', by rw [h7]; exact h3, h6, h5⟩
def PV.ok (bad : Nat → Prop) : PV α → Prop
  | .one c => c.ok bad
  | .ag cs => ∀ c ∈ cs, c.ok bad
  | .tu vs => ∀ p ∈ vs, ∀ c ∈ p.2, c.ok bad
theorem VR.step (hs : Chg ev ev' R φ L σ R' φ' L' σ' bad) {x : IV} {c : PV α} (hok : c.ok bad) (h : VR ev R φ L σ x c) : VR ev' R' φ' L' σ' x c := by
  cases c with
  | one c => exact VRc.step hs hok h
  | ag cs =>
    obtain ⟨xs, h1, h2⟩ := h
    exact ⟨xs, h1, h2.monoMem fun a b hb hab => VRc.step hs (hok b hb) hab⟩
  | tu vs =>
    obtain ⟨xs, h1, h2⟩ := h
    refine ⟨xs, h1, h2.monoMem fun a p hp hab => ?_⟩
    unfold VR1 at hab ⊢
    split at hab
    · rename_i hb
      rw [if_pos hb]
      obtain ⟨ys, h3, h4⟩ := hab
      exact ⟨ys, h3, h4.monoMem fun a b hb hab => VRc.step hs (hok p hp b hb) hab⟩
    · rename_i hb
      rw [if_neg hb]
      obtain ⟨c, h3, h4⟩ := hab
      exact ⟨c, h3, VRc.step hs (hok p hp c (by rw [h3]; simp)) h4⟩
def LO.ok (bad : Nat → Prop) : LO α → Prop
  | .var cs => ∀ c ∈ cs, c.ok bad
  | _ => True
theorem OR.step (hs : Chg ev ev' R φ L σ R' φ' L' σ' bad) {k : Nat} {o : LO α} (hφ : φ' k = φ k) (hat : ∀ id, φ k = some id → σ'.at id = σ.at id ∧ R' id = R id) (hok : o.ok bad) (h : OR ev R φ L σ k o) : OR ev' R' φ' L' σ' k o := by
  cases o with
  | var cs =>
    obtain ⟨id, ics, h1, h2, h3, h4⟩ := h
    obtain ⟨h6, h7⟩ := hat id h1
    exact ⟨id, ics, by rw [hφ]; exact h1, by rw [h7]; exact h2, by rw [h6]; exact h3, h4.monoMem fun a b hb hab => VRc.step hs (hok b hb) hab⟩
  | row s st cut fr z =>
    obtain ⟨h1, es, h2, h3, h4⟩ := h
    refine ⟨h1, es, hs.up _ _ h2, h3, ?_⟩
    rcases h4 with ⟨h4, h5⟩ | ⟨id, cs, cep, mn, h4, h5, h6, h7, h8, h9, h10⟩
    · exact .inl ⟨by rw [hφ]; exact h4, h5⟩
    · obtain ⟨ha, hb⟩ := hat id h4
      exact .inr ⟨id, cs, cep, mn, by rw [hφ]; exact h4, by rw [ha]; exact h5, h6, h7, by rw [hb]; exact h8, h9, fun j x d hx hd => (h10 j x d hx hd).mono hs.grow⟩
  | mp kt z =>
    obtain ⟨id, es, clock, ds, h1, h2, h3, h4, h5⟩ := h
    obtain ⟨h6, h7⟩ := hat id h2
    exact ⟨id, es, clock, ds, hs.up _ _ h1, by rw [hφ]; exact h2, by rw [h7]; exact h3, by rw [h6]; exact h4, h5.mono fun a d ⟨z, h8, h9⟩ => ⟨z, h8, h9.mono hs.grow⟩⟩
  | dead => trivial
variable {Γ Γ' : Gm α} {E : Nat → Env}
def setE (E : Nat → Env) (d : Nat) (e : Env) : Nat → Env := fun j => if j = d then e else E j
@[simp] theorem setE_same (E : Nat → Env) (d : Nat) (e : Env) : setE E d e d = e := by simp [setE]
def gdel (d t : Nat) : List (Nat × Nat × PV α) → List (Nat × Nat × PV α)
  | [] => []
  | (d', t', pv) :: g => if (Nat.beq d d' && Nat.beq t t') = true then gdel d t g else (d', t', pv) :: gdel d t g
theorem gget_del {d t d' t' : Nat} {pv : PV α} : ∀ (g : List (Nat × Nat × PV α)), gget d' t' (gdel d t g) = some pv → ¬ (d' = d ∧ t' = t) ∧ gget d' t' g = some pv := by
  intro g
  induction g with
  | nil => intro h; cases h
  | cons p g ih =>
    obtain ⟨a, b, q⟩ := p
    intro h
    unfold gdel at h
    split at h
    · rename_i hab
      simp only [Bool.and_eq_true, Nat.beq_eq] at hab
      obtain ⟨h1, h2⟩ := ih h
      refine ⟨h1, ?_⟩
      unfold gget
      rw [if_neg]
      · exact h2
      · simp only [Bool.and_eq_true, Nat.beq_eq]
        rintro ⟨rfl, rfl⟩
        exact h1 ⟨hab.1.symm, hab.2.symm⟩
    · rename_i hab
      simp only [Bool.and_eq_true, Nat.beq_eq] at hab
      unfold gget at h ⊢
      split at h
      · rename_i hc
        rw [if_pos hc]
        simp only [Bool.and_eq_true, Nat.beq_eq] at hc
        obtain ⟨rfl, rfl⟩ := hc
        exact ⟨fun hh => hab ⟨hh.1.symm, hh.2.symm⟩, h⟩
      · rename_i hc
        rw [if_neg hc]
        exact ih h
def gset (d t : Nat) (pv : PV α) (g : List (Nat × Nat × PV α)) : List (Nat × Nat × PV α) := (d, t, pv) :: gdel d t g
theorem gget_cons {d t a b : Nat} {q pv : PV α} {g : List (Nat × Nat × PV α)} (h : gget d t ((a, b, q) :: g) = some pv) : (d = a ∧ t = b ∧ pv = q) ∨ (¬ (d = a ∧ t = b) ∧ gget d t g = some pv) := by
  unfold gget at h
  split at h
  · rename_i hc
    simp only [Bool.and_eq_true, Nat.beq_eq] at hc
    cases h
    exact .inl ⟨hc.1, hc.2, rfl⟩
  · rename_i hc
    simp only [Bool.and_eq_true, Nat.beq_eq] at hc
    exact .inr ⟨hc, h⟩
theorem env_put_other (e : Env) (dst : Option Nat) (x : IV) (t : Nat) (h : dst ≠ some t) : (e.put dst x).at t = e.at t := by
  cases dst with
  | none => rfl
  | some d => rw [Env.at_put, if_neg (fun hc => h (by rw [hc.2]))]
theorem J.putE (h : J ev R φ Γ L E σ) (d : Nat) (dst : Option Nat) (x : IV) (hdst : ∀ t, dst = some t → Γ' = gdel d t Γ) (hn : dst = none → Γ' = Γ) : J ev R φ Γ' L (setE E d ((E d).put dst x)) σ := by
  refine { h with slot := fun d' t' pv hg => ?_ }
  have hold : ¬ (d' = d ∧ dst = some t') ∧ gget d' t' Γ = some pv := by
    cases hd : dst with
    | none => rw [hn hd] at hg; exact ⟨fun hh => (by cases hh.2), hg⟩
    | some t =>
      rw [hdst t hd] at hg
      obtain ⟨h1, h2⟩ := gget_del Γ hg
      exact ⟨fun hh => h1 ⟨hh.1, (by injection hh.2 with hh; exact hh.symm)⟩, h2⟩
  have := h.slot d' t' pv hold.2
  unfold setE
  split
  · rename_i hd
    subst hd
    rw [env_put_other _ _ _ _ (fun hh => hold.1 ⟨rfl, hh⟩)]
    exact this
  · exact this
theorem J.put (h : J ev R φ Γ L E σ) (d : Nat) {t : Nat} (ht : t < (E d).n) {x : IV} {pv : PV α} (hx : VR ev R φ L σ x pv) : J ev R φ (gset d t pv Γ) L (setE E d ((E d).put (some t) x)) σ := by
  have hb := h.putE (Γ' := gdel d t Γ) d (some t) x (fun t' h => by cases h; rfl) (fun h => by cases h)
  refine { hb with slot := fun d' t' pv' hg => ?_ }
  rcases gget_cons hg with ⟨rfl, rfl, rfl⟩ | ⟨_, h2⟩
  · rw [setE_same, Env.at_put, if_pos ⟨ht, rfl⟩]
    exact hx
  · exact hb.slot d' t' pv' h2
theorem J.less (h : J ev R φ Γ L E σ) (hs : ∀ d t pv, gget d t Γ' = some pv → gget d t Γ = some pv) : J ev R φ Γ' L E σ := { h with slot := fun d t pv ht => h.slot d t pv (hs d t pv ht) }
end Go.Ev
namespace Go.Ev
variable {P : Program} {σ σ' : St} {R R' : Rs} {φ φ' : Ph} {α : Type} {ev ev' : α → Option IV} {L L' : List (LO α)} {bad : Nat → Prop} {Γ Γ' : Gm α} {E : Nat → Env}
theorem J.R_none (h : J ev R φ Γ L E σ) : R σ.n = none := by
  cases hr : R σ.n with
  | none => rfl
  | some m => exact absurd (h.ltR _ _ hr) (Nat.lt_irrefl _)
theorem getElem?_lt {α : Type} {l : List α} {i : Nat} {a : α} (h : l[i]? = some a) : i < l.length := (List.getElem?_eq_some_iff.1 h).1
def addφ (φ : Ph) (k id : Nat) : Ph := fun j => if j = k then some id else φ j
theorem growR_add (h : J ev R φ Γ L E σ) (ob : Ob) : GrowR R σ R (σ.add ob) := by
  refine ⟨fun _ m h => ⟨m, h, Nat.le_refl _⟩, fun id m cs cep mn hR hat => ⟨cs, cep, ?_, Nat.le_refl _, fun _ _ => rfl⟩, fun id m cs cep mn hR hat => ?_⟩
  · have := h.ltR _ _ hR
    rw [St.at_add, if_neg (by omega)]; exact hat
  · have := h.ltR _ _ hR
    rw [St.at_add, if_neg (by omega)] at hat; exact h.fits _ _ _ _ _ hR hat
theorem chg_add (h : J ev R φ Γ L E σ) (ob : Ob) (lo : LO α) : Chg ev ev R φ L σ R (addφ φ L.length σ.n) (L ++ [lo]) (σ.add ob) (fun _ => False) := by
  have hL : ∀ k o, L[k]? = some o → (L ++ [lo])[k]? = some o ∧ addφ φ L.length σ.n k = φ k := fun k o hk => by
    have := getElem?_lt hk
    exact ⟨by rw [List.getElem?_append_left this]; exact hk, by simp [addφ, show k ≠ L.length by omega]⟩
  refine .mk' (fun _ _ h => h) (growR_add h ob) ( fun k cs hk => ⟨⟨cs, (hL k _ hk).1⟩, (hL k _ hk).2⟩) (fun k kt es hk => ⟨⟨es, (hL k _ hk).1⟩, (hL k _ hk).2⟩) (fun k s st cut fr z hk _ => ⟨⟨st, (hL k _ hk).1⟩, (hL k _ hk).2, fun id hid => ?_⟩)
  have := (h.lt _ _ hid).2
  rw [St.at_add, if_neg (by omega)]
theorem Cl.ok_false (c : Cl α) : c.ok (fun _ => False) := by cases c <;> simp [Cl.ok]
theorem PV.ok_false (c : PV α) : c.ok (fun _ => False) := by
  cases c with
  | one c => exact c.ok_false
  | ag cs => exact fun c _ => c.ok_false
  | tu vs => exact fun _ _ c _ => c.ok_false
theorem LO.ok_false (o : LO α) : o.ok (fun _ => False) := by
  cases o with
  | var cs => exact fun c _ => c.ok_false
  | _ => trivial
theorem J.addO (h : J ev R φ Γ L E σ) (ob : Ob) (lo : LO α) (ho : OR ev R (addφ φ L.length σ.n) (L ++ [lo]) (σ.add ob) L.length lo) : J ev R (addφ φ L.length σ.n) Γ (L ++ [lo]) E (σ.add ob) := by
  have hs := chg_add h ob lo
  refine ⟨fun d t pv hg => (h.slot d t pv hg).step hs pv.ok_false, fun k o hk => ?_, fun k k' id h1 h2 => ?_, fun k id hk => ?_, fun id m hR => ?_, hs.grow.fits, h.wf.set _ _, fun id hid => ?_⟩
  · by_cases hkl : k < L.length
    · rw [List.getElem?_append_left hkl] at hk
      refine (h.obj k o hk).step hs (by simp [addφ, show k ≠ L.length by omega]) (fun id hid => ⟨?_, rfl⟩) o.ok_false
      have := (h.lt _ _ hid).2
      rw [St.at_add, if_neg (by omega)]
    · have : k = L.length := by have := getElem?_lt hk; simp at this; omega
      subst this
      simp at hk
      subst hk; exact ho
  · unfold addφ at h1 h2
    split at h1 <;> split at h2
    · omega
    · cases h1; have := (h.lt _ _ h2).2; omega
    · cases h2; have := (h.lt _ _ h1).2; omega
    · exact h.inj k k' id h1 h2
  · unfold addφ at hk
    split at hk
    · cases hk; simp [St.add]; omega
    · have := h.lt _ _ hk; simp [St.add]; omega
  · have := h.ltR _ _ hR; simp [St.add]; omega
  · have hid' : σ.n + 1 ≤ id := hid
    rw [St.at_add, if_neg (by omega)]; exact h.top id (by omega)
theorem J.up (h : J ev R φ Γ L E σ) (hev : ∀ e z, ev e = some z → ev' e = some z) : J ev' R φ Γ L E σ := by
  have hs : Chg ev ev' R φ L σ R φ L σ (fun _ => False) := (.mk' hev (GrowR.refl h.fits) (fun k cs hk => ⟨⟨cs, hk⟩, rfl⟩) (fun k kt es hk => ⟨⟨es, hk⟩, rfl⟩) (fun k s st cut fr z hk _ => ⟨⟨st, hk⟩, rfl, fun _ _ => rfl⟩))
  exact { h with slot := fun d t pv hg => (h.slot d t pv hg).step hs pv.ok_false, obj := fun k o hk => (h.obj k o hk).step hs rfl (fun _ _ => ⟨rfl, rfl⟩) o.ok_false }
theorem VR.up {x : IV} {pv : PV α} (h : J ev R φ Γ L E σ) (hx : VR ev R φ L σ x pv) (hev : ∀ e z, ev e = some z → ev' e = some z) : VR ev' R φ L σ x pv :=
  hx.step (bad := fun _ => False) (.mk' hev (GrowR.refl h.fits) (fun k cs hk => ⟨⟨cs, hk⟩, rfl⟩) (fun k kt es hk => ⟨⟨es, hk⟩, rfl⟩) (fun k s st cut fr z hk _ => ⟨⟨st, hk⟩, rfl, fun _ _ => rfl⟩)) pv.ok_false
def Cl.drop (k : Nat) : Cl α → Cl α
  | .sr k' => if Nat.beq k' k = true then .un else .sr k'
  | .sv k' lo => if Nat.beq k' k = true then .un else .sv k' lo
  | .pr k' i off ext => if Nat.beq k' k = true then .un else .pr k' i off ext
  | c => c
def PV.drop (k : Nat) : PV α → PV α
  | .one c => .one (c.drop k)
  | .ag cs => .ag (cs.map (Cl.drop k))
  | .tu vs => .tu (vs.map fun p => (p.1, p.2.map (Cl.drop k)))
def LO.drop (k : Nat) : LO α → LO α
  | .var cs => .var (cs.map (Cl.drop k))
  | o => o
def gdrop (k : Nat) : List (Nat × Nat × PV α) → List (Nat × Nat × PV α)
  | [] => []
  | (d, t, pv) :: g => (d, t, pv.drop k) :: gdrop k g
theorem Cl.drop_ok (k : Nat) (c : Cl α) : (c.drop k).ok (· = k) := by
  cases c <;> simp only [Cl.drop] <;> first | trivial | (split <;> first | trivial | (rename_i hh; simpa [Cl.ok, Nat.beq_eq] using hh))
theorem PV.drop_ok (k : Nat) (c : PV α) : (c.drop k).ok (· = k) := by
  cases c with
  | one c => exact c.drop_ok k
  | ag cs => intro c hc; simp at hc; obtain ⟨a, _, rfl⟩ := hc; exact a.drop_ok k
  | tu vs => intro p hp c hc; obtain ⟨q, _, rfl⟩ := List.mem_map.1 hp; simp at hc; obtain ⟨a, _, rfl⟩ := hc; exact a.drop_ok k
theorem LO.drop_ok (k : Nat) (o : LO α) : (o.drop k).ok (· = k) := by
  cases o with
  | var cs => intro c hc; simp at hc; obtain ⟨a, _, rfl⟩ := hc; exact a.drop_ok k
  | _ => trivial
theorem VRc.drop {x : IV} {c : Cl α} (k : Nat) (h : VRc ev R φ L σ x c) : VRc ev R φ L σ x (c.drop k) := by
  cases c <;> simp only [Cl.drop] <;> first | exact h | (split <;> first | trivial | exact h)
theorem VR.drop {x : IV} {c : PV α} (k : Nat) (h : VR ev R φ L σ x c) : VR ev R φ L σ x (c.drop k) := by
  cases c with
  | one c => exact VRc.drop k h
  | ag cs =>
    obtain ⟨xs, h1, h2⟩ := h
    exact ⟨xs, h1, h2.map fun a b hab => hab.drop k⟩
  | tu vs =>
    obtain ⟨xs, h1, h2⟩ := h
    refine ⟨xs, h1, h2.map fun a p hab => ?_⟩
    unfold VR1 at hab ⊢
    split at hab
    · rename_i hb
      rw [if_pos hb]
      obtain ⟨ys, h3, h4⟩ := hab
      exact ⟨ys, h3, h4.map fun a b hab => hab.drop k⟩
    · rename_i hb
      rw [if_neg hb]
      obtain ⟨c, h3, h4⟩ := hab
      exact ⟨c.drop k, by simp [h3], h4.drop k⟩
theorem chg_drop (h : J ev R φ Γ L E σ) (k : Nat) : Chg ev ev R φ L σ R φ (L.map (LO.drop k)) σ (fun _ => False) := by
  refine .mk' (fun _ _ h => h) (GrowR.refl h.fits) (fun j cs hj => ⟨⟨cs.map (Cl.drop k), ?_⟩, rfl⟩) (fun j kt es hj => ⟨⟨es, ?_⟩, rfl⟩) (fun j s st cut fr z hj _ => ⟨⟨st, ?_⟩, rfl, fun _ _ => rfl⟩) <;> simp [List.getElem?_map, hj, LO.drop]
theorem gget_drop {d t k : Nat} {pv : PV α} : ∀ (g : Gm α), gget d t (gdrop k g) = some pv → ∃ q, gget d t g = some q ∧ pv = q.drop k := by
  intro g
  induction g with
  | nil => intro h; cases h
  | cons p g ih =>
    obtain ⟨a, b, q⟩ := p
    intro h
    rcases gget_cons h with ⟨rfl, rfl, rfl⟩ | ⟨h1, h2⟩
    · exact ⟨q, by simp [gget], rfl⟩
    · obtain ⟨q', h3, h4⟩ := ih h2
      refine ⟨q', ?_, h4⟩
      unfold gget
      rw [if_neg]
      · exact h3
      · simpa [Nat.beq_eq] using h1
theorem J.dropK (h : J ev R φ Γ L E σ) (k : Nat) : J ev R φ (gdrop k Γ) (L.map (LO.drop k)) E σ := by
  have hs := chg_drop h k
  refine { h with slot := fun d t pv hg => ?_, obj := fun j o hj => ?_, lt := fun j id hj => by simpa using h.lt j id hj }
  · obtain ⟨q, h1, rfl⟩ := gget_drop Γ hg
    exact ((h.slot d t q h1).drop k).step hs (PV.ok_false _)
  · rw [List.getElem?_map] at hj
    obtain ⟨o', h1, rfl⟩ := Option.map_eq_some_iff.1 hj
    have ho := (h.obj j o' h1).step hs rfl (fun _ _ => ⟨rfl, rfl⟩) (LO.ok_false _)
    cases o' with
    | var cs =>
      obtain ⟨id, ics, a, b, c, d⟩ := ho
      exact ⟨id, ics, a, b, c, d.map fun _ _ hab => hab.drop k⟩
    | row => exact ho
    | mp => exact ho
    | dead => exact ho
theorem J.updPut (h : J ev R φ Γ L E σ) {k id : Nat} {lo lo' : LO α} {ob' : Ob} (hid : φ k = some id) (hk : L[k]? = some lo) (hR : ∀ j, j ≠ id → R' j = R j)
    (hle : ∀ m, R id = some m → ∃ m', R' id = some m' ∧ m ≤ m')
    (hkeep : ∀ m cs cep mn, R id = some m → σ.at id = some (.cells cs cep mn) → ∃ cs' cep', ob' = .cells cs' cep' mn ∧ cep ≤ cep' ∧ ∀ j, j < m → cs'[j]? = cs[j]?)
    (hfits : ∀ m cs cep mn, R' id = some m → ob' = .cells cs cep mn → m ≤ cs.length)
    (hv : ∀ cs, lo = .var cs → ∃ cs', lo' = .var cs') (hm : ∀ kt es, lo = .mp kt es → ∃ es', lo' = .mp kt es') (hr : ∀ s st cut fr z, lo = .row s st cut fr z → bad k)
    (hΓ : ∀ d t pv, gget d t Γ = some pv → pv.ok bad) (hL : ∀ j o, L[j]? = some o → j ≠ k → o.ok bad)
    (ho : Chg ev ev R φ L σ R' φ (L.set k lo') (σ.put id ob') bad → OR ev R' φ (L.set k lo') (σ.put id ob') k lo') :
    Chg ev ev R φ L σ R' φ (L.set k lo') (σ.put id ob') bad ∧ J ev R' φ Γ (L.set k lo') E (σ.put id ob') := by
  have hkl := getElem?_lt hk
  have hne : ∀ j, j ≠ k → (L.set k lo')[j]? = L[j]? := fun j hj => List.getElem?_set_ne (fun hc => hj hc.symm)
  have hself : (L.set k lo')[k]? = some lo' := by simp [hkl]
  have hinj : ∀ j id', j ≠ k → φ j = some id' → id' ≠ id := fun j id' hj hj' hc => hj (h.inj j k id (by rw [← hc]; exact hj') hid)
  have hgrow : GrowR R σ R' (σ.put id ob') := by
    refine ⟨fun id' m hm => ?_, fun id' m cs cep mn hm hat => ?_, fun id' m cs cep mn hm hat => ?_⟩
    · by_cases hc : id' = id
      · subst hc; exact hle m hm
      · exact ⟨m, by rw [hR id' hc]; exact hm, Nat.le_refl _⟩
    · by_cases hc : id' = id
      · subst hc
        obtain ⟨cs', cep', h1, h2, h3⟩ := hkeep m cs cep mn hm hat
        exact ⟨cs', cep', by rw [St.at_put, if_pos rfl, h1], h2, h3⟩
      · exact ⟨cs, cep, by rw [St.at_put, if_neg (fun hh => hc hh.symm)]; exact hat, Nat.le_refl _, fun _ _ => rfl⟩
    · by_cases hc : id' = id
      · subst hc
        rw [St.at_put, if_pos rfl] at hat
        exact hfits m cs cep mn hm (by injection hat)
      · rw [St.at_put, if_neg (fun hh => hc hh.symm)] at hat
        exact h.fits id' m cs cep mn (by rw [← hR id' hc]; exact hm) hat
  have hs : Chg ev ev R φ L σ R' φ (L.set k lo') (σ.put id ob') bad := by
    refine .mk' (fun _ _ h => h) hgrow (fun j cs hj => ?_) (fun j kt es hj => ?_) (fun j s st cut fr z hj hb => ?_)
    · by_cases hjk : j = k
      · subst hjk
        rw [hk] at hj; injection hj with hj
        obtain ⟨cs', h1⟩ := hv cs hj
        exact ⟨⟨cs', by rw [hself, h1]⟩, rfl⟩
      · exact ⟨⟨cs, by rw [hne j hjk]; exact hj⟩, rfl⟩
    · by_cases hjk : j = k
      · subst hjk
        rw [hk] at hj; injection hj with hj
        obtain ⟨cs', h1⟩ := hm kt es hj
        exact ⟨⟨cs', by rw [hself, h1]⟩, rfl⟩
      · exact ⟨⟨es, by rw [hne j hjk]; exact hj⟩, rfl⟩
    · by_cases hjk : j = k
      · subst hjk
        rw [hk] at hj; injection hj with hj
        exact absurd (hr _ _ _ _ _ hj) hb
      · exact ⟨⟨st, by rw [hne j hjk]; exact hj⟩, rfl, fun id' hid' => by rw [St.at_put, if_neg (fun hc => hinj j id' hjk hid' hc.symm)]⟩
  refine ⟨hs, ⟨fun d t pv hg => (h.slot d t pv hg).step hs (hΓ d t pv hg), fun j o hj => ?_, h.inj, fun j id' hj => by simpa [St.put] using h.lt j id' hj, fun id' m hm => ?_, hgrow.fits, h.wf.set _ _, fun id' hid' => ?_⟩⟩
  · by_cases hjk : j = k
    · subst hjk
      rw [hself] at hj; cases hj
      exact ho hs
    · rw [hne j hjk] at hj
      exact (h.obj j o hj).step hs rfl (fun id' hid' => ⟨by rw [St.at_put, if_neg (fun hc => hinj j id' hjk hid' hc.symm)], hR _ (hinj j id' hjk hid')⟩) (hL j o hj hjk)
  · by_cases hc : id' = id
    · subst hc; exact (h.lt _ _ hid).2
    · rw [hR id' hc] at hm; exact h.ltR _ _ hm
  · have := (h.lt _ _ hid).2
    have hid'' : σ.n ≤ id' := hid'
    rw [St.at_put, if_neg (by omega)]; exact h.top id' hid''
theorem J.updNew (h : J ev R φ Γ L E σ) {k : Nat} {lo lo' : LO α} {ob' : Ob} (hk : L[k]? = some lo) (hR : ∀ j, j ≠ σ.n → R' j = R j)
    (hfits : ∀ m cs cep mn, R' σ.n = some m → ob' = .cells cs cep mn → m ≤ cs.length)
    (hr : ∃ s st cut fr z, lo = .row s st cut fr z) (hb : bad k)
    (hΓ : ∀ d t pv, gget d t Γ = some pv → pv.ok bad) (hL : ∀ j o, L[j]? = some o → j ≠ k → o.ok bad)
    (ho : Chg ev ev R φ L σ R' (addφ φ k σ.n) (L.set k lo') (σ.add ob') bad → OR ev R' (addφ φ k σ.n) (L.set k lo') (σ.add ob') k lo') :
    Chg ev ev R φ L σ R' (addφ φ k σ.n) (L.set k lo') (σ.add ob') bad ∧ J ev R' (addφ φ k σ.n) Γ (L.set k lo') E (σ.add ob') := by
  have hkl := getElem?_lt hk
  have hne : ∀ j, j ≠ k → (L.set k lo')[j]? = L[j]? := fun j hj => List.getElem?_set_ne (fun hc => hj hc.symm)
  have hself : (L.set k lo')[k]? = some lo' := by simp [hkl]
  have hφ : ∀ j, j ≠ k → addφ φ k σ.n j = φ j := fun j hj => by simp [addφ, hj]
  have hgrow : GrowR R σ R' (σ.add ob') := by
    refine ⟨fun id' m hm => ?_, fun id' m cs cep mn hm hat => ?_, fun id' m cs cep mn hm hat => ?_⟩
    · have := h.ltR _ _ hm
      exact ⟨m, by rw [hR id' (by omega)]; exact hm, Nat.le_refl _⟩
    · have := h.ltR _ _ hm
      exact ⟨cs, cep, by rw [St.at_add, if_neg (by omega)]; exact hat, Nat.le_refl _, fun _ _ => rfl⟩
    · by_cases hc : id' = σ.n
      · subst hc
        rw [St.at_add, if_pos rfl] at hat
        exact hfits m cs cep mn hm (by injection hat)
      · rw [St.at_add, if_neg (fun hh => hc hh.symm)] at hat
        exact h.fits id' m cs cep mn (by rw [← hR id' hc]; exact hm) hat
  have hs : Chg ev ev R φ L σ R' (addφ φ k σ.n) (L.set k lo') (σ.add ob') bad := by
    obtain ⟨s, st, cut, fr, z, rfl⟩ := hr
    refine .mk' (fun _ _ h => h) hgrow (fun j cs hj => ?_) (fun j kt es hj => ?_) (fun j s st cut fr z hj hb' => ?_)
    · by_cases hjk : j = k
      · subst hjk; rw [hk] at hj; cases hj
      · exact ⟨⟨cs, by rw [hne j hjk]; exact hj⟩, hφ j hjk⟩
    · by_cases hjk : j = k
      · subst hjk; rw [hk] at hj; cases hj
      · exact ⟨⟨es, by rw [hne j hjk]; exact hj⟩, hφ j hjk⟩
    · by_cases hjk : j = k
      · subst hjk; exact absurd hb hb'
      · exact ⟨⟨st, by rw [hne j hjk]; exact hj⟩, hφ j hjk, fun id' hid' => by have := (h.lt _ _ hid').2; rw [St.at_add, if_neg (by omega)]⟩
  refine ⟨hs, ⟨fun d t pv hg => (h.slot d t pv hg).step hs (hΓ d t pv hg), fun j o hj => ?_, fun j j' id' h1 h2 => ?_, fun j id' hj => ?_, fun id' m hm => ?_, hgrow.fits, h.wf.set _ _, fun id' hid' => ?_⟩⟩
  · by_cases hjk : j = k
    · subst hjk
      rw [hself] at hj; cases hj
      exact ho hs
    · rw [hne j hjk] at hj
      refine (h.obj j o hj).step hs (hφ j hjk) (fun id' hid' => ?_) (hL j o hj hjk)
      have := (h.lt _ _ hid').2
      exact ⟨by rw [St.at_add, if_neg (by omega)], hR _ (by omega)⟩
  · unfold addφ at h1 h2
    split at h1 <;> split at h2
    · omega
    · cases h1; have := (h.lt _ _ h2).2; omega
    · cases h2; have := (h.lt _ _ h1).2; omega
    · exact h.inj j j' id' h1 h2
  · unfold addφ at hj
    split at hj
    · cases hj; rename_i hh; subst hh; simp [St.add]; omega
    · have := h.lt _ _ hj; simp [St.add]; omega
  · by_cases hc : id' = σ.n
    · simp [St.add]; omega
    · rw [hR id' hc] at hm; have := h.ltR _ _ hm; simp [St.add]; omega
  · have hid'' : σ.n + 1 ≤ id' := hid'
    rw [St.at_add, if_neg (by omega)]; exact h.top id' (by omega)
end Go.Ev
namespace Go.Ev
variable {P : Program} {N : Nat} {ι : Io} {w : World} {σ σ' : St} {e : Env} {rd : Option Nat} {fn : FuncId} {df : List Df}
abbrev Outs := Ex → Env → St → Prop
def CodeW (P : Program) (N : Nat) (rd : Option Nat) (c : Code) (e : Env) (df : List Df) (σ : St) (CW : Outs) : Prop :=
  ∀ F ι a w Q, FOk F rd ι → Inv N ι σ w → EnvR ι e a.tmps → DfL ι df a.defers → (∀ ex e' σ', CW ex e' σ' → Post N 0 ι w σ ⟨ex, e', df, σ'⟩ Q) → c.wpIn F 0 P Q a w
def RoundsW (P : Program) (N : Nat) (rd : Option Nat) (j : Nat) (c : Code) (e : Env) (df : List Df) (σ : St) (CW : Outs) : Prop :=
  ∀ F ι a w Q, FOk F rd ι → Inv N ι σ w → EnvR ι e a.tmps → DfL ι df a.defers → (∀ ex e' σ', CW ex e' σ' → Post N 0 ι w σ ⟨ex, e', df, σ'⟩ Q) → Code.roundsIn F 0 P c Q j a w
def OpsW (P : Program) (N : Nat) (rd : Option Nat) (ops : Array Oper) (l : List Oper) (e : Env) (df : List Df) (σ : St) (CW : Outs) : Prop :=
  ∀ F ι a w Q k, ops.toList.drop k = l → FOk F rd ι → Inv N ι σ w → EnvR ι e a.tmps → DfL ι df a.defers → (∀ ex e' σ', CW ex e' σ' → Post N 0 ι w σ ⟨ex, e', df, σ'⟩ Q) →
    wpOpsIn F 0 P ops Q (List.range' k l.length) a w
def CallW (P : Program) (N : Nat) (f : FuncId) (args : List IV) (σ : St) (RW : IV → St → Prop) : Prop :=
  ∀ ι us w, Inv N ι σ w → RvL ι args us → CallsIn Fence.wide 0 P f us.toArray w (fun ed w' => ∃ v σ', RW v σ' ∧ RetOk N 0 ι w σ v σ' ed w')
variable {CW CW' : Outs}
theorem CodeW.mono {c : Code} (h : CodeW P N rd c e df σ CW) (hm : ∀ ex e' σ', CW ex e' σ' → CW' ex e' σ') : CodeW P N rd c e df σ CW' :=
  fun F ι a w Q h1 h2 h3 h4 hQ => h F ι a w Q h1 h2 h3 h4 fun ex e' σ' hc => hQ ex e' σ' (hm _ _ _ hc)
theorem post_now {ex : Ex} {a : Act} {Q : Exit → Act → World → Prop} (hi : Inv N ι σ w) (he : EnvR ι e a.tmps) (hd : DfL ι df a.defers) (hQ : Post N 0 ι w σ ⟨ex, e, df, σ⟩ Q) (hp : PanR ι [] ex) : Q (exOf [] ex) a w :=
  hQ a w ι [] hi (Le.refl _ _ _ _) he hd hp
theorem CodeW.skip (h : CW .normal e σ) : CodeW P N rd .skip e df σ CW :=
  fun _ ι a w _ _ hi he hd hQ => wpIn_skip (post_now hi he hd (hQ _ _ _ h) trivial)
theorem CodeW.label {l : Nat} (h : CW .normal e σ) : CodeW P N rd (.label l) e df σ CW :=
  fun _ ι a w _ _ hi he hd hQ => wpIn_label (post_now hi he hd (hQ _ _ _ h) trivial)
theorem CodeW.exit {id : Nat} (h : CW (.exit id) e σ) : CodeW P N rd (.exit id) e df σ CW :=
  fun _ ι a w _ _ hi he hd hQ => wpIn_exit (post_now hi he hd (hQ _ _ _ h) trivial)
theorem CodeW.goto {id : Nat} (h : CW (.goto id) e σ) : CodeW P N rd (.goto id) e df σ CW :=
  fun _ ι a w _ _ hi he hd hQ => wpIn_goto (post_now hi he hd (hQ _ _ _ h) trivial)
theorem CodeW.ret (h : CW .ret e σ) : CodeW P N rd .ret e df σ CW :=
  fun _ ι a w _ _ hi he hd hQ => wpIn_ret (post_now hi he hd (hQ _ _ _ h) trivial)
def Behind (N : Nat) (next : Env → St → Prop) (CW : Outs) : Outs := fun ex e1 σ1 => σ1.n ≤ N ∧ (ex = .normal → next e1 σ1) ∧ (ex ≠ .normal → CW ex e1 σ1)
theorem CodeW.seq {x y : Code} (h : CodeW P N rd x e df σ (Behind N (fun e1 σ1 => CodeW P N rd y e1 df σ1 CW) CW)) : CodeW P N rd (.seq x y) e df σ CW := by
  intro F ι a w Q hF hi he hd hQ
  refine wpIn_seq (h F ι a w _ hF hi he hd fun ex e1 σ1 hc => ?_)
  obtain ⟨hn, h1, h2⟩ := hc
  intro a1 w1 ι1 ch1 i1 l1 e1' d1 p1
  cases ex with
  | normal =>
    refine h1 rfl F ι1 a1 w1 Q (hF.mono l1.ext) i1 e1' d1 fun ex e' σ' hc => (hQ ex e' σ' hc).from hi l1 hn
  | exit id => exact hQ _ _ _ (h2 (by simp)) a1 w1 ι1 ch1 i1 l1 e1' d1 p1
  | goto l => exact hQ _ _ _ (h2 (by simp)) a1 w1 ι1 ch1 i1 l1 e1' d1 p1
  | ret => exact hQ _ _ _ (h2 (by simp)) a1 w1 ι1 ch1 i1 l1 e1' d1 p1
  | pan v => exact hQ _ _ _ (h2 (by simp)) a1 w1 ι1 ch1 i1 l1 e1' d1 p1
theorem CodeW.cond {c : Operand} {x y : Code} {t : Bool} (hc : evalI e c = .raw (.bool t)) (h : CodeW P N rd (if t then x else y) e df σ CW) : CodeW P N rd (.cond c x y) e df σ CW :=
  fun F ι a w Q hF hi he hd hQ => wpIn_cond (rv_bool' hc (he.eval c)) (h F ι a w Q hF hi he hd hQ)
theorem CodeW.block {id : Nat} {x : Code} (h : CodeW P N rd x e df σ (fun ex e1 σ1 => CW (match ex with | .exit i => if i = id then .normal else .exit i | ex => ex) e1 σ1)) : CodeW P N rd (.block id x) e df σ CW := by
  intro F ι a w Q hF hi he hd hQ
  refine wpIn_block (h F ι a w _ hF hi he hd fun ex e1 σ1 hc => ?_)
  intro a1 w1 ι1 ch1 i1 l1 e1' d1 p1
  cases ex with
  | exit i =>
    simp only [exOf, Exit.inBlock]
    simp only at hc
    split
    · rename_i hh; rw [if_pos hh] at hc; exact hQ _ _ _ hc a1 w1 ι1 ch1 i1 l1 e1' d1 trivial
    · rename_i hh; rw [if_neg hh] at hc; exact hQ _ _ _ hc a1 w1 ι1 ch1 i1 l1 e1' d1 trivial
  | normal => exact hQ _ _ _ hc a1 w1 ι1 ch1 i1 l1 e1' d1 p1
  | goto l => exact hQ _ _ _ hc a1 w1 ι1 ch1 i1 l1 e1' d1 p1
  | ret => exact hQ _ _ _ hc a1 w1 ι1 ch1 i1 l1 e1' d1 p1
  | pan v => exact hQ _ _ _ hc a1 w1 ι1 ch1 i1 l1 e1' d1 p1
theorem CodeW.scope {x : Code} (h : CodeW P N rd x e df σ (fun ex e1 σ1 => (∀ l, ex ≠ .goto l) ∧ CW ex e1 σ1)) : CodeW P N rd (.scope x) e df σ CW := by
  intro F ι a w Q hF hi he hd hQ
  refine wpIn_scope (h F ι a w _ hF hi he hd fun ex e1 σ1 hc => ?_)
  obtain ⟨hx, hc⟩ := hc
  intro a1 w1 ι1 ch1 i1 l1 e1' d1 p1
  have := hQ _ _ _ hc a1 w1 ι1 ch1 i1 l1 e1' d1 p1
  cases hh : ex <;> rw [hh] at this <;> first | exact absurd hh (hx _) | exact this
theorem RoundsW.succ {x : Code} {j : Nat} (h : CodeW P N rd x e df σ (Behind N (fun e1 σ1 => RoundsW P N rd j x e1 df σ1 CW) CW)) : RoundsW P N rd (j + 1) x e df σ CW := by
  intro F ι a w Q hF hi he hd hQ
  rw [roundsIn_succ]
  refine h F ι a w _ hF hi he hd fun ex e1 σ1 hc => ?_
  obtain ⟨hn, h1, h2⟩ := hc
  intro a1 w1 ι1 ch1 i1 l1 e1' d1 p1
  cases ex with
  | normal =>
    refine h1 rfl F ι1 a1 w1 Q (hF.mono l1.ext) i1 e1' d1 fun ex e' σ' hc => (hQ ex e' σ' hc).from hi l1 hn
  | exit id => exact hQ _ _ _ (h2 (by simp)) a1 w1 ι1 ch1 i1 l1 e1' d1 p1
  | goto l => exact hQ _ _ _ (h2 (by simp)) a1 w1 ι1 ch1 i1 l1 e1' d1 p1
  | ret => exact hQ _ _ _ (h2 (by simp)) a1 w1 ι1 ch1 i1 l1 e1' d1 p1
  | pan v => exact hQ _ _ _ (h2 (by simp)) a1 w1 ι1 ch1 i1 l1 e1' d1 p1
theorem CodeW.loop {x : Code} {j : Nat} (h : RoundsW P N rd j x e df σ CW) : CodeW P N rd (.loop x) e df σ CW :=
  fun F ι a w Q hF hi he hd hQ => wpIn_loop_rounds j (h F ι a w Q hF hi he hd hQ)
theorem CodeW.region {id : Nat} {ops : Array Oper} (h : OpsW P N rd ops ops.toList e df σ CW) : CodeW P N rd (.region id ops false) e df σ CW := by
  intro F ι a w Q hF hi he hd hQ
  refine wpIn_region ?_
  have := h F ι a w Q 0 (by simp) hF hi he hd hQ
  rw [List.range_eq_range']
  simpa using this
theorem CodeW.ofS {c : Code} {cr : CR} (h : SCode P 0 rd fn c e df σ cr) (hdf : cr.df = df) (hn : cr.σ.n ≤ N) (hc : CW cr.ex cr.e cr.σ) : CodeW P N rd c e df σ CW := by
  intro F ι a w Q hF hi he hd hQ
  refine h.wp hn hF hi he hd ?_
  have := hQ _ _ _ hc
  rw [← hdf] at this
  exact this
variable {ops : Array Oper} {o : Oper} {l : List Oper}
theorem OpsW.nil (h : CW .normal e σ) : OpsW P N rd ops [] e df σ CW :=
  fun _ ι a w _ _ _ _ hi he hd hQ => post_now hi he hd (hQ _ _ _ h) trivial
theorem OpsW.cons (hw : wantedI o ops e = true)
    (h : ∀ F ι a w Q k, ops.toList.drop (k + 1) = l → FOk F rd ι → Inv N ι σ w → EnvR ι e a.tmps → DfL ι df a.defers → (∀ ex e' σ', CW ex e' σ' → Post N 0 ι w σ ⟨ex, e', df, σ'⟩ Q) →
      o.wpIn F 0 P a w (wpOpsIn F 0 P ops Q (List.range' (k + 1) l.length)) Q) : OpsW P N rd ops (o :: l) e df σ CW := by
  intro F ι a w Q k hl hF hi he hd hQ
  have hrest : ops.toList.drop (k + 1) = l := by
    rw [← List.drop_drop (i := 1) (j := k), hl]; rfl
  have hok : ops[k]? = some o := by
    have : (ops.toList.drop k)[0]? = some o := by rw [hl]; rfl
    simpa using this
  simp only [List.length_cons, List.range'_succ]
  rw [wpOpsIn_cons]
  unfold wpOpIn
  rw [hok]
  simp only
  rw [wanted_eq he, if_pos hw]
  exact h F ι a w Q k hrest hF hi he hd hQ
theorem OpsW.skip (hw : wantedI o ops e = false) (h : OpsW P N rd ops l (e.put o.dst .undef) df σ CW) : OpsW P N rd ops (o :: l) e df σ CW := by
  intro F ι a w Q k hl hF hi he hd hQ
  have hrest : ops.toList.drop (k + 1) = l := by
    rw [← List.drop_drop (i := 1) (j := k), hl]; rfl
  have hok : ops[k]? = some o := by
    have : (ops.toList.drop k)[0]? = some o := by rw [hl]; rfl
    simpa using this
  simp only [List.length_cons, List.range'_succ]
  rw [wpOpsIn_cons]
  unfold wpOpIn
  rw [hok]
  simp only
  rw [wanted_eq he, hw, if_neg (by simp)]
  exact ⟨fun f _ => hF.fn f, h F ι _ w Q (k + 1) hrest hF hi (he.put rv_undef _) (by cases o.dst <;> exact hd) hQ⟩
theorem OpsW.val {v : IV} {σ1 : St} (hw : wantedI o ops e = true) (hv : evOp P 0 (evalI e) o σ = some (.val v σ1)) (hn : σ1.n ≤ N) (h : OpsW P N rd ops l (e.put o.dst v) df σ1 CW) : OpsW P N rd ops (o :: l) e df σ CW := by
  refine .cons hw fun F ι a w Q k hl hF hi he hd hQ => ?_
  refine ⟨fun f _ => hF.fn f, ?_⟩
  rw [Oper.semAt_eq _ _ _ (op_noDefer hv (by simp))]
  obtain ⟨u, w', ι', hr, h2, h3, h4⟩ := op_ok hi he.eval hv hn
  have key : wpOpsIn F 0 P ops Q (List.range' (k + 1) l.length) (a.put o.dst u) w' :=
    h F ι' _ w' Q (k + 1) hl (hF.mono h4.ext) h3 ((he.mono h4.ext).put h2 _) (hd.mono h4.ext |> fun x => by cases o.dst <;> exact x) (fun ex e' σ' hc => (hQ ex e' σ' hc).from hi h4 hn)
  rcases hr with hr | ⟨hr, rfl⟩
  · rw [hr, Oper.uponIn_value]; exact key
  · rw [hr, Oper.uponIn_skip]; exact key
theorem OpsW.call {f : FuncId} {args : List IV} {RW : IV → St → Prop} (hw : wantedI o ops e = true) (hv : evOp P 0 (evalI e) o σ = some (.enter f args)) (hc : CallW P N f args σ RW)
    (h : ∀ v σ1, RW v σ1 → σ1.n ≤ N ∧ OpsW P N rd ops l (e.put o.dst v) df σ1 CW) : OpsW P N rd ops (o :: l) e df σ CW := by
  refine .cons hw fun F ι a w Q k hl hF hi he hd hQ => ?_
  refine ⟨fun f _ => hF.fn f, ?_⟩
  rw [Oper.semAt_eq _ _ _ (op_noDefer hv (by simp))]
  obtain ⟨us, hr, h3⟩ := op_ok hi he.eval hv
  rw [hr, Oper.uponIn_enter]
  refine ⟨hF.depth, (hF.calls (hc ι us w hi h3)).mono fun ed w' hR => ?_⟩
  obtain ⟨v, σ1, hrw, hR⟩ := hR
  obtain ⟨hn, h⟩ := h v σ1 hrw
  cases ed with
  | returned u =>
    obtain ⟨ι', h2, h3, h4⟩ := hR
    exact h F ι' _ w' Q (k + 1) hl (hF.mono h4.ext) h3 ((he.mono h4.ext).put h2 _) (hd.mono h4.ext |> fun x => by cases o.dst <;> exact x) (fun ex e' σ' hc => (hQ ex e' σ' hc).from hi h4 hn)
  | outgrown => exact hR.elim
  | panicked chain => exact hR.elim
theorem CallW.ofS {f : FuncId} {args : List IV} {v : IV} (h : SCall P 0 f args σ v σ') (hn : σ'.n ≤ N) : CallW P N f args σ (fun v1 σ1 => v1 = v ∧ σ1 = σ') :=
  fun ι us w hi hr => (h.2 N hn ι us w hi hr).mono fun ed w' hR => ⟨v, σ', ⟨rfl, rfl⟩, hR⟩
theorem CallW.body {f : FuncId} {fn : Func} {c : Code} {args : List IV} {RW : IV → St → Prop} (hfn : P.funcs[f]? = some fn) (hb : fn.body = some c) (hlen : args.length ≤ fn.ntmps)
    (h : CodeW P N none c (argEnv args fn.ntmps) [] σ (fun ex e1 σ1 => (ex = .normal ∨ ex = .ret) ∧ σ1.n ≤ N ∧ ∃ v, resultOf P fn e1 σ1 = some v ∧ RW v σ1)) : CallW P N f args σ RW := by
  intro ι us w hi hr
  refine callsIn_of_wp_marks hfn hb trivial ?_
  refine h Fence.wide ι { tmps := us.toArray ++ Array.replicate (fn.ntmps - us.toArray.size) Go.undef, defers := [] } w _ (.inl ⟨rfl, rfl⟩) hi (env_args hr hlen) trivial fun ex e1 σ1 hc => ?_
  obtain ⟨hex, hn, v, hv, hrw⟩ := hc
  intro a1 w1 ι1 ch1 i1 l1 e1' d1 p1
  have : ∀ u, ModeR ι1 none u → LeavesInM Fence.wide 0 P fn a1.tmps (fun ed w' => ∃ v σ', RW v σ' ∧ RetOk N 0 ι w σ v σ' ed w') a1.defers u w1 := fun u hu =>
    leave_ok (S := Self.none) (ro := 0) (none_ok (P := P)).1 (none_ok (P := P)).2 rfl d1 hu i1 hn fun w2 ι2 u2 i2 l2 hu2 => by
      rw [show u2 = _ from hu2]
      obtain ⟨u, k1, k2⟩ := results_ok hv i2 (e1'.mono l2.ext)
      exact ⟨u, k1, v, σ1, hrw, ι2, k2, i2, Le.then hi hn l1 l2⟩
  rcases hex with rfl | rfl
  · exact this _ rfl
  · exact this _ rfl
theorem PCall.ofW {new : Bool} {f : FuncId} {xs : List IV} {z : IV} {RW : IV → St → Prop} {N : Nat} (h : CallW P N f xs ⟨0, .lf⟩ RW) (hc : ∀ v σ', RW v σ' → Can (!new) σ' v z) : PCall P false new f xs z := by
  intro M w us hM hr
  refine (h (frz M) us w (inv_frz hM) hr).mono fun e w' hR => ?_
  obtain ⟨v, σ', hrw, hR⟩ := hR
  cases e with
  | returned u =>
    obtain ⟨ι', h1, h2, h3⟩ := hR
    exact ⟨rfl, pres_of hM (hc v σ' hrw) h1 h2 h3⟩
  | panicked ch => exact hR.elim
  | outgrown => exact hR.elim
end Go.Ev
