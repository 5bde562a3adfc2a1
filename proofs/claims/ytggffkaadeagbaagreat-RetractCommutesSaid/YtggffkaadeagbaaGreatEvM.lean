/- Lemmas over the model, without conditions of their own: operations on expressions (3). -/
import Derived.Test.YtggffkaadeagbaaGreatEvL
import Derived.Test.YtggffkaadeagbaaGreatEvI
set_option linter.all false
namespace Go.Ev
variable {P : Program} {N : Nat} {σ σ' : St} {R R' : Rs} {φ φ' : Ph} {E : Nat → Env} {ν : List IV}
variable {C : Cr} {Q : IV → Prop} {K : List (List IV → Prop)} {V : SS} {d : Nat} {o : Oper} {k : PV SE → SS → FIR} {L : List (LO SE)} {Γ : Gm SE}
variable (hJ : J (evd P ν) R φ V.g V.l E σ) (hn : ν.length = V.n)
include hJ
theorem capS_ok : ∀ {xs : List Operand} {bs : List (Nat × Nat)}, capS P d V xs = some bs → All2 (fun y (p : Nat × Nat) => ∃ id cs, φ p.1 = some id ∧ V.l[p.1]? = some (.var cs) ∧ y = .ptr id 0 0 p.2) (xs.map (evalI (E d))) bs
  | [], bs, h => by
    simp only [capS, Option.some.injEq] at h
    subst h; trivial
  | x :: xs, bs, h => by
    simp only [capS] at h
    split at h
    · rename_i j ext hx
      split at h
      · rename_i l hl
        simp only [Option.some.injEq] at h
        subst h
        have hv := opd_ok hJ d 0 x
        rw [hx] at hv
        exact ⟨hv, capS_ok hl⟩
      · cases h
    · cases h
include hn
theorem xop_makeFunc {f : FuncId} {first cap : Array Operand} (ho : o.op = .makeFunc (.func f) first cap) (hs : (opS2 P d o V k).sat P C Q K ν) : OutV P C Q K ν E V.ln k (Res P E d o σ) := by
  unfold opS2 at hs; rw [ho] at hs; simp only at hs
  split at hs
  · rename_i hf
    split at hs
    · rename_i bs hb
      refine .at (x := .fn (.func f) [] (cap.toList.map (evalI (E d)))) hs hJ hn rfl (.inr ⟨_, rfl, capS_ok hJ hb⟩) ?_
      simp only [List.isEmpty_iff] at hf
      simp [Res, evOp, ho, ret, hf]
    · exact hs.elim
  · exact hs.elim
theorem xop_makeMap {t : TypeId} {r : Option Operand} (ho : o.op = .makeMap t r) (hs : (opS2 P d o V k).sat P C Q K ν) : OutV P C Q K ν E V.ln k (Res P E d o σ) := by
  unfold opS2 at hs; rw [ho] at hs; simp only at hs
  split at hs
  · rename_i kt et hu
    have h1 := hJ.addO (.map [] 0) (.mp kt (.tp .an)) ⟨σ.n, [], 0, [], by simp [evd, SE.den], by simp [addφ], hJ.R_none, by simp, trivial⟩
    refine .at (x := .map σ.n) (V1 := { V with l := V.l ++ [.mp kt (.tp .an)] }) hs h1 hn rfl ⟨σ.n, kt, SE.tp .an, by simp [addφ], by simp, rfl⟩ ?_
    simp [Res, evOp, ho, ret]
  · exact hs.elim
end Go.Ev
namespace Go.Ev
variable {P : Program} {N : Nat} {σ σ' : St} {R R' : Rs} {φ φ' : Ph} {E : Nat → Env} {ν : List IV}
variable {C : Cr} {Q : IV → Prop} {K : List (List IV → Prop)} {V : SS} {d : Nat} {o : Oper} {k : PV SE → SS → FIR} {L : List (LO SE)} {Γ : Gm SE}
theorem keyOf_raw {x : IV} {v : Value} (h : keyOf x = some v) : x = .raw v ∧ toRaw x = some v ∧ lift v = .raw v := by
  unfold keyOf at h
  split at h <;> first | (cases h; exact ⟨rfl, rfl, rfl⟩) | cases h
theorem lift_key {u v : Value} (h : keyOf (lift u) = some v) : u = v := by
  obtain ⟨h1, _, _⟩ := keyOf_raw h
  unfold lift at h1
  split at h1
  · cases h1
  · cases h1; rfl
theorem keys_of {es : List (Value × IV × Nat)} {ds : List IV} {ks : List Value} (he : entsR R σ es ds) (h : keysOf ds = some ks) : es.map (·.1) = ks := by
  unfold entsR at he
  induction ds generalizing es ks with
  | nil =>
    cases es with
    | nil => simp only [keysOf, Option.some.injEq] at h; subst h; rfl
    | cons => exact he.elim
  | cons d ds ih =>
    cases es with
    | nil => exact he.elim
    | cons e es =>
      obtain ⟨⟨z, rfl, _⟩, h2⟩ := he
      simp only [keysOf] at h
      split at h
      · rename_i v vs h3 h4
        simp only [Option.some.injEq] at h
        subst h
        simp only [List.map_cons, lift_key h3, ih h2 h4]
      · cases h
theorem findNow_at {kd : TypeDesc} {key : Value} : ∀ {es : List (Value × IV × Nat)} {n : Nat} {q : Option Nat}, nowAt kd key (es.map (·.1)) n = some q →
    ∃ r, Instr.findNow kd key (es.map fun e => { key := e.1, val := Go.undef, born := e.2.2 }) n = some r ∧ (q = none → r = none) ∧ (∀ j, q = some j → (∃ v, r = some (j, v)) ∧ n ≤ j ∧ ∃ e, es[j - n]? = some e ∧ Instr.sameNow kd key e.1 = some true)
  | [], n, q, h => by
    simp only [List.map_nil, nowAt, Option.some.injEq] at h
    subst h
    exact ⟨none, rfl, fun _ => rfl, fun j hj => by cases hj⟩
  | e :: es, n, q, h => by
    simp only [List.map_cons, nowAt] at h
    simp only [List.map_cons, Instr.findNow]
    split at h
    · rename_i hs
      simp only [Option.some.injEq] at h
      subst h
      refine ⟨some (n, Go.undef), by rw [hs], (fun h => by cases h), fun j hj => ?_⟩
      cases hj
      exact ⟨⟨_, rfl⟩, Nat.le_refl _, e, by simp, hs⟩
    · rename_i hs
      obtain ⟨r, h1, h2, h3⟩ := findNow_at h
      refine ⟨r, by rw [hs]; exact h1, h2, fun j hj => ?_⟩
      obtain ⟨h4, h5, e', h6, h7⟩ := h3 j hj
      refine ⟨h4, by omega, e', ?_, h7⟩
      rw [show j - n = (j - (n + 1)) + 1 by omega]
      simpa using h6
    · cases h
theorem run_underlying {t : TypeId} {kd : TypeDesc} (h : P.underlying t = some kd) : pureRun P (underlying t) = some kd := by
  unfold underlying
  rw [pureRun_bind]
  show (pureRun P (.program fun p => .pure p)).bind _ = _
  simp only [pureRun, Option.bind_some, h]
  rfl
theorem keyAt_now {kt : TypeId} {ds : List IV} {x : IV} {q : Option Nat} {es : List (Value × IV × Nat)} (he : entsR R σ es ds) (h : denAt P kt ds x = some q) (b : Bool) :
    ∃ key, x = .raw key ∧ toRaw x = some key ∧ lift key = .raw key ∧ keyAt P b kt key es = some q ∧ ∀ j, q = some j → ∃ e, es[j]? = some e ∧ Instr.sameBits 10000 e.1 key = true := by
  unfold denAt at h
  split at h
  · rename_i kd ks key hk hks hkey
    obtain ⟨h1, h2, h3⟩ := keyOf_raw hkey
    have hes := keys_of he hks
    rw [← hes] at h
    obtain ⟨r, g1, g2, g3⟩ := findNow_at h
    refine ⟨key, h1, h2, h3, ?_, fun j hj => ?_⟩
    · have hu : P.underlying kt = some kd ∧ ((∃ q, kd = .int q) ∨ kd = .string) := by
        unfold simpleK at hk
        split at hk
        · rename_i q hq; cases hk; exact ⟨hq, .inl ⟨_, rfl⟩⟩
        · rename_i hq; cases hk; exact ⟨hq, .inr rfl⟩
        · cases hk
      have hck : pureRun P (Instr.checkKey b 10000 kt key) = some () := by
        show pureRun P (Instr.checkKey b (9999 + 1) kt key) = some ()
        unfold Instr.checkKey
        rw [pureRun_bind, run_underlying hu.1, Option.bind_some]
        rcases hu.2 with ⟨q, rfl⟩ | rfl <;> rfl
      have hfk : pureRun P (Instr.findKey kt key (es.map fun e => { key := e.1, val := Go.undef, born := e.2.2 })) = some r := by
        unfold Instr.findKey
        rw [pureRun_bind, run_underlying hu.1, Option.bind_some, g1]
        rfl
      unfold keyAt
      rw [pureRun_bind, hck, Option.bind_some, hfk]
      cases q with
      | none => rw [g2 rfl]
      | some j => obtain ⟨⟨v, rfl⟩, _⟩ := g3 j rfl; rfl
    · obtain ⟨_, _, e, g4, g5⟩ := g3 j hj
      refine ⟨e, by simpa using g4, ?_⟩
      unfold Instr.sameNow at g5
      split at g5
      · rename_i hh
        split at g5
        · rename_i hq
          simp only [Option.some.injEq] at g5
          rw [‹e.1 = _›]
          simp [Instr.sameBits, hq, eq_of_beq g5]
        · cases g5
      · rename_i a b he1
        rw [he1]
        simp only [Option.some.injEq] at g5
        have hd : a.data = b.data := eq_of_beq (show (a.data == b.data) = true from g5)
        show (b.data == a.data) = true
        simp [hd]
      · rw [‹e.1 = _›]
        simp only [Option.some.injEq] at g5
        simp [Instr.sameBits, eq_of_beq g5]
      · cases g5
  · cases h
end Go.Ev
namespace Go.Ev
variable {P : Program} {N : Nat} {σ σ' : St} {R R' : Rs} {φ φ' : Ph} {E : Nat → Env} {ν : List IV}
variable {C : Cr} {Q : IV → Prop} {K : List (List IV → Prop)} {V : SS} {d : Nat} {o : Oper} {k : PV SE → SS → FIR} {L : List (LO SE)} {Γ : Gm SE}
theorem All2.set2 {α β : Type} {r : α → β → Prop} {a : α} {b : β} (hr : r a b) : ∀ {as : List α} {bs : List β} {i : Nat}, All2 r as bs → All2 r (as.set i a) (bs.set i b)
  | [], [], i, _ => by simp; trivial
  | _ :: _, _ :: _, 0, h => ⟨hr, h.2⟩
  | _ :: _, _ :: _, i + 1, h => ⟨h.1, All2.set2 hr h.2⟩
  | [], _ :: _, _, h => h.elim
  | _ :: _, [], _, h => h.elim
theorem map_upd (hJ : J (evd P ν) R φ V.g V.l E σ) (hn : ν.length = V.n) {j id : Nat} {kt : TypeId} {es0 : SE} (hj : V.l[j]? = some (.mp kt es0)) {es es' : List (Value × IV × Nat)} {clock clock' : Nat} {ds' : List IV} (hφ : φ j = some id) (hR : R id = none) (hat : σ.at id = some (.map es clock))
    (he : entsR R σ es' ds') : J (evd P (ν ++ [.tup ds'])) R φ V.g (V.l.set j (.mp kt (.var V.n))) E (σ.put id (.map es' clock')) := by
  have hJ1 := hJ.up (ev' := evd P (ν ++ [.tup ds'])) (fun e y h => SE.den_app P e h)
  exact (hJ1.updPut (R' := R) (bad := fun _ => False) (lo' := .mp kt (.var V.n)) (ob' := .map es' clock') hφ hj (fun _ _ => rfl)
    (fun m hm => by rw [hR] at hm; cases hm) (fun m _ _ _ hm => by rw [hR] at hm; cases hm) (fun m _ _ _ hm => by rw [hR] at hm; cases hm)
    (fun _ h => by cases h) (fun _ _ _ => by rename_i h; cases h; exact ⟨_, rfl⟩) (fun _ _ _ _ _ h => by cases h) (fun _ _ pv _ => pv.ok_false) (fun _ o _ _ => o.ok_false)
    (fun hs1 => ⟨id, es', clock', ds', by simp [evd, SE.den, ← hn], hφ, hR, by rw [St.at_put, if_pos rfl], he.mono fun _ _ ⟨z, h1, h2⟩ => ⟨z, h1, h2.mono hs1.grow⟩⟩)).2
theorem valS_ok (hJ : J (evd P ν) R φ V.g V.l E σ) {x : IV} {pv : PV SE} {xe : SE} (hx : VR (evd P ν) R φ V.l σ x pv) (h : valS pv = some xe) : ∃ xv, xe.den P ν = some xv ∧ CanR true R σ x xv := by
  unfold valS at h
  split at h
  · cases h
    obtain ⟨y, h1, h2, _⟩ := hx
    exact ⟨y, h1, h2.mono hJ.noR⟩
  · cases h
    obtain ⟨xs, rfl, h2⟩ := hx
    cases xs with
    | nil => exact ⟨.agg [], rfl, .agg [] [] rfl fun i c d h1 _ => by simp at h1⟩
    | cons => exact h2.elim
  · cases h
theorem xop_update {t : TypeId} {m key x : Operand} (hJ : J (evd P ν) R φ V.g V.l E σ) (hn : ν.length = V.n) (ho : o.op = .mapUpdate t m key x ∨ o.op = .insert t m key x) (hs : (opS2 P d o V k).sat P C Q K ν) : OutV P C Q K ν E V.ln k (Res P E d o σ) := by
  have hs1 : (match P.underlying t with
    | some (.map kt et) => updateS kt (opdS P d V t m) (opdS P d V kt key) (opdS P d V et x) V k
    | _ => .fail 66).sat P C Q K ν := by
    rcases ho with ho | ho <;> (unfold opS2 at hs; rw [ho] at hs; exact hs)
  split at hs1 <;> first | (exact hs1.elim) | skip
  rename_i kt et hu
  unfold updateS at hs1
  split at hs1 <;> first | (exact hs1.elim) | skip
  rename_i j ke xe hm hk hx
  split at hs1 <;> first | (exact hs1.elim) | skip
  rename_i kt' es0 hj
  split at hs1 <;> first | (exact hs1.elim) | skip
  rename_i hkt
  have hkt' := Nat.eq_of_beq_eq_true hkt
  subst hkt'
  obtain ⟨z, hz, hsat⟩ := hs1
  have hmv := opd_ok hJ d t m
  have hkv := opd_ok hJ d kt key
  obtain ⟨xv, b1', hxr⟩ := valS_ok hJ (opd_ok hJ d et x) hx
  rw [hm] at hmv; rw [hk] at hkv
  obtain ⟨id, kt2, es2, g1, g2, g3⟩ := hmv
  obtain ⟨kv, a1, a2, _⟩ := hkv
  obtain ⟨id', es, clock, ds, c1, c2, c3, c4, c5⟩ := hJ.obj j _ hj
  rw [g1] at c2; cases c2
  have c1' : es0.den P ν = some (.tup ds) := c1
  have a1' : ke.den P ν = some kv := a1
  simp only [SE.den, c1', a1', b1', Option.bind_some] at hz
  have fin : ∀ {es' : List (Value × IV × Nat)} {clock' : Nat} {ds' : List IV}, entsR R σ es' ds' → z = .tup ds' → mapSet P 0 kt (evalI (E d) m) (evalI (E d) key) (evalI (E d) x) σ = some (σ.put id (.map es' clock')) → OutV P C Q K ν E V.ln k (Res P E d o σ) := by
    intro es' clock' ds' he hz2 hset
    subst hz2
    have hJ2 := map_upd (clock' := clock') hJ hn hj g1 c3 c4 he
    refine ⟨.undef, _, R, φ, .one .un, { V with n := V.n + 1, l := V.l.set j (.mp kt (.var V.n)) }, [.tup ds'], ?_, hJ2, trivial, by simp [hn], rfl, hsat⟩
    rcases ho with ho | ho <;> simp [Res, evOp, ho, hu, hset, ret]
  split at hz
  · rename_i q hq
    obtain ⟨kk, e1, e2, e3, e4, e5⟩ := keyAt_now c5 hq false
    subst e1
    have hkr := canRaw a2
    obtain ⟨e, h6, h7⟩ := e5 q rfl
    refine fin (es' := es.set q (kk, evalI (E d) x, e.2.2)) (clock' := clock) (ds' := ds.set q (.tup [.raw kk, xv])) (All2.set2 ⟨xv, by rw [e3], hxr⟩ c5) (by simpa using hz.symm) ?_
    unfold mapSet
    rw [g3, hkr]
    simp only [e2, c4, e4, h6, h7, if_true, Nat.zero_le, not_true, if_false]
  · rename_i hq
    obtain ⟨kk, e1, e2, e3, e4, e5⟩ := keyAt_now c5 hq false
    subst e1
    have hkr := canRaw a2
    refine fin (es' := es ++ [(kk, evalI (E d) x, clock)]) (clock' := clock + 1) (ds' := ds ++ [.tup [.raw kk, xv]]) (c5.app ⟨⟨xv, by rw [e3], hxr⟩, trivial⟩) (by simpa using hz.symm) ?_
    unfold mapSet
    rw [g3, hkr]
    simp only [e2, c4, e4, Nat.zero_le, not_true, if_false]
  · cases hz
theorem zeroS_ok {t : TypeId} {e : SE} (h : zeroS P t = some e) : ∃ v, zeroOf? P t = some v ∧ e.den P ν = some (.raw v) ∧ lift v = .raw v := by
  unfold zeroS at h
  split at h <;> first | (cases h; exact ⟨_, ‹_›, rfl, rfl⟩) | cases h
theorem canNil {fr : Bool} {x : IV} (h : CanR fr R σ x (.agg [])) : x = .agg [] := by
  cases h with
  | agg cs _ hl _ =>
    have h0 : cs = [] := List.eq_nil_of_length_eq_zero (by simpa using hl)
    rw [h0]
  | pure => rfl
theorem unitT_ok {t : TypeId} (h : unitT P t = true) : zeroOf? P t = some (.agg #[]) := by
  unfold unitT at h
  split at h
  · rename_i cs hc
    rw [hc]
    have : cs.toList = [] := by simpa using h
    rw [show cs = #[] from by cases cs; simp at this; rw [this]]
  · cases h
theorem xop_lookupU {t : TypeId} {m key : Operand} {kt et : TypeId} (hJ : J (evd P ν) R φ V.g V.l E σ) (hn : ν.length = V.n) (ho : o.op = .lookup t m key true) (hu : P.underlying t = some (.map kt et)) (hz : unitT P et = true)
    (hs : (lookupU kt (opdS P d V t m) (opdS P d V kt key) V k).sat P C Q K ν) : OutV P C Q K ν E V.ln k (Res P E d o σ) := by
  have hz0 := unitT_ok hz
  unfold lookupU at hs
  split at hs <;> first | (exact hs.elim) | skip
  rename_i j ke hm hk
  split at hs <;> first | (exact hs.elim) | skip
  rename_i kt' es0 hj
  split at hs <;> first | (exact hs.elim) | skip
  rename_i hkt
  have hkt' := Nat.eq_of_beq_eq_true hkt
  subst hkt'
  obtain ⟨⟨u, hu0⟩, h, hh, hs⟩ := hs
  have hmv := opd_ok hJ d t m
  have hkv := opd_ok hJ d kt key
  rw [hm] at hmv; rw [hk] at hkv
  obtain ⟨id, kt2, es2, g1, g2, g3⟩ := hmv
  obtain ⟨kv, a1, a2, _⟩ := hkv
  obtain ⟨id', es, clock, ds, c1, c2, c3, c4, c5⟩ := hJ.obj j _ hj
  rw [g1] at c2; cases c2
  have c1' : es0.den P ν = some (.tup ds) := c1
  have a1' : ke.den P ν = some kv := a1
  have hg : ∃ q, denAt P kt ds kv = some q ∧ (q = none ∨ ∃ i a, q = some i ∧ ds[i]? = some (.tup [a, .agg []])) := by
    simp only [SE.den, c1', a1', Option.bind_some] at hu0
    cases hq : denAt P kt ds kv with
    | none => rw [hq] at hu0; simp at hu0
    | some q =>
      refine ⟨q, rfl, ?_⟩
      rw [hq] at hu0
      cases q with
      | none => exact .inl rfl
      | some i =>
        refine .inr ?_
        simp only at hu0
        split at hu0
        · rename_i a y hd
          simp only [Option.bind_some] at hu0
          split at hu0
          · rename_i cs
            split at hu0
            · rename_i hc
              have : cs = [] := List.eq_nil_of_length_eq_zero hc.1
              subst this
              exact ⟨i, a, rfl, hd⟩
            · cases hu0
          · cases hu0
        · simp at hu0
  obtain ⟨q, hq, hu2⟩ := hg
  obtain ⟨kk, e1, e2, e3, e4, e5⟩ := keyAt_now c5 hq es.isEmpty
  subst e1
  have hkr := canRaw a2
  simp only [SE.den, c1', a1', Option.bind_some, hq, Option.map_some, Option.some.injEq] at hh
  subst hh
  have hJ1 := hJ.up (ev' := evd P (ν ++ [.bool q.isSome])) (fun e y h => SE.den_app P e h)
  have hent : entriesOf σ (evalI (E d) m) = some es := by rw [g3]; simp [entriesOf, c4]
  have hres : evOp P 0 (evalI (E d)) o σ = some (.val (.tup [.agg [], .raw (.bool q.isSome)]) σ) := by
    simp only [evOp, ho, hu, hent, hkr, e2, e4, hz0]
    rcases hu2 with rfl | ⟨i, a, rfl, hd⟩
    · simp [ret, lift]
    · obtain ⟨e, h6, _⟩ := e5 i rfl
      obtain ⟨z', h8, h9⟩ := All2.get c5 h6 hd
      simp only [IV.tup.injEq, List.cons.injEq, and_true] at h8
      obtain ⟨_, rfl⟩ := h8
      simp [ret, h6, canNil h9]
  refine ⟨.tup [.agg [], .raw (.bool q.isSome)], σ, R, φ, .tu [(true, []), (false, [.v (.var V.n)])], { V with n := V.n + 1 }, [.bool q.isSome], hres, hJ1, ⟨_, rfl, ⟨[], rfl, trivial⟩, ⟨_, rfl, .raw (.bool q.isSome), ?_, .raw _, rfl⟩, trivial⟩, by simp [hn], rfl, hs⟩
  simp [evd, SE.den, ← hn]
theorem xop_lookup {t : TypeId} {m key : Operand} {ok : Bool} (hJ : J (evd P ν) R φ V.g V.l E σ) (hn : ν.length = V.n) (ho : o.op = .lookup t m key ok) (hs : (opS2 P d o V k).sat P C Q K ν) : OutV P C Q K ν E V.ln k (Res P E d o σ) := by
  unfold opS2 at hs; rw [ho] at hs; simp only at hs
  split at hs <;> first | (exact hs.elim) | skip
  rename_i kt et hu
  split at hs
  · rename_i hok
    simp only [Bool.and_eq_true] at hok
    obtain ⟨rfl, hz⟩ := hok
    exact xop_lookupU hJ hn ho hu hz hs
  unfold lookupS at hs
  split at hs <;> first | (exact hs.elim) | skip
  rename_i j ke z0 hm hk hz0
  split at hs <;> first | (exact hs.elim) | skip
  rename_i kt' es0 hj
  split at hs <;> first | (exact hs.elim) | skip
  rename_i hkt
  have hkt' := Nat.eq_of_beq_eq_true hkt
  subst hkt'
  obtain ⟨z, hz, hs⟩ := hs
  obtain ⟨hz1, hzok⟩ := den_ok hz
  have hmv := opd_ok hJ d t m
  have hkv := opd_ok hJ d kt key
  rw [hm] at hmv; rw [hk] at hkv
  obtain ⟨id, kt2, es2, g1, g2, g3⟩ := hmv
  obtain ⟨kv, a1, a2, _⟩ := hkv
  obtain ⟨id', es, clock, ds, c1, c2, c3, c4, c5⟩ := hJ.obj j _ hj
  rw [g1] at c2; cases c2
  have c1' : es0.den P ν = some (.tup ds) := c1
  have a1' : ke.den P ν = some kv := a1
  obtain ⟨v0, y1, y2, y3⟩ := zeroS_ok (ν := ν) hz0
  have hg : ∃ q, denAt P kt ds kv = some q ∧ ∃ u, z = .raw u ∧ ((q = none ∧ u = v0) ∨ ∃ i a, q = some i ∧ ds[i]? = some (.tup [a, .raw u])) := by
    simp only [SE.den, c1', a1', y2, Option.bind_some] at hz1
    cases hq : denAt P kt ds kv with
    | none => rw [hq] at hz1; simp at hz1
    | some q =>
      refine ⟨q, rfl, ?_⟩
      rw [hq] at hz1
      cases q with
      | none =>
        simp only [Option.bind_some, isRaw1, if_true, Option.some.injEq] at hz1
        exact ⟨v0, hz1.symm, .inl ⟨rfl, rfl⟩⟩
      | some i =>
        simp only at hz1
        split at hz1
        · rename_i a y hd
          simp only [Option.bind_some] at hz1
          split at hz1
          · rename_i hr
            cases hz1
            cases z <;> simp only [isRaw1] at hr <;> first | (cases hr; done) | skip
            rename_i u
            exact ⟨u, rfl, .inr ⟨i, a, rfl, hd⟩⟩
          · cases hz1
        · simp at hz1
  obtain ⟨q, hq, u, rfl, hu2⟩ := hg
  obtain ⟨kk, e1, e2, e3, e4, e5⟩ := keyAt_now c5 hq es.isEmpty
  subst e1
  have hkr := canRaw a2
  have hJ1 := hJ.up (ev' := evd P (ν ++ [.raw u])) (fun e y h => SE.den_app P e h)
  have hvar : (SE.var V.n).den P (ν ++ [.raw u]) = some (.raw u) := by simp [SE.den, ← hn]
  have hent : entriesOf σ (evalI (E d) m) = some es := by rw [g3]; simp [entriesOf, c4]
  have hres : evOp P 0 (evalI (E d)) o σ = some (.val (if ok then .tup [.raw u, .raw (.bool q.isSome)] else .raw u) σ) := by
    simp only [evOp, ho, hu, hent, hkr, e2, e4, y1]
    rcases hu2 with ⟨rfl, rfl⟩ | ⟨i, a, rfl, hd⟩
    · cases ok <;> simp [ret, y3]
    · obtain ⟨e, h6, _⟩ := e5 i rfl
      obtain ⟨z', h8, h9⟩ := All2.get c5 h6 hd
      simp only [IV.tup.injEq, List.cons.injEq, and_true] at h8
      obtain ⟨_, rfl⟩ := h8
      have := canRaw h9
      cases ok <;> simp [ret, h6, this]
  cases ok with
  | false =>
    simp only [Bool.false_eq_true, if_false] at hs hres
    exact ⟨.raw u, σ, R, φ, .one (.v (.var V.n)), { V with n := V.n + 1 }, [.raw u], hres, hJ1, ⟨.raw u, hvar, .raw u, hzok⟩, by simp [hn], rfl, hs⟩
  | true =>
    simp only [if_true] at hs hres
    obtain ⟨h, hh, hs⟩ := hs
    have c1'' := SE.den_app P es0 (μ := [.raw u]) c1'
    have a1'' := SE.den_app P ke (μ := [.raw u]) a1'
    simp only [SE.den, c1'', a1'', Option.bind_some, hq, Option.map_some, Option.some.injEq] at hh
    subst hh
    rw [List.append_assoc] at hs
    have hJ2 := hJ1.up (ev' := evd P (ν ++ ([.raw u] ++ [.bool q.isSome]))) (fun e y h => by rw [← List.append_assoc]; exact SE.den_app P e h)
    refine ⟨.tup [.raw u, .raw (.bool q.isSome)], σ, R, φ, .tu [(false, [.v (.var V.n)]), (false, [.v (.var (V.n + 1))])], { V with n := V.n + 1 + 1 }, [.raw u] ++ [.bool q.isSome], hres, hJ2, ⟨_, rfl, ⟨_, rfl, .raw u, ?_, .raw u, hzok⟩, ⟨_, rfl, .raw (.bool q.isSome), ?_, .raw _, rfl⟩, trivial⟩, by simp [hn], rfl, hs⟩
    · simp [evd, SE.den, ← hn]
    · simp [evd, SE.den, ← hn]
end Go.Ev
namespace Go.Ev
variable {P : Program} {N : Nat} {σ σ' : St} {R R' : Rs} {φ φ' : Ph} {E : Nat → Env} {ν : List IV}
variable {C : Cr} {Q : IV → Prop} {K : List (List IV → Prop)} {V : SS} {d : Nat} {o : Oper} {k : PV SE → SS → FIR} {L : List (LO SE)} {Γ : Gm SE}
theorem den_sub {s : Nat} {e lo hi : SE} {z : IV} (h : (SE.sub s e lo hi).den P ν = some z) : ∃ es a b l m q r, e.den P ν = some (.tree s es) ∧ lo.den P ν = some a ∧ hi.den P ν = some b ∧ a = .raw (.int q (l : Nat)) ∧ b = .raw (.int r (m : Nat)) ∧ l ≤ m ∧ m ≤ es.length ∧ z = .tree s ((es.take m).drop l) := by
  simp only [SE.den, Option.bind_eq_some_iff] at h
  obtain ⟨x, h1, a, h2, b, h3, h4⟩ := h
  unfold denSub at h4
  split at h4 <;> first | (cases h4; done) | skip
  rename_i s1 es
  split at h4 <;> first | (cases h4; done) | skip
  rename_i l m hl hm
  split at h4 <;> first | (cases h4; done) | skip
  rename_i hc
  obtain ⟨rfl, h5, h6, h7, h8⟩ := hc
  cases h4
  obtain ⟨q, rfl⟩ := intI_raw hl
  obtain ⟨r, rfl⟩ := intI_raw hm
  exact ⟨es, _, _, l.toNat, m.toNat, q, r, h1, h2, h3, by rw [Int.toNat_of_nonneg h5], by rw [Int.toNat_of_nonneg h7], h6, h8, rfl⟩
theorem CanR.part {fr : Bool} {x : IV} {s l m : Nat} {es : List IV} {t el : TypeId} (hu : P.underlying t = some (.slice el)) (hsz : sizeOf? P el = some s) (h : CanR fr R σ x (.tree s es)) (h1 : l ≤ m) (h2 : m ≤ es.length) {lo hi : Option IV}
    (hcap : ∀ id off len c ep s', x = .sl id off len (some c) ep s' → len ≤ c)
    (hlo : numI lo = some (some l) ∨ (numI lo = some none ∧ l = 0)) (hhi : numI hi = some (some m) ∨ (numI hi = some none ∧ m = es.length)) :
    ∃ x', sliceI P t x lo hi none = some x' ∧ CanR fr R σ x' (.tree s ((es.take m).drop l)) := by
  obtain ⟨lo', hlo1, hlo2⟩ : ∃ q : Option Nat, numI lo = some q ∧ q.getD 0 = l := by
    rcases hlo with h | ⟨h, rfl⟩
    · exact ⟨_, h, rfl⟩
    · exact ⟨_, h, rfl⟩
  obtain ⟨hi', hhi1, hhi2⟩ : ∃ q : Option Nat, numI hi = some q ∧ ∀ n, n = es.length ∨ q ≠ none → q.getD n = m := by
    rcases hhi with h | ⟨h, rfl⟩
    · exact ⟨_, h, fun n _ => rfl⟩
    · exact ⟨_, h, fun n hn => by rcases hn with rfl | hn; · rfl
                                  · exact absurd rfl hn⟩
  have hmx : numI none = some none := rfl
  have hz : es.length = 0 → l = 0 ∧ m = 0 ∧ (es.take m).drop l = [] ∧ hi'.getD 0 = 0 := by
    intro h
    have : es = [] := List.eq_nil_of_length_eq_zero h
    subst this
    have hm0 : m = 0 := by simpa using h2
    refine ⟨by omega, hm0, by simp, ?_⟩
    have := hhi2 0 (.inl rfl)
    omega
  cases h with
  | nil _ hs =>
    obtain ⟨z1, z2, z3, z4⟩ := hz rfl
    refine ⟨.raw (.slice none 0 0), ?_, by rw [z3]; exact .nil s hs⟩
    simp [sliceI, hlo1, hhi1, hmx, hu, hsz, hlo2, z1, z4]
  | emp _ hs =>
    obtain ⟨z1, z2, z3, z4⟩ := hz rfl
    refine ⟨.emp, ?_, by rw [z3]; exact .emp s hs⟩
    simp [sliceI, hlo1, hhi1, hmx, hu, hsz, hlo2, z1, z4]
  | pure _ hf hp =>
    refine ⟨.tree s ((es.take m).drop l), ?_, .pure _ hf ?_⟩
    · have := hhi2 es.length (.inl rfl)
      simp [sliceI, hlo1, hhi1, hmx, hu, hsz, hlo2, this, h1, h2]
    · cases hp with
      | tree _ _ hh => exact .tree s _ fun e he => hh e (List.mem_of_mem_take (List.mem_of_mem_drop he))
  | sl id off len cap ep _ m0 cs cep mn _ hR hat h3 h4 hs hl hb hm hcs hh =>
    have hml := hhi2 len (.inl hl.symm)
    have hsub : ∀ cap' : Option Nat, CanR fr R σ (.sl id (off + l * s) (m - l) cap' ep s) (.tree s ((es.take m).drop l)) := fun cap' => by
      refine .sl id (off + l * s) (m - l) cap' ep s m0 cs cep mn _ hR hat h3 h4 hs (by simp; omega) ?_ hm (fun e he => hcs e (List.mem_of_mem_take (List.mem_of_mem_drop he))) fun i e j c d' he hd hc => ?_
      · have : (m - l) * s + l * s ≤ len * s := by rw [← Nat.add_mul]; exact Nat.mul_le_mul_right s (by omega)
        omega
      · rw [List.getElem?_drop, List.getElem?_take] at he
        split at he
        · refine hh (l + i) e j c d' he hd ?_
          rw [Nat.add_mul]
          rw [show off + (l * s + i * s) + j = off + l * s + i * s + j by omega]
          exact hc
        · cases he
    cases cap with
    | none =>
      refine ⟨.sl id (off + l * s) (m - l) none ep s, ?_, hsub none⟩
      have : hi'.getD len = m := hml
      simp [sliceI, hlo1, hhi1, hmx, hu, hsz, hlo2, this, h1]
      omega
    | some c =>
      by_cases hmc : m ≤ c
      · by_cases hc : c = l
        · refine ⟨.emp, ?_, ?_⟩
          · simp [sliceI, hlo1, hhi1, hmx, hu, hsz, hlo2, hml, h1, hmc, hc]
            omega
          · have : (es.take m).drop l = [] := by
              apply List.eq_nil_of_length_eq_zero
              simp; omega
            rw [this]; exact .emp s hs
        · refine ⟨.sl id (off + l * s) (m - l) (some (c - l)) ep s, ?_, hsub _⟩
          simp [sliceI, hlo1, hhi1, hmx, hu, hsz, hlo2, hml, h1, hmc, hc]
      · have := hcap _ _ _ _ _ _ rfl
        omega
theorem numI_int {q : IntKind} {n : Nat} : numI (some (.raw (.int q (n : Nat)))) = some (some n) := by
  simp [numI]
theorem num_ok (hJ : J (evd P ν) R φ V.g V.l E σ) {dflt e : SE} {x : Option Operand} (h : numS P d V dflt x = some e) {n : Nat} {q : IntKind} (he : e.den P ν = some (.raw (.int q (n : Nat)))) :
    numI (x.map (evalI (E d))) = some (some n) ∨ (numI (x.map (evalI (E d))) = some none ∧ e = dflt) := by
  cases x with
  | none => simp only [numS, Option.some.injEq] at h; exact .inr ⟨rfl, h.symm⟩
  | some x =>
    simp only [numS] at h
    split at h
    · rename_i e' hx
      cases h
      have hv := opd_ok hJ d 3 x
      rw [hx] at hv
      obtain ⟨y, h1, h2, _⟩ := hv
      have h1' : e.den P ν = some y := h1
      rw [he] at h1'; cases h1'
      rw [Option.map_some, canRaw h2]
      exact .inl numI_int
    · cases h
theorem xop_slice {t : TypeId} {x : Operand} {lo hi mx : Option Operand} (hJ : J (evd P ν) R φ V.g V.l E σ) (hn : ν.length = V.n) (ho : o.op = .slice t x lo hi mx) (hs : (opS2 P d o V k).sat P C Q K ν) : OutV P C Q K ν E V.ln k (Res P E d o σ) := by
  unfold opS2 at hs; rw [ho] at hs; simp only at hs
  unfold sliceS2 at hs
  split at hs <;> first | (exact hs.elim) | skip
  rename_i el c hu hx
  have hxv := opd_ok hJ d t x
  rw [hx] at hxv
  split at hs <;> first | (exact hs.elim) | skip
  rename_i s hsz
  split at hs
  · rename_i j l _
    split at hs <;> first | (exact hs.elim) | skip
    rename_i s' cut fr es e hj he
    split at hs <;> first | (exact hs.elim) | skip
    rename_i hss
    have hss' := Nat.eq_of_beq_eq_true hss
    subst hss'
    obtain ⟨⟨z, hz⟩, hs⟩ := hs
    obtain ⟨es1, a, b, n, m, q, r, h1, h2, h3, rfl, rfl, h4, h5, rfl⟩ := den_sub hz
    have hm : m = es1.length := by
      obtain ⟨s0, es0, h6, h7⟩ := den_len h3
      rw [h1] at h6; cases h6
      simp at h7
      omega
    subst hm
    have hl := opd_ok hJ d 3 l
    rw [he] at hl
    obtain ⟨y, y1, y2, _⟩ := hl
    have y1' : e.den P ν = some y := y1
    rw [h2] at y1'; cases y1'
    have hlv := canRaw y2
    obtain ⟨s1, st1, cut1, fr1, z1, es2, b1, b2, b3⟩ := hxv
    rw [hj] at b1; cases b1
    have b2' : es.den P ν = some (.tree s es2) := b2
    rw [h1] at b2'; cases b2'
    have hnn : nat? (.raw (.int q (n : Nat))) = some n := by simp [nat?]
    have hnum : numI (some (evalI (E d) l)) = some (some n) := by rw [hlv]; exact numI_int
    have hmx : numI none = some none := rfl
    have fin : ∀ x', sliceI P t (evalI (E d) x) (some (evalI (E d) l)) none none = some x' → (SlOf φ σ j s cut n es1.length x' ∨ (n = es1.length ∧ x' = .emp)) → OutV P C Q K ν E V.ln k (Res P E d o σ) := fun x' g1 g2 => by
      refine .at (x := x') hs hJ hn rfl ⟨s, false, cut, fr, es, es1, _, n, hj, h1, h2, hnn, h4, g2⟩ ?_
      simp [Res, evOp, ho, g1, ret]
    rcases b3 with ⟨c1, c2, c3⟩ | ⟨id, cs, cep, mn, cap, c1, c2, c3, c4, c5, c6⟩
    · have hn0 : n = 0 := by omega
      subst hn0
      rcases c3 with c3 | c3
      · refine fin (.raw (.slice none 0 0)) ?_ (.inl (.inl ⟨c1, c2, .inl rfl⟩))
        rw [c3]
        simp [sliceI, hnum, hmx, hu, hsz]
      · refine fin .emp ?_ (.inl (.inl ⟨c1, c2, .inr rfl⟩))
        rw [c3]
        simp [sliceI, hnum, hmx, hu, hsz]
    · cases cap with
      | none =>
        refine fin (.sl id (n * s) (es1.length - n) none cep s) ?_ (.inl (.inr ⟨id, cs, cep, mn, none, c1, c2, rfl, h4, c5, fun c hc => by cases hc⟩))
        rw [c3]
        simp [sliceI, hnum, hmx, hu, hsz, h4]
      | some c =>
        obtain ⟨d1, d2, d3⟩ := c6 c rfl
        by_cases hc : c = n
        · refine fin .emp ?_ (.inr ⟨by omega, rfl⟩)
          rw [c3]
          simp [sliceI, hnum, hmx, hu, hsz, h4, hc]
          omega
        · refine fin (.sl id (n * s) (es1.length - n) (some (c - n)) cep s) ?_ (.inl (.inr ⟨id, cs, cep, mn, some (c - n), c1, c2, rfl, h4, (fun h => by simp at h), fun c' hc' => ?_⟩))
          · rw [c3]
            have : es1.length ≤ c := by omega
            simp [sliceI, hnum, hmx, hu, hsz, h4, hc, this]
          · have hc'' : c - n = c' := by simpa using hc'
            subst hc''
            refine ⟨d1, ?_, by omega⟩
            have : n * s + (c - n) * s = c * s := by rw [← Nat.add_mul]; congr 1; omega
            omega
  · rename_i c lo hi c0 lo0 hi0 b0 _
    split at hs <;> first | (exact hs.elim) | skip
    rename_i fr z V2 hrd
    split at hs <;> first | (exact hs.elim) | skip
    rename_i le he hl hh
    have hrd' : rdC V c = some (fr, z, V2) := by
      split at hrd <;> first | exact hrd | cases hrd
    obtain ⟨R', g1, g2, g3⟩ := rdC_ok hJ hrd'
    obtain ⟨y, g4, g5, _⟩ := g3 _ hxv
    have hn2 : ν.length = V2.n := by rw [g1.2.1]; exact hn
    obtain ⟨w, w1, w2, w3, w4, w5⟩ := newVar_sat g2 hn2 hs
    obtain ⟨es1, a, b, l, m, q, r, h1, h2, h3, rfl, rfl, h4, h5, rfl⟩ := den_sub w1
    rw [g4] at h1; cases h1
    have hcap : ∀ id off len c1 ep s', evalI (E d) x = .sl id off len (some c1) ep s' → len ≤ c1 := by
      intro id off len c1 ep s' hx'
      split at hrd <;> first | (cases hrd; done) | skip
      · obtain ⟨y', _, q2, _⟩ := hxv
        rw [hx'] at q2
        cases q2 with
        | pure _ _ hp => cases hp
        | sl _ _ _ _ _ _ _ _ _ _ _ hR => cases hR
      · obtain ⟨_, q2⟩ := hxv
        rw [hx'] at q2
        split at q2 <;> cases q2
      · obtain ⟨s1, st1, cut1, fr1, z1, es2, b1, b2, ⟨_, _, b3 | b3⟩ | ⟨id', cs, cep, mn, cap, c1', c2, c3, c4, c5, c6⟩⟩ := hxv
        · rw [hx'] at b3; cases b3
        · rw [hx'] at b3; cases b3
        · rw [hx'] at c3; cases c3
          have := (c6 c1 rfl).2.2
          omega
    have hlo : numI (lo.map (evalI (E d))) = some (some l) ∨ (numI (lo.map (evalI (E d))) = some none ∧ l = 0) := by
      refine (num_ok hJ hl h2).imp_right fun ⟨e1, e2⟩ => ⟨e1, ?_⟩
      subst e2
      simp only [SE.den, Option.some.injEq, IV.raw.injEq, Value.int.injEq] at h2
      have := h2.2
      omega
    have hhi : numI (hi.map (evalI (E d))) = some (some m) ∨ (numI (hi.map (evalI (E d))) = some none ∧ m = es1.length) := by
      refine (num_ok hJ hh h3).imp_right fun ⟨e1, e2⟩ => ⟨e1, ?_⟩
      subst e2
      obtain ⟨s0, es0, h6, h7⟩ := den_len h3
      rw [g4] at h6; cases h6
      simp at h7
      omega
    obtain ⟨x', k1, k2⟩ := g5.part (t := t) (el := el) hu hsz h4 h5 hcap hlo hhi
    refine ⟨x', σ, R', φ, .one (.w fr (.var V2.n)), { V2 with n := V2.n + 1 }, [.tree s ((es1.take m).drop l)], ?_, w4, ⟨_, w3, k2, rfl⟩, w5, g1.2.2.1, w2⟩
    simp [Res, evOp, ho, k1, ret]
end Go.Ev
namespace Go.Ev
variable {P : Program} {N : Nat} {σ σ' : St} {R R' : Rs} {φ φ' : Ph} {E : Nat → Env} {ν : List IV}
variable {C : Cr} {Q : IV → Prop} {K : List (List IV → Prop)} {V : SS} {d : Nat} {o : Oper} {k : PV SE → SS → FIR} {L : List (LO SE)} {Γ : Gm SE}
theorem den_clr {s : Nat} {e lo x : SE} {z : IV} (h : (SE.clr s e lo x).den P ν = some z) : ∃ (es : List IV) (a : IV) (n : Nat) (q : IntKind) (y : IV), e.den P ν = some (.tree s es) ∧ lo.den P ν = some a ∧ a = .raw (.int q n) ∧ x.den P ν = some y ∧ n ≤ es.length ∧ (cellsOf y).length = s ∧ z = .tree s (es.take n ++ List.replicate (es.length - n) y) := by
  simp only [SE.den, Option.bind_eq_some_iff] at h
  obtain ⟨x, h1, a, h2, b, h3, h4⟩ := h
  unfold denClr at h4
  split at h4 <;> first | (cases h4; done) | skip
  rename_i s1 es
  split at h4 <;> first | (cases h4; done) | skip
  rename_i l hl
  split at h4 <;> first | (cases h4; done) | skip
  rename_i hc
  obtain ⟨rfl, h5, h6, h7⟩ := hc
  cases h4
  obtain ⟨q, rfl⟩ := intI_raw hl
  exact ⟨es, _, l.toNat, q, b, h1, h2, by rw [Int.toNat_of_nonneg h5], h3, h6, h7, rfl⟩
theorem flat_replicate {y : IV} (n : Nat) : flat (List.replicate n y) = (List.replicate n (cellsOf y)).flatten := by
  induction n with
  | zero => rfl
  | succ n ih => simp [flat, List.replicate_succ] at ih ⊢; exact ih
theorem flatten_get {α : Type} {c : List α} {s : Nat} (hl : c.length = s) : ∀ {n i : Nat}, i < n * s → ∀ x, ((List.replicate n c).flatten)[i]? = some x → c[i % s]? = some x
  | 0, i, h, _, _ => by simp at h
  | n + 1, i, h, x, hx => by
    rw [List.replicate_succ, List.flatten_cons] at hx
    by_cases hi : i < s
    · rw [List.getElem?_append_left (by omega)] at hx
      rw [Nat.mod_eq_of_lt hi]; exact hx
    · rw [List.getElem?_append_right (by omega), hl] at hx
      rw [Nat.add_mul] at h
      have := flatten_get hl (n := n) (i := i - s) (by omega) x hx
      rw [Nat.mod_eq_sub_mod (by omega)]; exact this
theorem argsS_get (hJ : J (evd P ν) R φ V.g V.l E σ) {c : Call} {pv : PV SE} (h : argsS P d V c.args.toList c.argTypes.toList = [pv]) : ∃ x, c.args.toList.map (evalI (E d)) = [x] ∧ VR (evd P ν) R φ V.l σ x pv := by
  have ha := argsS_ok hJ d c.args.toList c.argTypes.toList
  rw [h] at ha
  exact all2_one ha
theorem xop_clear {c : Call} (hJ : J (evd P ν) R φ V.g V.l E σ) (hn : ν.length = V.n) (ho : o.op = .call c) (hc : c.callee = .builtin .clear) (hs : (opS2 P d o V k).sat P C Q K ν) : OutV P C Q K ν E V.ln k (Res P E d o σ) := by
  unfold opS2 at hs; rw [ho] at hs; simp only [hc] at hs
  unfold clearS at hs
  split at hs <;> first | (exact hs.elim) | skip
  rename_i et j lo hu hargs
  split at hs <;> first | (exact hs.elim) | skip
  rename_i s cut fr es z0 hj hz0
  split at hs <;> first | (exact hs.elim) | skip
  rename_i hcond
  simp only [Bool.and_eq_true, Bool.or_eq_true, Nat.beq_eq] at hcond
  obtain ⟨⟨⟨hsz, hag⟩, hnu⟩, hzl⟩ := hcond
  split at hs <;> first | (exact hs.elim) | skip
  rename_i f zs V2 hrd
  split at hs <;> first | (exact hs.elim) | skip
  rename_i hrow
  have hj2 := isRow_eq hrow
  obtain ⟨x, hx, hxv⟩ := argsS_get hJ hargs
  obtain ⟨R', hst, hJ2, hzsl, hrd'⟩ := rdCs_ok hJ hrd
  have hpa2 := hst.vrc (x := x) (c := .sv j lo) hxv
  obtain ⟨s', st', cut', fr', z', es', y, n, a1, a2, a3, a4, a5, a6⟩ := hpa2
  rw [hj2] at a1; cases a1
  obtain ⟨hs0, es2, g1, g2, g3⟩ := hJ2.obj j _ hj2
  have a2' : es.den P ν = some (.tree s es') := a2
  have g1' : es.den P ν = some (.tree s es2) := g1
  rw [a2'] at g1'; cases g1'
  have hzc := zeroCells_ok (P := P) (ν := ν) (R := R) (φ := φ) (L := V.l) (σ := σ) hz0
  obtain ⟨ys, b1, b2, b3⟩ := hrd' _ hzc
  have hxl : (z0.cells.toList.map IV.raw).length = s := by simp [hsz]
  have hyl : ys.length = s := by rw [← b2.len]; exact hxl
  obtain ⟨ze, hze, hzec⟩ : ∃ ze, (if isAgg P et = true then acs zs else zs.headD .an).den P ν = some ze ∧ cellsOf ze = ys := by
    split
    · exact ⟨_, acs_den b1, rfl⟩
    · rename_i hna
      have hs1 : s = 1 := hag.resolve_left hna
      have hyl1 : ys.length = 1 := by omega
      obtain ⟨y0, rfl⟩ := List.length_eq_one_iff.1 hyl1
      obtain ⟨z1, rfl⟩ := List.length_eq_one_iff.1 (b1.len.trans hyl1)
      refine ⟨y0, b1.1, ?_⟩
      have : Ev.cellOk y0 = true := by simpa using b3
      cases y0 <;> first | rfl | (simp [Ev.cellOk] at this; done)
  have hn2 : ν.length = V2.n := by rw [hst.2.1]; exact hn
  obtain ⟨znew, hznew, hk, hvar, hJ3, hlen3⟩ := newVar_sat hJ2 hn2 hs
  obtain ⟨es3, a, n', q, y', c1, c2, rfl, c3, c4, c5, rfl⟩ := den_clr hznew
  rw [a2'] at c1; cases c1
  rw [hze] at c3; cases c3
  have a3' : lo.den P ν = some y := a3
  rw [c2] at a3'; cases a3'
  have hnn : n' = n := by
    simp [nat?] at a4
    exact a4
  subst hnn
  let es4 := es'.take n' ++ List.replicate (es'.length - n') ze
  have hl4 : es4.length = es'.length := by simp [es4]; omega
  have hcs4 : ∀ e ∈ es4, (cellsOf e).length = s := fun e he => by
    rcases List.mem_append.1 he with he | he
    · exact g2 e (List.mem_of_mem_take he)
    · rw [List.eq_of_mem_replicate he]; exact c5
  -- nothing is cleared
  have same : n' = es'.length → evOp P 0 (evalI (E d)) o σ = some (.val .undef σ) → OutV P C Q K ν E V.ln k (Res P E d o σ) := by
    intro hnl hev
    have h4 : es4 = es' := by simp [es4, hnl]
    obtain ⟨_, hJ4⟩ := hJ3.reZ (fr' := fr || f) (k := j) hj2 (SE.den_app P es a2') (by rw [hvar]; show some (IV.tree s es4) = _; rw [h4]) (fun h => by simp [h])
    exact ⟨.undef, σ, R', φ, .one .un, ({ V2 with n := V2.n + 1 } : SS).setObj j (.row s false cut (fr || f) (.var V2.n)), [.tree s es4], hev, hJ4, trivial, hlen3, hst.2.2.1, hk⟩
  have hempty : ∀ x0, x = x0 → (x0 = .raw (.slice none 0 0) ∨ x0 = .emp) → evOp P 0 (evalI (E d)) o σ = some (.val .undef σ) := by
    intro x0 h1 h2
    subst h1
    simp only [evOp, ho, hc, hx]
    rcases h2 with rfl | rfl <;> simp [builtinI, clearB, hu, ret]
  rcases a6 with (⟨e1, e2, e3⟩ | ⟨id, cs, cep, mn, cap, e1, e2, e3, e4, e5, e6⟩) | ⟨e1, e2⟩
  · exact same (by omega) (hempty _ rfl e3)
  · by_cases hz : es'.length - n' = 0
    · refine same (by omega) ?_
      simp only [evOp, ho, hc, hx, e3]
      simp [builtinI, clearB, hu, ret, hz]
    · rcases g3 with ⟨g3, _⟩ | ⟨id', cs', cep', mn', g3, g4, g5, g6, g7, g8, g9⟩
      · rw [e1] at g3; cases g3
      rw [e1] at g3; cases g3
      rw [e2] at g4; cases g4
      have hcyc : cycle (z0.cells.toList.map IV.raw) ((es'.length - n') * s) = (List.replicate (es'.length - n') (z0.cells.toList.map IV.raw)).flatten := cycle_eq hxl hs0 _
      have hcl : (cycle (z0.cells.toList.map IV.raw) ((es'.length - n') * s)).length = (es'.length - n') * s := by rw [hcyc]; exact flatten_len hxl _
      have hcok : (z0.cells.toList.map IV.raw).all Ev.cellOk = true := cellsOk_of hzc hnu
      have hall : (cycle (z0.cells.toList.map IV.raw) ((es'.length - n') * s)).all Ev.cellOk = true := by
        rw [hcyc, List.all_eq_true]
        intro u hu'
        obtain ⟨l, hl1, hl2⟩ := List.mem_flatten.1 hu'
        rw [List.eq_of_mem_replicate hl1] at hl2
        exact List.all_eq_true.1 hcok u hl2
      have hbnd : n' * s + (es'.length - n') * s = es'.length * s := by rw [← Nat.add_mul]; congr 1; omega
      have hflat : flat es4 = (flat es').take (n' * s) ++ (List.replicate (es'.length - n') ys).flatten := by
        show flat (es'.take n' ++ _) = _
        rw [flat_app, flat_replicate, hzec]
        congr 1
        have h1 : flat es' = flat (es'.take n') ++ flat (es'.drop n') := by rw [← flat_app, List.take_append_drop]
        have h2 : (flat (es'.take n')).length = n' * s := by rw [flat_len (s := s) fun e he => g2 e (List.mem_of_mem_take he), List.length_take, Nat.min_eq_left (by omega)]
        rw [h1, ← h2, List.take_left']
        rfl
      have hJ4 := hJ3.updRow (fr' := fr || f) (z' := .var V2.n) (cs' := splice cs (n' * s) (cycle (z0.cells.toList.map IV.raw) ((es'.length - n') * s))) e1 hj2 e2 (splice_len (by rw [hcl]; omega)) (SE.den_app P es a2') hvar hl4 hcs4
        (splice_all g8 hall)
        (fun p u v hu hv => by
          rw [splice_getElem (α := IV) (by omega)] at hu
          rw [hcl] at hu
          rw [hflat] at hv
          have hfl : ((flat es').take (n' * s)).length = n' * s := by
            rw [List.length_take, flat_len g2]; omega
          by_cases hp : n' * s ≤ p ∧ p < n' * s + (es'.length - n') * s
          · rw [if_pos hp, hcyc] at hu
            rw [List.getElem?_append_right (by omega), hfl] at hv
            have q1 := flatten_get hxl (by omega) _ hu
            have q2 := flatten_get hyl (by omega) _ hv
            exact (b2.get q1 q2).wide (fun h => by simp [h])
          · rw [if_neg hp] at hu
            have hp' : p < n' * s := by
              by_cases h : p < n' * s
              · exact h
              · exfalso
                have h1 := (List.getElem?_eq_some_iff.1 hv).1
                rw [List.length_append, hfl, flatten_len hyl] at h1
                omega
            rw [List.getElem?_append_left (by omega), List.getElem?_take, if_pos hp'] at hv
            exact (g9 p u v hu hv).wide (fun h => by simp [h]))
      refine ⟨.undef, σ.put id (.cells (splice cs (n' * s) (cycle (z0.cells.toList.map IV.raw) ((es'.length - n') * s))) cep cep), R', φ, .one .un, ({ V2 with n := V2.n + 1 } : SS).setObj j (.row s false cut (fr || f) (.var V2.n)), [.tree s es4], ?_, hJ4, trivial, hlen3, hst.2.2.1, hk⟩
      simp only [Res, evOp, ho, hc, hx, e3]
      simp only [builtinI, clearB, hu, hz0, e2, if_neg hz]
      rw [if_pos ⟨by omega, hsz, hall, Nat.zero_le _, trivial, by omega⟩]
      rfl
  · exact same e1 (hempty _ rfl (.inr e2))
theorem seOf_ok (hJ : J (evd P ν) R φ V.g V.l E σ) {x : IV} {pv : PV SE} {e : SE} (h : seOf pv = some e) (hx : VR (evd P ν) R φ L σ x pv) : ∀ y, e.den P ν = some y → CanR true R σ x y := by
  intro y hy
  unfold seOf at h
  split at h <;> cases h
  · obtain ⟨u, h1, h2, _⟩ := hx
    have h1' : e.den P ν = some u := h1
    rw [hy] at h1'; cases h1'
    exact h2.mono hJ.noR
  · obtain ⟨u, h1, h2, _⟩ := hx
    have h1' : e.den P ν = some u := h1
    rw [hy] at h1'; cases h1'
    exact h2.old
theorem xop_index {t : TypeId} {x ix : Operand} (hJ : J (evd P ν) R φ V.g V.l E σ) (hn : ν.length = V.n) (ho : o.op = .index t x ix) (hs : (opS2 P d o V k).sat P C Q K ν) : OutV P C Q K ν E V.ln k (Res P E d o σ) := by
  unfold opS2 at hs; rw [ho] at hs; simp only at hs
  split at hs <;> first | (exact hs.elim) | skip
  rename_i a b hu ha hb
  have hxa := seOf_ok hJ ha (opd_ok hJ d t x)
  have hxb := seOf_ok hJ hb (opd_ok hJ d 0 ix)
  obtain ⟨⟨z, hz⟩, hk⟩ := hs
  have hz0 := hz
  simp only [SE.den, Option.bind_eq_some_iff] at hz
  obtain ⟨u, h1, v, h2, h3⟩ := hz
  split at h3 <;> first | (cases h3; done) | skip
  rename_i q kd n
  split at h3 <;> first | (cases h3; done) | skip
  rename_i hn0
  rw [Option.map_eq_some_iff] at h3
  obtain ⟨c, h4, rfl⟩ := h3
  exact .at (x := .raw (.int .u8 c.toNat)) hk hJ hn rfl ⟨_, hz0, .raw _, rfl⟩ (by unfold Res evOp; rw [ho]; simp only [hu, canRaw (hxa _ h1), canRaw (hxb _ h2), if_pos hn0, h4]; rfl)
theorem rawCells_two {a b : IV} {vs : List Value} (h : rawCells [a, b] = some vs) : ∃ u v, a = .raw u ∧ b = .raw v := by
  cases a <;> simp [rawCells] at h
  cases b <;> simp at h
  exact ⟨_, _, rfl, rfl⟩
theorem xop_mx {c : Call} {big : Bool} {bi : Builtin} (hb : (bi = .max ∧ big = true) ∨ (bi = .min ∧ big = false)) (hJ : J (evd P ν) R φ V.g V.l E σ) (hn : ν.length = V.n) (ho : o.op = .call c) (hc : c.callee = .builtin bi) (hs : (mxS big (argsS P d V c.args.toList c.argTypes.toList) V k).sat P C Q K ν) : OutV P C Q K ν E V.ln k (Res P E d o σ) := by
  unfold mxS at hs
  split at hs <;> first | (exact hs.elim) | skip
  rename_i pa pb hargs
  split at hs <;> first | (exact hs.elim) | skip
  rename_i a b ha hb'
  have hall := argsS_ok hJ d c.args.toList c.argTypes.toList
  rw [hargs] at hall
  obtain ⟨x, y, hxy, hx, hy⟩ := all2_two hall
  have hxa := seOf_ok hJ ha hx
  have hxb := seOf_ok hJ hb' hy
  obtain ⟨⟨z, hz⟩, hk⟩ := hs
  obtain ⟨h1, hok⟩ := den_ok hz
  simp only [SE.den, Option.bind_eq_some_iff] at h1
  obtain ⟨w, ⟨u, h2, v, h3, h4⟩, h5⟩ := h1
  split at h5 <;> cases h5
  rename_i hraw
  have hboth : ∃ u' v', u = .raw u' ∧ v = .raw v' := by
    cases big with
    | true =>
      simp only [if_true] at h4
      unfold maxB at h4
      split at h4
      · exact rawCells_two ‹_›
      · cases h4
    | false =>
      simp only [Bool.false_eq_true, if_false] at h4
      unfold minB at h4
      split at h4
      · exact rawCells_two ‹_›
      · cases h4
  obtain ⟨u', v', rfl, rfl⟩ := hboth
  have hx' := canRaw (hxa _ h2)
  have hy' := canRaw (hxb _ h3)
  subst hx' hy'
  have hzr : CanP z z := by
    cases z <;> simp only [isRaw1] at hraw <;> first | (cases hraw; done) | skip
    exact .raw _
  refine .here (pv := .one (.v (.ok (.rw (.mx big a b))))) (x := z) ?_ hJ ⟨z, hz, hzr, hok⟩ hn rfl hk
  rcases hb with ⟨rfl, rfl⟩ | ⟨rfl, rfl⟩
  · simp only [if_true] at h4
    simp [Res, evOp, ho, hc, builtinI, hxy, h4]
  · simp only [Bool.false_eq_true, if_false] at h4
    simp [Res, evOp, ho, hc, builtinI, hxy, h4]
theorem opS2_ok (hJ : J (evd P ν) R φ V.g V.l E σ) (hn : ν.length = V.n) (hs : (opS2 P d o V k).sat P C Q K ν) : OutV P C Q K ν E V.ln k (Res P E d o σ) := by
  cases ho : o.op with
  | makeFunc f first cap =>
    cases f with
    | func f => exact xop_makeFunc hJ hn ho hs
    | _ => unfold opS2 at hs; rw [ho] at hs; exact hs.elim
  | makeMap t r => exact xop_makeMap hJ hn ho hs
  | mapUpdate t m key x => exact xop_update hJ hn (.inl ho) hs
  | insert t m key x => exact xop_update hJ hn (.inr ho) hs
  | lookup t m key ok => exact xop_lookup hJ hn ho hs
  | slice t x lo hi mx => exact xop_slice hJ hn ho hs
  | index t x ix => exact xop_index hJ hn ho hs
  | call c =>
    cases hc : c.callee with
    | builtin b =>
      cases b with
      | clear => exact xop_clear hJ hn ho hc hs
      | max => unfold opS2 at hs; rw [ho] at hs; simp only [hc] at hs; exact xop_mx (.inl ⟨rfl, rfl⟩) hJ hn ho hc hs
      | min => unfold opS2 at hs; rw [ho] at hs; simp only [hc] at hs; exact xop_mx (.inr ⟨rfl, rfl⟩) hJ hn ho hc hs
      | _ => unfold opS2 at hs; rw [ho] at hs; simp only [hc] at hs; exact hs.elim
    | _ => unfold opS2 at hs; rw [ho] at hs; simp only [hc] at hs; exact hs.elim
  | _ => unfold opS2 at hs; rw [ho] at hs; exact hs.elim
end Go.Ev
namespace Go.Ev
variable {P : Program} {N : Nat} {σ σ' : St} {R R' : Rs} {φ φ' : Ph} {E : Nat → Env} {ν : List IV}
variable {C : Cr} {Q : IV → Prop} {K : List (List IV → Prop)} {V : SS} {d : Nat} {o : Oper} {k : PV SE → SS → FIR} {L : List (LO SE)} {Γ : Gm SE}
theorem xop_bin (hJ : J (evd P ν) R φ V.g V.l E σ) (hn : ν.length = V.n) {op : BinOp} {t yt : TypeId} {x y : Operand} (ho : o.op = .binOp op t x y yt) (hs : (opS P d o V k).sat P C Q K ν) : OutV P C Q K ν E V.ln k (Res P E d o σ) := by
  unfold opS at hs; rw [ho] at hs; simp only at hs
  have hx := opd_ok hJ d t x
  have hy := opd_ok hJ d t y
  have rdv : ∀ {xv : IV} {a : SE}, VR (evd P ν) R φ V.l σ xv (.one (.v a)) → ∀ z, a.den P ν = some z → CanR true R σ xv z := by
    intro xv a ⟨u, h1, h2, _⟩ z hz
    have h1' : a.den P ν = some u := h1
    rw [hz] at h1'; cases h1'; exact h2.mono hJ.noR
  have rdw : ∀ {xv : IV} {f : Bool} {a : SE}, VR (evd P ν) R φ V.l σ xv (.one (.w f a)) → ∀ z, a.den P ν = some z → CanR true R σ xv z := by
    intro xv f a ⟨u, h1, h2, _⟩ z hz
    have h1' : a.den P ν = some u := h1
    rw [hz] at h1'; cases h1'; exact h2.old
  split at hs
  · rename_i cs ds hh1 hh2
    rw [hh1] at hx
    rw [hh2] at hy
    split at hs
    · rename_i f1 a V1 f2 b V2 h1 h2
      obtain ⟨R1, a1, a2, _, a3⟩ := rdCs_ok hJ h1
      obtain ⟨R2, b1, b2, _, b3⟩ := rdCs_ok hJ h2
      obtain ⟨xs, hx1, hx2⟩ := hx
      obtain ⟨ys, hy1, hy2⟩ := hy
      obtain ⟨us, c1, c2, _⟩ := a3 xs hx2
      obtain ⟨vs, d1, d2, _⟩ := b3 ys hy2
      obtain ⟨⟨z, hz⟩, hk⟩ := hs
      obtain ⟨h3, h4⟩ := den_ok hz
      simp only [SE.den, acs_den c1, acs_den d1, Option.bind_some] at h3
      have ha : CanR f1 R1 σ (evalI (E d) x) (.agg us) := by rw [hx1]; exact .agg xs us c2.len fun i c e h1 h2 => c2.get h1 h2
      have hb : CanR f2 R2 σ (evalI (E d) y) (.agg vs) := by rw [hy1]; exact .agg ys vs d2.len fun i c e h1 h2 => d2.get h1 h2
      have h6 : binI P op t x y (evalI (E d) x) (evalI (E d) y) = some z := by
        unfold denBin at h3
        split at h3
        · cases h3
        · rename_i u v hne hu hv
          rw [canToRaw ha hu, canToRaw hb hv, binI_any (x' := .func 0) (y' := .func 0) hu hv (fun hc => hne hc)]
          exact h3
        · cases h3
      exact .at (x := z) hk hJ hn rfl ⟨z, hz, binI_can h6, h4⟩ (by simp [Res, evOp, ho, h6, ret])
    · exact hs.elim
  · rename_i a b hh1 hh2; rw [hh1] at hx; rw [hh2] at hy
    exact bin_vv hJ hn ho (rdv hx) (rdv hy) hs
  · rename_i f a b hh1 hh2; rw [hh1] at hx; rw [hh2] at hy
    exact bin_vv hJ hn ho (rdw hx) (rdv hy) hs
  · rename_i a f b hh1 hh2; rw [hh1] at hx; rw [hh2] at hy
    exact bin_vv hJ hn ho (rdv hx) (rdw hy) hs
  · rename_i f a g b hh1 hh2; rw [hh1] at hx; rw [hh2] at hy
    exact bin_vv hJ hn ho (rdw hx) (rdw hy) hs
  · exact hs.elim
theorem opS_ok (hJ : J (evd P ν) R φ V.g V.l E σ) (hn : ν.length = V.n) (hs : (opS P d o V k).sat P C Q K ν) : OutV P C Q K ν E V.ln k (Res P E d o σ) := by
  cases ho : o.op with
  | move x => exact xop_mv hJ hn (.inl ho) hs
  | assign x => exact xop_mv hJ hn (.inr ho) hs
  | pick c a b => exact xop_pick hJ hn ho hs
  | alloc t => exact xop_alloc hJ hn ho hs
  | box t x => exact xop_box hJ hn ho hs
  | load t a => exact xop_load hJ hn ho hs
  | store t a x => exact xop_store hJ hn ho hs
  | nilCheck x => exact xop_nilCheck hJ hn ho hs
  | binOp op t x y yt => exact xop_bin hJ hn ho hs
  | unOp op t x => exact xop_un hJ hn ho hs
  | convert a b x => exact xop_cv hJ hn ho hs
  | build t p => exact xop_build hJ hn ho hs
  | buildSlice t l p => exact xop_buildSlice hJ hn ho hs
  | fieldAddr s x f => exact xop_fieldAddr hJ hn ho hs
  | field t x f => exact xop_field hJ hn ho hs
  | indexAddr t x i => exact xop_indexAddr hJ hn ho hs
  | extract x i => exact xop_extract hJ hn ho hs
  | call c =>
    cases hc : c.callee with
    | builtin b =>
      by_cases hl : b = .len
      · subst hl; exact xop_len hJ hn ho hc hs
      · by_cases ha : b = .append
        · subst ha; exact xop_append hJ hn ho hc hs
        · unfold opS at hs; rw [ho] at hs; simp only [hc] at hs
          split at hs <;> first | exact absurd rfl hl | exact absurd rfl ha | exact hs.elim | exact opS2_ok hJ hn hs
    | value f => unfold opS at hs; rw [ho] at hs; simp only [hc] at hs; exact hs.elim
    | invoke x n => unfold opS at hs; rw [ho] at hs; simp only [hc] at hs; exact hs.elim
  | _ => unfold opS at hs; rw [ho] at hs; exact opS2_ok hJ hn hs
end Go.Ev
namespace Go.Ev
variable {P : Program} {N : Nat} {σ σ' : St} {ι : Io} {w : World}
namespace T
variable {α : Type}
def of (f : Nat → Option α) : Nat → T α
  | 0 => .lf
  | n + 1 => match f n with
    | some x => (of f n).set n x
    | none => of f n
theorem of_wf (f : Nat → Option α) : ∀ n, (of f n).WF
  | 0 => WF.lf
  | n + 1 => by
    unfold of
    split
    · exact (of_wf f n).set _ _
    · exact of_wf f n
theorem get_of (f : Nat → Option α) : ∀ (n i : Nat), (of f n).get i = if i < n then f i else none
  | 0, i => by simp [of, get]
  | n + 1, i => by
    unfold of
    split
    · rename_i x hx
      rw [get_set]
      split
      · rename_i h; subst h; rw [if_pos (by omega), hx]
      · rw [get_of f n i]
        by_cases h : i < n
        · rw [if_pos h, if_pos (by omega)]
        · rw [if_neg h, if_neg (by omega)]
    · rename_i hx
      rw [get_of f n i]
      by_cases h : i < n
      · rw [if_pos h, if_pos (by omega)]
      · rw [if_neg h]
        by_cases h2 : i = n
        · subst h2; rw [if_pos (by omega), hx]
        · rw [if_neg (by omega)]
end T
def St.only (σ : St) (vis : Nat → Bool) : St := ⟨σ.n, T.of (fun i => if vis i then σ.at i else none) σ.n⟩
theorem only_at (vis : Nat → Bool) (htop : ∀ id, σ.n ≤ id → σ.at id = none) (i : Nat) : (σ.only vis).at i = if vis i then σ.at i else none := by
  unfold St.only St.at
  simp only [T.get_of]
  split
  · rfl
  · rename_i h
    have := htop i (by omega)
    unfold St.at at this
    rw [this]; simp
def St.back (σ σ1 : St) (vis : Nat → Bool) : St := ⟨σ1.n, T.of (fun i => if i < σ.n ∧ vis i = false then σ.at i else σ1.at i) σ1.n⟩
theorem back_at {σ1 : St} (vis : Nat → Bool) (hn : σ.n ≤ σ1.n) (htop : ∀ id, σ1.n ≤ id → σ1.at id = none) (i : Nat) : (σ.back σ1 vis).at i = if i < σ.n ∧ vis i = false then σ.at i else σ1.at i := by
  unfold St.back St.at
  simp only [T.get_of]
  split
  · rfl
  · rename_i h
    rw [if_neg (by omega)]
    have := htop i (by omega)
    unfold St.at at this
    rw [this]
theorem CallW.frame {f : FuncId} {args : List IV} {RW : IV → St → Prop} (vis : Nat → Bool) (htop : ∀ id, σ.n ≤ id → σ.at id = none) (h : CallW P N f args (σ.only vis) RW) :
    CallW P N f args σ (fun v σ' => ∃ σ1, RW v σ1 ∧ σ' = σ.back σ1 vis ∧ σ.n ≤ σ1.n ∧ (∀ id, σ1.n ≤ id → σ1.at id = none) ∧ ∀ id, id < σ.n → vis id = false → σ1.at id = none) := by
  intro ι us w hi hr
  have hat := only_at vis htop
  have hi0 : Inv N ι (σ.only vis) w := by
    refine ⟨hi.mem, hi.sep, hi.bnd, hi.fresh, hi.inj, fun id o ho => ?_, fun id hid => ?_⟩
    · rw [hat] at ho
      split at ho
      · exact hi.obj id o ho
      · cases ho
    · rw [hat]
      split
      · exact hi.wf id hid
      · rfl
  refine (h ι us w hi0 hr).mono fun ed w' hR => ?_
  obtain ⟨v, σ1, hrw, hR⟩ := hR
  cases ed with
  | returned u =>
    obtain ⟨ι', h1, h2, h3⟩ := hR
    have hn : σ.n ≤ σ1.n := h3.n_le
    have hhid : ∀ id, id < σ.n → vis id = false → σ1.at id = none := fun id hid hv => by
      refine h3.dead id ?_ (.inl hid)
      rw [hat, hv]; simp
    have hbk := back_at (σ := σ) (σ1 := σ1) vis hn h2.wf
    refine ⟨v, σ.back σ1 vis, ⟨σ1, hrw, rfl, hn, h2.wf, hhid⟩, ι', h1, ⟨h2.mem, h2.sep, h2.bnd, h2.fresh, h2.inj, fun id o ho => ?_, fun id hid => ?_⟩, ?_⟩
    · rw [hbk] at ho
      split at ho
      · rename_i hc
        refine (hi.obj id o ho).keep h3.ext (h3.dom id (by rw [hat, hc.2]; simp) (.inl hc.1)) fun b hb => h3.frame b (hi.bnd id b hb) fun id' hb' => .inr ?_
        have := hi.inj id id' b hb hb'
        subst this
        rw [hat, hc.2]; simp
      · exact h2.obj id o ho
    · rw [hbk]
      have hid' : σ1.n ≤ id := hid
      rw [if_neg (by omega)]
      exact h2.wf id hid'
    · refine ⟨h3.ext, h3.own, fun id hid hr => h3.dom id (by rw [hat, hid]; simp) hr, fun id hid hr => ?_, fun id hr => absurd hr (Nat.not_lt_zero _), hn, h3.os, h3.tape, h3.output, h3.size, fun b hb hc => h3.frame b hb fun id ho => ?_, h3.mown⟩
      · rw [hbk]
        split
        · exact hid
        · exact h3.dead id (by rw [hat, hid]; simp) hr
      · rcases hc id ho with h | h
        · exact .inl h
        · exact .inr (by rw [hat, h]; simp)
  | outgrown => exact hR.elim
  | panicked chain => exact hR.elim
end Go.Ev
namespace Go.Ev
variable {P : Program} {N : Nat} {σ σ' : St} {R R' : Rs} {φ φ' : Ph} {E : Nat → Env} {ν : List IV} {L : List (LO SE)} {Γ : Gm SE}
abbrev JRow (s : Nat) (es : List IV) (R : Rs) (φ : Ph) (E : Nat → Env) (σ : St) : Prop := J (α := Unit) (fun _ => some (.tree s es)) R φ [] [.row s false false false ()] E σ
abbrev XRow (s : Nat) (es : List IV) (R : Rs) (φ : Ph) (σ : St) (x : IV) : Prop := VRc (α := Unit) (fun _ => some (.tree s es)) R φ [.row s false false false ()] σ x (.sr 0)
def RCall (P : Program) (s : Nat) (f : FuncId) (es : List IV) (xs : List IV) (es' : List IV) : Prop :=
  ∀ R φ E σ x args, JRow s es R φ E σ → XRow s es R φ σ x → All2 CanP args xs → ∀ KW : Nat → IV → St → Prop, (∀ R' φ' σ' v, JRow s es' R' φ' E σ' → XRow s es' R' φ' σ' v → ∃ b, ∀ N, b ≤ N → KW N v σ') →
    ∃ b, ∀ N, b ≤ N → CallW P N f (x :: args) σ (KW N)
theorem CanR.move {fr : Bool} {x y : IV} (hm : ∀ i ob, σ.at i = some ob → σ'.at i = some ob ∧ R' i = R i) (h : CanR fr R σ x y) : CanR fr R' σ' x y := by
  induction h with
  | raw v => exact .raw v
  | nil s hs => exact .nil s hs
  | emp s hs => exact .emp s hs
  | ifc t x y _ ih => exact .ifc t x y ih
  | agg cs ds hl _ ih => exact .agg cs ds hl ih
  | tup cs ds hl _ ih => exact .tup cs ds hl ih
  | pure x hf hp => exact .pure x hf hp
  | sl id off len cap ep s m cs cep mn es hR hat h1 h2 hs hl hb hm' hcs _ ih =>
    obtain ⟨g1, g2⟩ := hm id _ hat
    exact .sl id off len cap ep s m cs cep mn es (by rw [g2]; exact hR) g1 h1 h2 hs hl hb hm' hcs ih
theorem rcall_row {k s : Nat} {f : FuncId} {fr : Bool} {z z' : SE} {es es' xs args : List IV} {x : IV} (h : J (evd P ν) R φ Γ L E σ) (hk : L[k]? = some (.row s false false fr z)) (hz : z.den P ν = some (.tree s es)) (hz' : z'.den P ν = some (.tree s es'))
    (hraw : ∀ e ∈ es, ∀ c ∈ cellsOf e, isRaw1 c = true) (hx : VRc (evd P ν) R φ L σ x (.sr k)) (hargs : All2 CanP args xs)
    (hΓ : ∀ d t pv, gget d t Γ = some pv → pv.ok (· = k)) (hL : ∀ j o, L[j]? = some o → j ≠ k → o.ok (· = k)) (hr : RCall P s f es xs es')
    (KW : Nat → IV → St → Prop) (hKW : ∀ R' φ' σ' v, J (evd P ν) R' φ' Γ (L.set k (.row s false false false z')) E σ' → VRc (evd P ν) R' φ' (L.set k (.row s false false false z')) σ' v (.sr k) → ∃ b, ∀ N, b ≤ N → KW N v σ') :
    ∃ b, ∀ N, b ≤ N → CallW P N f (x :: args) σ (KW N) := by
  obtain ⟨hs0, es2, g1, g2, g3⟩ := h.obj k _ hk
  have g1' : z.den P ν = some (.tree s es2) := g1
  rw [hz] at g1'; cases g1'
  have hkl := getElem?_lt hk
  let vis : Nat → Bool := fun i => match φ k with
    | some id => Nat.beq i id
    | none => false
  have hvis : ∀ i, vis i = true ↔ φ k = some i := fun i => by
    simp only [vis]
    cases φ k with
    | none => simp
    | some id => simp only [Nat.beq_eq, Option.some.injEq]; exact eq_comm
  have hat := only_at vis h.top
  have hflat : ∀ d ∈ flat es, isRaw1 d = true := fun d hd => by
    obtain ⟨e, he, hc⟩ := List.mem_flatMap.1 hd
    exact hraw e he d hc
  have hJ0 : JRow s es (fun _ => none) (fun j => if j = 0 then φ k else none) E (σ.only vis) := by
    refine ⟨fun d t pv hg => (by cases hg), fun j ob hj => ?_, fun j j' id h1 h2 => ?_, fun j id hj => ?_, fun id m hm => (by cases hm), fun id m cs cep mn hm => (by cases hm), T.of_wf _ _, fun id hid => ?_⟩
    · cases j with
      | succ j => simp at hj
      | zero =>
        simp at hj; subst hj
        refine ⟨hs0, es, rfl, g2, ?_⟩
        rcases g3 with ⟨a, b⟩ | ⟨id, cs, cep, mn, a1, a2, a3, a4, a5, a6, a7⟩
        · exact .inl ⟨by simp [a], b⟩
        · refine .inr ⟨id, cs, cep, mn, by simp [a1], ?_, a3, a4, rfl, a6, fun j u v hu hv => ?_⟩
          · rw [hat, (hvis id).2 a1]; simpa using a2
          · have hd := hflat v (List.mem_of_getElem? hv)
            have := a7 j u v hu hv
            cases v <;> simp only [isRaw1] at hd <;> first | (cases hd; done) | skip
            rw [canRaw this]; exact .raw _
    · split at h1 <;> first | (cases h1; done) | skip
      split at h2 <;> first | (cases h2; done) | skip
      omega
    · split at hj <;> first | (cases hj; done) | skip
      rename_i hj0
      subst hj0
      exact ⟨by simp, (h.lt k id hj).2⟩
    · rw [hat]
      split
      · exact h.top id hid
      · rfl
  have hX0 : XRow s es (fun _ => none) (fun j => if j = 0 then φ k else none) (σ.only vis) x := by
    obtain ⟨s1, st1, cut1, fr1, z1, es1, b1, b2, b3⟩ := hx
    rw [hk] at b1; cases b1
    have b2' : z.den P ν = some (.tree s es1) := b2
    rw [hz] at b2'; cases b2'
    refine ⟨s, false, false, false, (), es, rfl, rfl, ?_⟩
    rcases b3 with ⟨c1, c2, c3⟩ | ⟨id, cs, cep, mn, cap, c1, c2, c3, c4, c5, c6⟩
    · exact .inl ⟨by simp [c1], c2, c3⟩
    · exact .inr ⟨id, cs, cep, mn, cap, by simp [c1], by rw [hat, (hvis id).2 c1]; simpa using c2, c3, c4, c5, c6⟩
  suffices hmain : ∀ R1 φ1 σ1 v, JRow s es' R1 φ1 E σ1 → XRow s es' R1 φ1 σ1 v → σ.n ≤ σ1.n → (∀ id, id < σ.n → vis id = false → σ1.at id = none) → ∃ b, ∀ N, b ≤ N → KW N v (σ.back σ1 vis) by
    obtain ⟨b, hb⟩ := hr _ _ _ _ x args hJ0 hX0 hargs (fun N v σ1 => σ.n ≤ σ1.n → (∀ id, id < σ.n → vis id = false → σ1.at id = none) → KW N v (σ.back σ1 vis)) fun R1 φ1 σ1 v h1 h2 => by
      by_cases hc : σ.n ≤ σ1.n ∧ ∀ id, id < σ.n → vis id = false → σ1.at id = none
      · obtain ⟨b, hb⟩ := hmain R1 φ1 σ1 v h1 h2 hc.1 hc.2
        exact ⟨b, fun N hN _ _ => hb N hN⟩
      · exact ⟨0, fun N _ h3 h4 => absurd ⟨h3, h4⟩ hc⟩
    refine ⟨b, fun N hN ι us w hi hrl => ((hb N hN).frame vis h.top ι us w hi hrl).mono fun ed w' hR => ?_⟩
    obtain ⟨v, σ', ⟨σ1, hkw, rfl, hle, _, hhid⟩, hret⟩ := hR
    exact ⟨v, σ.back σ1 vis, hkw hle hhid, hret⟩
  intro R1 φ1 σ1 v hJ1 hX1 hle hhid
  have htop1 := hJ1.top
  have hbk := back_at (σ := σ) (σ1 := σ1) vis hle htop1
  -- what is hidden, what is not
  have hold : ∀ id, id < σ.n → vis id = false → (σ.back σ1 vis).at id = σ.at id := fun id h1 h2 => by rw [hbk, if_pos ⟨h1, h2⟩]
  have hnew : ∀ id ob, σ1.at id = some ob → ¬ (id < σ.n ∧ vis id = false) := fun id ob ho hc => by rw [hhid id hc.1 hc.2] at ho; cases ho
  have hnew' : ∀ id ob, σ1.at id = some ob → (σ.back σ1 vis).at id = some ob := fun id ob ho => by rw [hbk, if_neg (hnew id ob ho)]; exact ho
  let R2 : Rs := fun i => if i < σ.n ∧ vis i = false then R i else R1 i
  let φ2 : Ph := fun i => if i = k then φ1 0 else φ i
  have hRk : ∀ id, φ k = some id → R id = none := fun id hid => by
    rcases g3 with ⟨a, _⟩ | ⟨id', cs, cep, mn, a1, _, _, _, a5, _⟩
    · rw [hid] at a; cases a
    · rw [hid] at a1; cases a1; simpa using a5
  have hstand : ∀ id m, R id = some m → id < σ.n ∧ vis id = false := fun id m hm => by
    refine ⟨h.ltR id m hm, ?_⟩
    cases hv : vis id with
    | false => rfl
    | true => rw [hRk id ((hvis id).1 hv)] at hm; cases hm
  have hoth : ∀ j id, j ≠ k → φ j = some id → id < σ.n ∧ vis id = false := fun j id hj hid => by
    refine ⟨(h.lt j id hid).2, ?_⟩
    cases hv : vis id with
    | false => rfl
    | true => exact absurd (h.inj j k id hid ((hvis id).1 hv)) hj
  have hfits : ∀ id m cs cep mn, R2 id = some m → (σ.back σ1 vis).at id = some (.cells cs cep mn) → m ≤ cs.length := fun id m cs cep mn hm ha => by
    simp only [R2] at hm
    rw [hbk] at ha
    split at hm
    · rename_i hc; rw [if_pos hc] at ha; exact h.fits id m cs cep mn hm ha
    · rename_i hc; rw [if_neg hc] at ha; exact hJ1.fits id m cs cep mn hm ha
  have hgrow : GrowR R σ R2 (σ.back σ1 vis) := by
    refine ⟨fun id m hm => ⟨m, by simp only [R2]; rw [if_pos (hstand id m hm)]; exact hm, Nat.le_refl _⟩, fun id m cs cep mn hm ha => ⟨cs, cep, ?_, Nat.le_refl _, fun _ _ => rfl⟩, hfits⟩
    rw [hold id (hstand id m hm).1 (hstand id m hm).2]; exact ha
  have hne : ∀ j, j ≠ k → (L.set k (.row s false false false z'))[j]? = L[j]? := fun j hj => List.getElem?_set_ne (fun hc => hj hc.symm)
  have hself : (L.set k (.row s false false false z'))[k]? = some (.row s false false false z') := by simp [hkl]
  have hφ2 : ∀ j, j ≠ k → φ2 j = φ j := fun j hj => by simp only [φ2]; rw [if_neg hj]
  have hφk : φ2 k = φ1 0 := by simp [φ2]
  have hs : Chg (evd P ν) (evd P ν) R φ L σ R2 φ2 (L.set k (.row s false false false z')) (σ.back σ1 vis) (· = k) := by
    refine ⟨fun _ _ h => h, hgrow, fun j cs hj => ?_, fun j kt es1 hj => ?_, fun j s1 st1 cut1 fr1 z1 hj hb => ?_⟩
    · have hjk : j ≠ k := fun hc => by subst hc; rw [hk] at hj; cases hj
      exact ⟨⟨cs, by rw [hne j hjk]; exact hj⟩, hφ2 j hjk⟩
    · have hjk : j ≠ k := fun hc => by subst hc; rw [hk] at hj; cases hj
      exact ⟨⟨es1, by rw [hne j hjk]; exact hj⟩, hφ2 j hjk⟩
    · exact ⟨⟨st1, fr1, z1, by rw [hne j hb]; exact hj, fun e he => ⟨e, he, rfl⟩⟩, hφ2 j hb, fun id cs cep mn hid ha => ⟨cs, mn, by rw [hold id (hoth j id hb hid).1 (hoth j id hb hid).2]; exact ha, rfl, fun h => h⟩⟩
  obtain ⟨hs1, es3, k1, k2, k3⟩ := hJ1.obj 0 _ rfl
  have k1' : some (IV.tree s es') = some (.tree s es3) := k1
  cases k1'
  have hφ1 : ∀ id, φ1 0 = some id → ∃ ob, σ1.at id = some ob := fun id hid => by
    rcases k3 with ⟨a, _⟩ | ⟨id', cs, cep, mn, a1, a2, _⟩
    · rw [hid] at a; cases a
    · rw [hid] at a1; cases a1; exact ⟨_, a2⟩
  refine hKW R2 φ2 (σ.back σ1 vis) v ⟨fun d t pv hg => (h.slot d t pv hg).step hs (hΓ d t pv hg), fun j ob hj => ?_, fun j j' id h1 h2 => ?_, fun j id hj => ?_, fun id m hm => ?_, hfits, T.of_wf _ _, fun id hid => ?_⟩ ?_
  · by_cases hjk : j = k
    · subst hjk
      rw [hself] at hj; cases hj
      refine ⟨hs1, es', hz', k2, ?_⟩
      rcases k3 with ⟨a, b⟩ | ⟨id, cs, cep, mn, a1, a2, a3, a4, a5, a6, a7⟩
      · exact .inl ⟨by rw [hφk]; exact a, b⟩
      · refine .inr ⟨id, cs, cep, mn, by rw [hφk]; exact a1, hnew' id _ a2, a3, a4, ?_, a6, fun q u v hu hv => ?_⟩
        · simp only [R2]; rw [if_neg (hnew id _ a2)]; exact a5
        · refine (a7 q u v hu hv).move fun i ob ho => ⟨hnew' i ob ho, ?_⟩
          simp only [R2]; rw [if_neg (hnew i ob ho)]
    · rw [hne j hjk] at hj
      exact (h.obj j ob hj).step hs (hφ2 j hjk) (fun id hid => ⟨hold id (hoth j id hjk hid).1 (hoth j id hjk hid).2, by simp only [R2]; rw [if_pos (hoth j id hjk hid)]⟩) (hL j ob hj hjk)
  · by_cases hj : j = k
    · by_cases hj' : j' = k
      · rw [hj, hj']
      · exfalso
        rw [hj, hφk] at h1
        rw [hφ2 j' hj'] at h2
        obtain ⟨ob, ho⟩ := hφ1 id h1
        exact hnew id ob ho (hoth j' id hj' h2)
    · by_cases hj' : j' = k
      · exfalso
        rw [hj', hφk] at h2
        rw [hφ2 j hj] at h1
        obtain ⟨ob, ho⟩ := hφ1 id h2
        exact hnew id ob ho (hoth j id hj h1)
      · rw [hφ2 j hj] at h1
        rw [hφ2 j' hj'] at h2
        exact h.inj j j' id h1 h2
  · by_cases hjk : j = k
    · subst hjk
      rw [hφk] at hj
      exact ⟨by simpa using hkl, (hJ1.lt 0 id hj).2⟩
    · rw [hφ2 j hjk] at hj
      have := h.lt j id hj
      exact ⟨by simpa using this.1, Nat.lt_of_lt_of_le this.2 hle⟩
  · simp only [R2] at hm
    split at hm
    · exact Nat.lt_of_lt_of_le (h.ltR id m hm) hle
    · exact hJ1.ltR id m hm
  · have hid' : σ1.n ≤ id := hid
    rw [hbk, if_neg (by omega)]
    exact htop1 id hid'
  · obtain ⟨s1, st1, cut1, fr1, z1, es1, b1, b2, b3⟩ := hX1
    have b1' : some (LO.row s false false false ()) = some (.row s1 st1 cut1 fr1 z1) := b1
    cases b1'
    have b2' : some (IV.tree s es') = some (.tree s es1) := b2
    cases b2'
    refine ⟨s, false, false, false, z', es', hself, hz', ?_⟩
    rcases b3 with ⟨c1, c2, c3⟩ | ⟨id, cs, cep, mn, cap, c1, c2, c3, c4, c5, c6⟩
    · exact .inl ⟨by rw [hφk]; exact c1, c2, c3⟩
    · exact .inr ⟨id, cs, cep, mn, cap, by rw [hφk]; exact c1, hnew' id _ c2, c3, c4, c5, c6⟩
end Go.Ev
