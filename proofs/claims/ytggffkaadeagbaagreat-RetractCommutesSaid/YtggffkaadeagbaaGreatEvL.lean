/- Lemmas over the model, without conditions of their own: operations on expressions (2). -/
import Derived.Test.YtggffkaadeagbaaGreatEvK
set_option linter.all false
namespace Go.Ev
variable {P : Program} {N : Nat} {σ σ' : St} {R R' : Rs} {φ φ' : Ph} {E : Nat → Env} {ν : List IV}
variable {C : Cr} {Q : IV → Prop} {K : List (List IV → Prop)} {V : SS} {d : Nat} {o : Oper} {k : PV SE → SS → FIR}
theorem eqGuard_any {op : BinOp} {t : TypeId} {x y x' y' : Operand} {u v : Value} (h : u ≠ .nilIface) : eqGuard op t x y u v = eqGuard op t x' y' u v := by
  unfold eqGuard
  cases u <;> first | exact absurd rfl h | rfl | (cases v <;> rfl)
theorem binI_any {op : BinOp} {t : TypeId} {x y x' y' : Operand} {a b : IV} {u v : Value} (ha : toRaw a = some u) (hb : toRaw b = some v) (h : u ≠ .nilIface) : binI P op t x y a b = binI P op t x' y' a b := by
  unfold binI
  split <;> first | rfl | skip
  rw [ha, hb]
  simp only
  rw [eqGuard_any (x := x) (y := y) (x' := x') (y' := y') h]
theorem denBin_ok {op : BinOp} {t : TypeId} {a b z : IV} (h : denBin P op t a b = some z) {f g : Bool} {xa xb : IV} (ha : CanR f R σ xa a) (hb : CanR g R σ xb b) (ox oy : Operand) : binI P op t ox oy xa xb = some z := by
  unfold denBin at h
  split at h
  · cases h
  · rename_i u v hne hu hv
    rw [canToRaw ha hu, canToRaw hb hv, binI_any (x' := .func 0) (y' := .func 0) hu hv (fun hc => hne hc)]
    exact h
  · cases h
variable (hJ : J (evd P ν) R φ V.g V.l E σ) (hn : ν.length = V.n)
include hJ hn
theorem lift_can (v : Value) : CanP (lift v) (lift v) := by
  unfold lift
  split
  · refine .agg _ _ rfl fun i c e h1 h2 => ?_
    rw [h1] at h2; cases h2
    rw [List.getElem?_map] at h1
    obtain ⟨u, _, rfl⟩ := Option.map_eq_some_iff.1 h1
    exact .raw u
  · exact .raw _
omit hJ hn in
theorem binI_can {op : BinOp} {t : TypeId} {x y : Operand} {a b z : IV} (h : binI P op t x y a b = some z) : CanP z z := by
  unfold binI at h
  split at h <;> first | (cases h; exact .raw _) | skip
  · split at h
    · cases h; exact .raw _
    · cases h
  · split at h
    · obtain ⟨v, _, rfl⟩ := Option.map_eq_some_iff.1 h
      unfold lift
      split
      · refine .agg _ _ rfl fun i c e h1 h2 => ?_
        rw [h1] at h2; cases h2
        rw [List.getElem?_map] at h1
        obtain ⟨u, _, rfl⟩ := Option.map_eq_some_iff.1 h1
        exact .raw u
      · exact .raw _
    · split at h
      · split at h
        · cases h; exact .raw _
        · cases h; exact .raw _
        · cases h
      · split at h
        · cases h; exact .raw _
        · cases h; exact .raw _
        · cases h
theorem bin_vv {op : BinOp} {t yt : TypeId} {x y : Operand} {a b : SE} (ho : o.op = .binOp op t x y yt) {f g : Bool} (ha : ∀ z, a.den P ν = some z → CanR f R σ (evalI (E d) x) z) (hb : ∀ z, b.den P ν = some z → CanR g R σ (evalI (E d) y) z)
    (hs : (vk (.ok (.bin op t a b)) V k).sat P C Q K ν) : OutV P C Q K ν E V.ln k (Res P E d o σ) := by
  obtain ⟨⟨z, hz⟩, hk⟩ := hs
  obtain ⟨h1, h2⟩ := den_ok hz
  simp only [SE.den, Option.bind_eq_some_iff] at h1
  obtain ⟨u, h3, v, h4, h5⟩ := h1
  have h6 := denBin_ok h5 (ha u h3) (hb v h4) x y
  exact .at (x := z) hk hJ hn rfl ⟨z, hz, binI_can h6, h2⟩ (by simp [Res, evOp, ho, h6, ret])
theorem xop_un {op : UnOp} {t : TypeId} {x : Operand} (ho : o.op = .unOp op t x) (hs : (opS P d o V k).sat P C Q K ν) : OutV P C Q K ν E V.ln k (Res P E d o σ) := by
  unfold opS at hs; rw [ho] at hs; simp only at hs
  have hx := opd_ok hJ d 0 x
  have main : ∀ a : SE, (∀ z, a.den P ν = some z → CanR true R σ (evalI (E d) x) z) → (vk (.ok (.un op a)) V k).sat P C Q K ν → OutV P C Q K ν E V.ln k (Res P E d o σ) := by
    intro a ha hs
    obtain ⟨⟨z, hz⟩, hk⟩ := hs
    obtain ⟨h1, h2⟩ := den_ok hz
    simp only [SE.den, Option.bind_eq_some_iff] at h1
    obtain ⟨u, h3, h4⟩ := h1
    unfold denUn at h4
    split at h4
    · rename_i v
      have hv := canRaw (ha _ h3)
      obtain ⟨r, hr, rfl⟩ := Option.map_eq_some_iff.1 h4
      exact .at (x := lift r) hk hJ hn rfl ⟨_, hz, lift_can hJ hn r, h2⟩ (by simp [Res, evOp, ho, hv, hr, ret])
    · cases h4
  split at hs
  · rename_i t' hh
    rw [hh] at hx
    have hb := v_bool hJ hn hx
    split at hs
    · refine .at (x := .raw (.bool (!t'))) hs hJ hn rfl ⟨_, rfl, .raw _, rfl⟩ ?_
      simp [Res, evOp, ho, hb, ret, Op.unary, pureRun, lift, pure]
    · exact hs.elim
  · rename_i a _ hh
    rw [hh] at hx
    obtain ⟨y, h1, h2, _⟩ := hx
    exact main a (fun z hz => by have h1' : a.den P ν = some y := h1; rw [hz] at h1'; cases h1'; exact h2.mono hJ.noR) hs
  · rename_i f a hh
    rw [hh] at hx
    obtain ⟨y, h1, h2, _⟩ := hx
    exact main a (fun z hz => by have h1' : a.den P ν = some y := h1; rw [hz] at h1'; cases h1'; exact h2.old) hs
  · exact hs.elim
theorem xop_cv {src dst : TypeId} {x : Operand} (ho : o.op = .convert src dst x) (hs : (opS P d o V k).sat P C Q K ν) : OutV P C Q K ν E V.ln k (Res P E d o σ) := by
  unfold opS at hs; rw [ho] at hs; simp only at hs
  have hx := opd_ok hJ d src x
  have main : ∀ a : SE, (∀ z, a.den P ν = some z → CanR true R σ (evalI (E d) x) z) → (vk (.ok (.cv src dst a)) V k).sat P C Q K ν → OutV P C Q K ν E V.ln k (Res P E d o σ) := by
    intro a ha hs
    obtain ⟨⟨z, hz⟩, hk⟩ := hs
    obtain ⟨h1, h2⟩ := den_ok hz
    simp only [SE.den, Option.bind_eq_some_iff] at h1
    obtain ⟨u, h3, h4⟩ := h1
    unfold denCv at h4
    split at h4
    · rename_i b
      have hv := canRaw (ha _ h3)
      split at h4
      · rename_i q hq1 hq2
        cases h4
        exact .at (x := .raw (.string b)) hk hJ hn rfl ⟨_, hz, .raw _, h2⟩ (by simp [Res, evOp, ho, hv, hq1, hq2, ret])
      · cases h4
    · rename_i v hnv
      have hv := canRaw (ha _ h3)
      obtain ⟨r, hr, rfl⟩ := Option.map_eq_some_iff.1 h4
      refine .at (x := lift r) hk hJ hn rfl ⟨_, hz, lift_can hJ hn r, h2⟩ ?_
      unfold Res evOp
      rw [ho]
      simp only [hv, hr, ret]
    · cases h4
  split at hs
  · rename_i a hh
    rw [hh] at hx
    obtain ⟨y, h1, h2, _⟩ := hx
    exact main a (fun z hz => by have h1' : a.den P ν = some y := h1; rw [hz] at h1'; cases h1'; exact h2.mono hJ.noR) hs
  · rename_i f a hh
    rw [hh] at hx
    obtain ⟨y, h1, h2, _⟩ := hx
    exact main a (fun z hz => by have h1' : a.den P ν = some y := h1; rw [hz] at h1'; cases h1'; exact h2.old) hs
  · exact hs.elim
theorem xop_extract {x : Operand} {i : Nat} (ho : o.op = .extract x i) (hs : (opS P d o V k).sat P C Q K ν) : OutV P C Q K ν E V.ln k (Res P E d o σ) := by
  unfold opS at hs; rw [ho] at hs; simp only at hs
  have hx := opd_ok hJ d 0 x
  split at hs
  · rename_i vs hh
    rw [hh] at hx
    obtain ⟨xs, h1, h2⟩ := hx
    split at hs
    · rename_i cs hi
      obtain ⟨a, ha, hr⟩ := h2.getR hi
      refine .here (x := a) (pv := .ag cs) (σ1 := σ) (by simp [Res, evOp, ho, h1, ha, ret]) hJ ?_ hn rfl hs
      simpa [VR1, VR] using hr
    · rename_i c hi
      obtain ⟨a, ha, hr⟩ := h2.getR hi
      refine .at (x := a) hs hJ hn rfl ?_ (by simp [Res, evOp, ho, h1, ha, ret])
      simpa [VR1] using hr
    · exact hs.elim
  · exact hs.elim
theorem xop_field {t : TypeId} {x : Operand} {f : Nat} (ho : o.op = .field t x f) (hs : (opS P d o V k).sat P C Q K ν) : OutV P C Q K ν E V.ln k (Res P E d o σ) := by
  unfold opS at hs; rw [ho] at hs; simp only at hs
  have hx := opd_ok hJ d t x
  split at hs
  · rename_i cs fo sz hh hf
    rw [hh] at hx
    obtain ⟨xs, h1, h2⟩ := hx
    obtain ⟨fields, fd, g1, g2, g3, rfl⟩ := fieldAt_inv hf
    rw [g1] at hs
    simp only at hs
    split at hs
    · rename_i hc
      simp only [Bool.and_eq_true, Nat.ble_eq, Option.isSome_iff_exists] at hc
      obtain ⟨hle, b, hb⟩ := hc
      rw [g2] at hs hb
      simp only [Option.map_some, Option.getD_some] at hs hb
      obtain ⟨pv, hk, hpv⟩ : ∃ pv, (k pv V).sat P C Q K ν ∧ (if isAgg P fd.type = true then pv = .ag ((cs.drop fd.offset).take sz) else ∃ c, (cs.drop fd.offset).take sz = [c] ∧ pv = .one c) := by
        split at hs
        · rename_i ha
          split at hs
          · exact ⟨_, hs, by rw [if_pos ha]⟩
          · exact hs.elim
        · rename_i ha
          split at hs
          · rename_i c hcc; exact ⟨_, hs, by rw [if_neg ha]; exact ⟨c, hcc, rfl⟩⟩
          · exact hs.elim
      obtain ⟨v, hv, hr⟩ := part_ok g3 hb h2 hle hpv
      exact .here (x := v) (pv := pv) (σ1 := σ) (by simp [Res, evOp, ho, h1, g1, g2, hv, ret]) hJ hr hn rfl hk
    · exact hs.elim
  · exact hs.elim
end Go.Ev
namespace Go.Ev
variable {P : Program} {N : Nat} {σ σ' : St} {R R' : Rs} {φ φ' : Ph} {E : Nat → Env} {ν : List IV}
variable {C : Cr} {Q : IV → Prop} {K : List (List IV → Prop)} {V : SS} {d : Nat} {o : Oper} {k : PV SE → SS → FIR}
theorem elemsOk_mem {s : Nat} {es : List IV} (h : elemsOk s es = true) : (∀ e ∈ es, (cellsOf e).length = s) ∧ ∀ c ∈ flat es, Ev.cellOk c = true := by
  unfold elemsOk at h
  rw [List.all_eq_true] at h
  refine ⟨fun e he => ?_, fun c hc => ?_⟩
  · have := h e he
    simp only [Bool.and_eq_true, beq_iff_eq] at this
    exact this.1
  · obtain ⟨e, he, hce⟩ := List.mem_flatMap.1 hc
    have := h e he
    simp only [Bool.and_eq_true, List.all_eq_true] at this
    exact this.2 c hce
theorem flat_app (a b : List IV) : flat (a ++ b) = flat a ++ flat b := by simp [flat]
def CellsR (fr : Bool) (R : Rs) (σ : St) (cs ds : List IV) : Prop := ∀ (j : Nat) x d, cs[j]? = some x → ds[j]? = some d → CanR fr R σ x d
theorem app_arg {fr : Bool} {x : IV} {s : Nat} {es : List IV} (hs0 : 0 < s) (h : CanR fr R σ x (.tree s es)) (hok : elemsOk s es = true) :
    lenI x = some es.length ∧ ∃ new, firstC s es.length σ x = some new ∧ new.length = es.length * s ∧ CellsR fr R σ new (flat es) ∧ new.all Ev.cellOk = true := by
  obtain ⟨h1, h2⟩ := elemsOk_mem hok
  generalize hz : IV.tree s es = z at h
  cases h with
  | nil s' hs' => injection hz with a b; subst a b; exact ⟨rfl, [], by simp [firstC], by simp, fun j x d h => by simp at h, rfl⟩
  | emp s' hs' => injection hz with a b; subst a b; exact ⟨rfl, [], by simp [firstC], by simp, fun j x d h => by simp at h, rfl⟩
  | pure _ hf hp =>
    subst hz
    refine ⟨rfl, flat es, by simp [firstC, flat], flat_len h1, fun j x d hx hd => ?_, List.all_eq_true.2 h2⟩
    rw [hx] at hd; cases hd
    refine .pure x hf ?_
    obtain ⟨e, he, hce⟩ := List.mem_flatMap.1 (List.mem_of_getElem? hx)
    cases hp with | tree _ _ hh => exact hh e he x hce
  | sl id off len cap ep s' m cs cep mn es' hR hat a1 a2 hs' hl hb hm hcs hh =>
    injection hz with a b
    subst a b hl
    have hread : CellsR fr R σ ((cs.drop off).take (es.length * s)) (flat es) := by
      intro j x d hx hd
      have hj : j < es.length * s := by have := (List.getElem?_eq_some_iff.1 hd).1; rw [flat_len h1] at this; exact this
      rw [List.getElem?_take, if_pos hj, List.getElem?_drop] at hx
      have hi : j / s < es.length := by
        rw [Nat.div_lt_iff_lt_mul hs0]; exact hj
      have he : es[j / s]? = some es[j / s] := List.getElem?_eq_getElem hi
      have hm1 : j % s < (cellsOf es[j / s]).length := by rw [h1 _ (List.getElem_mem hi)]; exact Nat.mod_lt _ hs0
      have hce : (cellsOf es[j / s])[j % s]? = some (cellsOf es[j / s])[j % s] := List.getElem?_eq_getElem hm1
      have hjj : j / s * s + j % s = j := Nat.div_add_mod' j s
      have hf := flat_get h1 he hce
      rw [hjj, hd] at hf; cases hf
      exact hh _ _ _ x _ he hce (by rw [show off + j / s * s + j % s = off + j by omega]; exact hx)
    refine ⟨rfl, (cs.drop off).take (es.length * s), ?_, by simp; omega, hread, ?_⟩
    · simp only [firstC]
      rw [if_pos ⟨trivial, Nat.le_refl _⟩, hat]
      simp only
      rw [if_pos ⟨a1, a2, by omega⟩]
    · rw [List.all_eq_true]
      intro c hc
      obtain ⟨j, hj⟩ := List.getElem?_of_mem hc
      have hlt := (List.getElem?_eq_some_iff.1 hj).1
      have hlt2 : j < (flat es).length := by rw [flat_len h1]; simp at hlt; omega
      exact (hread j c _ hj (List.getElem?_eq_getElem hlt2)).cellOk (h2 _ (List.getElem_mem hlt2))
  | raw v => cases hz
  | ifc => cases hz
  | agg => cases hz
  | tup => cases hz
theorem sr_arg {L : List (LO SE)} {Γ : Gm SE} (h : J (evd P ν) R φ Γ L E σ) {k s : Nat} {st cut fr : Bool} {z : SE} {x : IV} {es : List IV} (hk : L[k]? = some (.row s st cut fr z)) (hz : z.den P ν = some (.tree s es)) (hx : VRc (evd P ν) R φ L σ x (.sr k)) :
    lenI x = some es.length ∧ ∃ new, firstC s es.length σ x = some new ∧ new.length = es.length * s ∧ CellsR fr R σ new (flat es) ∧ new.all Ev.cellOk = true := by
  obtain ⟨hs0, es2, g1, g2, g3⟩ := h.obj k _ hk
  have g1' : z.den P ν = some (.tree s es2) := g1
  rw [hz] at g1'; cases g1'
  obtain ⟨s2, st2, cut2, fr2, z2, es3, a1, a2, a3⟩ := hx
  rw [hk] at a1; cases a1
  have a2' : z.den P ν = some (.tree s es3) := a2
  rw [hz] at a2'; cases a2'
  rcases a3 with ⟨_, b2, b3⟩ | ⟨id, cs, cep, mn, cap, b1, b2, rfl, b4, b5, b6⟩
  · have : es = [] := List.eq_nil_of_length_eq_zero b2
    subst this
    rcases b3 with rfl | rfl
    · exact ⟨rfl, [], by simp [firstC], by simp, fun j x d h => by simp at h, rfl⟩
    · exact ⟨rfl, [], by simp [firstC], by simp, fun j x d h => by simp at h, rfl⟩
  · rcases g3 with ⟨g3, _⟩ | ⟨id', cs', cep', mn', g3, g4, g5, g6, g7, g8, g9⟩
    · rw [b1] at g3; cases g3
    · rw [b1] at g3; cases g3
      rw [b2] at g4; cases g4
      refine ⟨by simp [lenI], cs.take (es.length * s), ?_, by simp; omega, fun j x d hx hd => ?_, ?_⟩
      · simp only [firstC]
        rw [if_pos ⟨trivial, by simp⟩, b2]
        simp only
        rw [if_pos ⟨g5, Nat.le_refl _, by omega⟩]
        simp
      · rw [List.getElem?_take] at hx
        split at hx
        · exact g9 j x d hx hd
        · cases hx
      · rw [List.all_eq_true] at g8 ⊢
        exact fun c hc => g8 c (List.mem_of_mem_take hc)
theorem cellsR_app {fr fr' : Bool} {cs ds cs' ds' : List IV} (h : CellsR fr R σ cs ds) (hl : cs.length = ds.length) (h' : CellsR fr' R σ cs' ds') : CellsR (fr || fr') R σ (cs ++ cs') (ds ++ ds') := by
  intro j x d hx hd
  by_cases hj : j < cs.length
  · rw [List.getElem?_append_left hj] at hx
    rw [List.getElem?_append_left (by omega)] at hd
    exact (h j x d hx hd).wide (fun h => by simp [h])
  · rw [List.getElem?_append_right (by omega)] at hx
    rw [List.getElem?_append_right (by omega), ← hl] at hd
    exact (h' _ x d hx hd).wide (fun h => by simp [h])
end Go.Ev
namespace Go.Ev
variable {P : Program} {N : Nat} {σ σ' : St} {R R' : Rs} {φ φ' : Ph} {E : Nat → Env} {ν : List IV}
variable {C : Cr} {Q : IV → Prop} {K : List (List IV → Prop)} {V : SS} {d : Nat} {o : Oper} {k : PV SE → SS → FIR} {L : List (LO SE)} {Γ : Gm SE}
theorem J.reZ (h : J (evd P ν) R φ Γ L E σ) {k s : Nat} {st cut fr fr' : Bool} {z z' : SE} {es : List IV} (hk : L[k]? = some (.row s st cut fr z)) (hz : z.den P ν = some (.tree s es)) (hz' : z'.den P ν = some (.tree s es)) (hf : fr = true → fr' = true) :
    Chg (evd P ν) (evd P ν) R φ L σ R φ (L.set k (.row s st cut fr' z')) σ (fun _ => False) ∧ J (evd P ν) R φ Γ (L.set k (.row s st cut fr' z')) E σ := by
  have hkl := getElem?_lt hk
  have hne : ∀ j, j ≠ k → (L.set k (.row s st cut fr' z'))[j]? = L[j]? := fun j hj => List.getElem?_set_ne (fun hc => hj hc.symm)
  have hself : (L.set k (.row s st cut fr' z'))[k]? = some (.row s st cut fr' z') := by simp [hkl]
  have hs : Chg (evd P ν) (evd P ν) R φ L σ R φ (L.set k (.row s st cut fr' z')) σ (fun _ => False) := by
    refine ⟨fun _ _ h => h, GrowR.refl h.fits, fun j cs1 hj => ?_, fun j kt es1 hj => ?_, fun j s1 st1 cut1 fr1 z1 hj _ => ?_⟩
    · by_cases hjk : j = k
      · subst hjk; rw [hk] at hj; cases hj
      · exact ⟨⟨cs1, by rw [hne j hjk]; exact hj⟩, rfl⟩
    · by_cases hjk : j = k
      · subst hjk; rw [hk] at hj; cases hj
      · exact ⟨⟨es1, by rw [hne j hjk]; exact hj⟩, rfl⟩
    · by_cases hjk : j = k
      · subst hjk; rw [hk] at hj; cases hj
        refine ⟨⟨st, fr', z', hself, fun es1 he1 => ⟨es, hz', ?_⟩⟩, rfl, fun _ cs1 _ mn1 _ hat1 => ⟨cs1, mn1, hat1, rfl, fun h => h⟩⟩
        have he1' : z.den P ν = some (.tree s es1) := he1
        rw [hz] at he1'; cases he1'; rfl
      · exact ⟨⟨st1, fr1, z1, by rw [hne j hjk]; exact hj, fun es1 he1 => ⟨es1, he1, rfl⟩⟩, rfl, fun _ cs1 _ mn1 _ hat1 => ⟨cs1, mn1, hat1, rfl, fun h => h⟩⟩
  refine ⟨hs, { h with slot := fun d t pv hg => (h.slot d t pv hg).step hs pv.ok_false, obj := fun j o hj => ?_, lt := fun j id hj => by simpa using h.lt j id hj }⟩
  by_cases hjk : j = k
  · subst hjk
    rw [hself] at hj; cases hj
    obtain ⟨hs0, es2, g1, g2, g3⟩ := h.obj j _ hk
    have g1' : z.den P ν = some (.tree s es2) := g1
    rw [hz] at g1'; cases g1'
    refine ⟨hs0, es, hz', g2, ?_⟩
    rcases g3 with g3 | ⟨id', cs', cep', mn', g3, g4, g5, g6, g7, g8, g9⟩
    · exact .inl g3
    · exact .inr ⟨id', cs', cep', mn', g3, g4, g5, g6, g7, g8, fun j x d hx hd => (g9 j x d hx hd).wide hf⟩
  · rw [hne j hjk] at hj
    exact (h.obj j o hj).step hs rfl (fun _ _ => ⟨rfl, rfl⟩) o.ok_false
theorem put_put {σ : St} (hw : σ.t.WF) (id : Nat) (a b : Ob) : (σ.put id a).put id b = σ.put id b := by
  unfold St.put
  congr 1
  refine T.WF.ext ((hw.set _ _).set _ _) (hw.set _ _) fun i => ?_
  simp only [T.get_set]
  split <;> rfl
theorem appendNew_eq {s len n : Nat} {new old : List IV} {x : IV} (h : firstC s len σ x = some old) (hl : old.length = len * s) : appendNew s len n new x σ = ret (.sl σ.n 0 (len + n) none 0 s) (σ.add (.cells (old ++ new) 0 0)) := by
  simp [appendNew, h, hl]
theorem append_row (h : J (evd P ν) R φ Γ L E σ) {k s : Nat} {st cut fr fr' : Bool} {z z' : SE} {es fs new : List IV} {x : IV} (hk : L[k]? = some (.row s st cut fr z)) (hz : z.den P ν = some (.tree s es)) (hz' : z'.den P ν = some (.tree s (es ++ fs)))
    (hx : VRc (evd P ν) R φ L σ x (.sr k)) (hnl : new.length = fs.length * s) (hnr : CellsR fr' R σ new (flat fs)) (hnc : new.all Ev.cellOk = true) (hfs : ∀ e ∈ fs, (cellsOf e).length = s) (hsc : (st && cut) = false)
    (hΓ : ∀ d t pv, gget d t Γ = some pv → pv.ok (· = k)) (hL : ∀ j o, L[j]? = some o → j ≠ k → o.ok (· = k)) :
    ∃ x' σ' R' φ', appendTo 0 s es.length fs.length new x σ = some (.val x' σ') ∧ J (evd P ν) R' φ' Γ (L.set k (.row s st cut (fr' || fr) z')) E σ' ∧ VRc (evd P ν) R' φ' (L.set k (.row s st cut (fr' || fr) z')) σ' x' (.sr k) := by
  obtain ⟨hs0, es2, g1, g2, g3⟩ := h.obj k _ hk
  have g1' : z.den P ν = some (.tree s es2) := g1
  rw [hz] at g1'; cases g1'
  have hkl := getElem?_lt hk
  have hself : (L.set k (.row s st cut (fr' || fr) z'))[k]? = some (.row s st cut (fr' || fr) z') := by simp [hkl]
  have hcs2 : ∀ e ∈ es ++ fs, (cellsOf e).length = s := fun e he => (List.mem_append.1 he).elim (g2 e) (hfs e)
  have hx0 := hx
  obtain ⟨s2, st2, cut2, fr2, z2, es3, a1, a2, a3⟩ := hx
  rw [hk] at a1; cases a1
  have a2' : z.den P ν = some (.tree s es3) := a2
  rw [hz] at a2'; cases a2'
  -- nothing to append
  by_cases hn0 : fs.length = 0
  · have hfs0 : fs = [] := List.eq_nil_of_length_eq_zero hn0
    subst hfs0
    rw [List.append_nil] at hz'
    obtain ⟨hs, hJ⟩ := h.reZ (fr' := fr' || fr) hk hz hz' (fun h => by simp [h])
    refine ⟨x, σ, R, φ, ?_, hJ, hx0.step hs (Cl.ok_false _)⟩
    rcases a3 with ⟨_, _, rfl | rfl⟩ | ⟨id, cs, cep, mn, cap, _, _, rfl, _⟩ <;> simp [appendTo, ret]
  -- a new object
  have fresh : ∀ old : List IV, old.length = es.length * s → (∀ (j : Nat) x d, old[j]? = some x → (flat es)[j]? = some d → CanR fr R σ x d) → old.all Ev.cellOk = true →
      ∃ R' φ', J (evd P ν) R' φ' Γ (L.set k (.row s st cut (fr' || fr) z')) E (σ.add (.cells (old ++ new) 0 0)) ∧ VRc (evd P ν) R' φ' (L.set k (.row s st cut (fr' || fr) z')) (σ.add (.cells (old ++ new) 0 0)) (.sl σ.n 0 (es.length + fs.length) none 0 s) (.sr k) := by
    intro old ho1 ho2 ho3
    let R' : Rs := fun i => if i = σ.n then (if st then some ((es ++ fs).length * s) else none) else R i
    have hlen : (old ++ new).length = (es ++ fs).length * s := by simp [ho1, hnl, Nat.add_mul]
    obtain ⟨hs, hJ⟩ := h.updNew (R' := R') (bad := (· = k)) (lo' := .row s st cut (fr' || fr) z') (ob' := .cells (old ++ new) 0 0) hk (fun j hj => by simp [R', hj])
      (fun m cs cep mn hm ho => by
        injection ho with ho1 ho2 ho3
        subst ho1
        simp only [R', if_true] at hm
        split at hm
        · cases hm; rw [hlen]; exact Nat.le_refl _
        · cases hm)
      ⟨_, _, _, _, _, rfl⟩ rfl hΓ hL
      (fun hs => ⟨hs0, es ++ fs, hz', hcs2, .inr ⟨σ.n, old ++ new, 0, 0, by simp [addφ], by simp, Nat.le_refl _, by rw [hlen]; exact Nat.le_refl _, by simp [R'], by rw [List.all_append, ho3, hnc]; rfl, fun j x d hx hd => by
        rw [flat_app] at hd
        have hc := cellsR_app ho2 (by rw [ho1, flat_len g2]) hnr j x d hx hd
        rw [Bool.or_comm] at hc
        exact hc.mono hs.grow⟩⟩)
    refine ⟨R', addφ φ k σ.n, hJ, s, st, cut, fr' || fr, z', es ++ fs, hself, hz', .inr ⟨σ.n, old ++ new, 0, 0, none, by simp [addφ], by simp, by simp, Nat.zero_le _, fun _ _ => hlen.symm, fun c hc => by cases hc⟩⟩
  rcases a3 with ⟨b1, b2, b3⟩ | ⟨id, cs, cep, mn, cap, b1, b2, rfl, b4, b5, b6⟩
  · have he0 : es = [] := List.eq_nil_of_length_eq_zero b2
    subst he0
    obtain ⟨R', φ', hJ, hV⟩ := fresh [] (by simp) (fun j x d h => by simp at h) rfl
    refine ⟨_, _, R', φ', ?_, hJ, hV⟩
    rcases b3 with rfl | rfl
    · simp only [appendTo]
      rw [if_pos ⟨trivial, trivial⟩, if_neg hn0, appendNew_eq (old := []) (by simp [firstC]) (by simp)]
      rfl
    · simp only [appendTo]
      rw [if_neg hn0, appendNew_eq (old := []) (by simp [firstC]) (by simp)]
      rfl
  · rcases g3 with ⟨g3, _⟩ | ⟨id', cs', cep', mn', g3, g4, g5, g6, g7, g8, g9⟩
    · rw [b1] at g3; cases g3
    rw [b1] at g3; cases g3
    rw [b2] at g4; cases g4
    have hold : firstC s es.length σ (.sl id (0 * s) (es.length - 0) cap cep s) = some (cs.take (es.length * s)) := by
      simp only [firstC]
      rw [if_pos ⟨trivial, by simp⟩, b2]
      simp only
      rw [if_pos ⟨g5, Nat.le_refl _, by omega⟩]
      simp
    have holdl : (cs.take (es.length * s)).length = es.length * s := by simp; omega
    have holdr : ∀ (j : Nat) x d, (cs.take (es.length * s))[j]? = some x → (flat es)[j]? = some d → CanR fr R σ x d := fun j x d hx hd => by
      rw [List.getElem?_take] at hx
      split at hx
      · exact g9 j x d hx hd
      · cases hx
    have holdc : (cs.take (es.length * s)).all Ev.cellOk = true := by
      rw [List.all_eq_true] at g8 ⊢
      exact fun c hc => g8 c (List.mem_of_mem_take hc)
    -- the object takes other cells
    have inplace : ∀ (ob : List IV) (cep2 mn2 : Nat), (R id = none ∨ (mn2 = mn ∧ cep ≤ cep2)) → mn2 ≤ cep2 → (∀ j, j < es.length * s → ob[j]? = cs[j]?) → (∀ j, j < new.length → ob[es.length * s + j]? = new[j]?) → (es ++ fs).length * s ≤ ob.length → ob.all Ev.cellOk = true →
        ∀ cap2, (cap2 = none → cut = false → (es ++ fs).length * s = ob.length) → (∀ c, cap2 = some c → mn2 = cep2 ∧ c * s ≤ ob.length ∧ (es ++ fs).length ≤ c) →
        ∃ R', J (evd P ν) R' φ Γ (L.set k (.row s st cut (fr' || fr) z')) E (σ.put id (.cells ob cep2 mn2)) ∧ VRc (evd P ν) R' φ (L.set k (.row s st cut (fr' || fr) z')) (σ.put id (.cells ob cep2 mn2)) (.sl id 0 (es.length + fs.length) cap2 cep2 s) (.sr k) := by
      intro ob cep2 mn2 hRm hmc hob1 hob2 hobl hobc cap2 hcap1 hcap2
      let R' : Rs := fun i => if i = id then (if st then some ((es ++ fs).length * s) else none) else R i
      have hRid : R id = if st then some (es.length * s) else none := g7
      obtain ⟨hs, hJ⟩ := h.updPut (R' := R') (bad := (· = k)) (lo' := .row s st cut (fr' || fr) z') (ob' := .cells ob cep2 mn2) b1 hk (fun j hj => by simp [R', hj])
        (fun m hm => by
          rw [hRid] at hm
          split at hm
          · rename_i hst
            cases hm
            exact ⟨(es ++ fs).length * s, by simp [R', hst], Nat.mul_le_mul_right s (by simp)⟩
          · cases hm)
        (fun m cs1 cep1 mn1 hm hat => by
          rw [b2] at hat; cases hat
          rcases hRm with hRm | ⟨rfl, hle⟩
          · rw [hRm] at hm; cases hm
          · rw [hRid] at hm
            split at hm
            · cases hm
              exact ⟨ob, cep2, rfl, hle, hob1⟩
            · cases hm)
        (fun m cs1 cep1 mn1 hm ho => by
          injection ho with ho1 _ _
          subst ho1
          simp only [R', if_true] at hm
          split at hm
          · cases hm; exact hobl
          · cases hm)
        (fun cs h => by cases h) (fun kt es h => by cases h) (fun _ _ _ _ _ _ => rfl) hΓ hL
        (fun hs => ⟨hs0, es ++ fs, hz', hcs2, .inr ⟨id, ob, cep2, mn2, b1, by rw [St.at_put, if_pos rfl], hmc, hobl, by simp [R'], hobc, fun j x d hx hd => by
          rw [flat_app] at hd
          have hfl := flat_len g2
          by_cases hj : j < es.length * s
          · rw [List.getElem?_append_left (by omega)] at hd
            rw [hob1 j hj] at hx
            exact ((g9 j x d hx hd).wide (fun h => by simp [h])).mono hs.grow
          · rw [List.getElem?_append_right (by omega), hfl] at hd
            have hj2 : j - es.length * s < new.length := by
              have := (List.getElem?_eq_some_iff.1 hd).1
              rw [flat_len hfs] at this; omega
            rw [show j = es.length * s + (j - es.length * s) by omega, hob2 _ hj2] at hx
            exact ((hnr _ x d hx hd).wide (fun h => by simp [h])).mono hs.grow⟩⟩)
      exact ⟨R', hJ, s, st, cut, fr' || fr, z', es ++ fs, hself, hz', .inr ⟨id, ob, cep2, mn2, cap2, b1, by rw [St.at_put, if_pos rfl], by simp, Nat.zero_le _, hcap1, fun c hc => ⟨(hcap2 c hc).1, by simpa using (hcap2 c hc).2.1, by simpa using (hcap2 c hc).2.2⟩⟩⟩
    have hlen2 : (es ++ fs).length * s = es.length * s + fs.length * s := by simp [Nat.add_mul]
    cases cap with
    | some c =>
      obtain ⟨e1, e2, e3⟩ := b6 c rfl
      by_cases hfit : es.length + fs.length ≤ c
      · have hcs1 : es.length * s + fs.length * s ≤ cs.length := by
          have : (es.length + fs.length) * s ≤ c * s := Nat.mul_le_mul_right s hfit
          rw [Nat.add_mul] at this; omega
        obtain ⟨R', hJ, hV⟩ := inplace (splice cs (es.length * s) new) cep cep (.inr ⟨e1.symm, Nat.le_refl _⟩) (Nat.le_refl _)
          (fun j hj => by rw [splice_getElem (α := IV) (by omega), if_neg (by omega)])
          (fun j hj => by rw [splice_getElem (α := IV) (by omega), if_pos (by omega)]; congr 1; omega)
          (by rw [splice_len (by omega)]; omega) (splice_all g8 hnc) (some c) (fun h => by cases h) (fun c' hc' => by cases hc'; exact ⟨rfl, by rw [splice_len (by omega)]; omega, by simpa using hfit⟩)
        refine ⟨_, _, R', φ, ?_, hJ, hV⟩
        simp only [appendTo]
        rw [if_neg (by simp), if_neg hn0]
        simp only [b2, Nat.sub_zero, Nat.zero_mul, Nat.zero_add]
        rw [if_pos hfit, if_pos ⟨Nat.zero_le _, trivial, by rw [Nat.add_mul]; omega⟩]
        rfl
      · obtain ⟨R', φ', hJ, hV⟩ := fresh _ holdl holdr holdc
        refine ⟨_, _, R', φ', ?_, hJ, hV⟩
        simp only [appendTo]
        rw [if_neg (by simp), if_neg hn0]
        simp only [Nat.sub_zero]
        rw [if_neg hfit, appendNew_eq (by simpa using hold) holdl]
        rfl
    | none =>
      by_cases htight : es.length * s = cs.length
      · obtain ⟨R', hJ, hV⟩ := inplace (cs ++ new) (cep + 1) mn (.inr ⟨rfl, by omega⟩) (by omega)
          (fun j hj => by rw [List.getElem?_append_left (by omega)])
          (fun j hj => by rw [List.getElem?_append_right (by omega)]; congr 1; omega)
          (by rw [hlen2, List.length_append]; omega) (by rw [List.all_append, g8, hnc]; rfl) none (fun _ _ => by rw [hlen2, List.length_append]; omega) (fun c h => by cases h)
        refine ⟨_, _, R', φ, ?_, hJ, hV⟩
        simp only [appendTo]
        rw [if_neg (by simp), if_neg hn0]
        simp only [b2, Nat.sub_zero, Nat.zero_mul]
        rw [if_pos ⟨Nat.zero_le _, trivial, trivial, htight⟩]
        rfl
      · have hcut : cut = true := by
          cases hc : cut with
          | true => rfl
          | false => exact absurd (b5 rfl hc) htight
        have hst : st = false := by rw [hcut] at hsc; simpa using hsc
        obtain ⟨R', hJ, hV⟩ := inplace (cs.take (es.length * s) ++ new) (cep + 1 + 1) (cep + 1) (.inl (by rw [g7, hst]; rfl)) (by omega)
          (fun j hj => by rw [List.getElem?_append_left (by omega), List.getElem?_take, if_pos hj])
          (fun j hj => by rw [List.getElem?_append_right (by omega), holdl]; congr 1; omega)
          (by rw [hlen2, List.length_append, holdl]; omega) (by rw [List.all_append, holdc, hnc]; rfl) none (fun _ h => by rw [hcut] at h; cases h) (fun c h => by cases h)
        refine ⟨.sl id 0 (es.length + fs.length) none (cep + 1 + 1) s, (σ.put id (.cells (cs.take (es.length * s)) (cep + 1) (cep + 1))).put id (.cells (cs.take (es.length * s) ++ new) (cep + 1 + 1) (cep + 1)), R', φ, ?_, ?_, ?_⟩
        · simp only [appendTo]
          rw [if_neg (by simp), if_neg hn0]
          simp only [b2, Nat.sub_zero, Nat.zero_mul]
          rw [if_neg (fun hc => htight hc.2.2.2), if_pos ⟨Nat.zero_le _, trivial, trivial, g6⟩]
          rfl
        · rw [put_put h.wf]; exact hJ
        · rw [put_put h.wf]; exact hV
end Go.Ev
namespace Go.Ev
variable {P : Program} {N : Nat} {σ σ' : St} {R R' : Rs} {φ φ' : Ph} {E : Nat → Env} {ν : List IV}
variable {C : Cr} {Q : IV → Prop} {K : List (List IV → Prop)} {V : SS} {d : Nat} {o : Oper} {k : PV SE → SS → FIR} {L : List (LO SE)} {Γ : Gm SE}
theorem argsS_ok (h : J (evd P ν) R φ V.g V.l E σ) (d : Nat) : ∀ (ops : List Operand) (ts : List TypeId), All2 (VR (evd P ν) R φ V.l σ) (ops.map (evalI (E d))) (argsS P d V ops ts)
  | [], _ => trivial
  | x :: xs, t :: ts => ⟨opd_ok h d t x, argsS_ok h d xs ts⟩
  | x :: xs, [] => ⟨opd_ok h d 0 x, argsS_ok h d xs []⟩
theorem all2_one {α β : Type} {r : α → β → Prop} {as : List α} {b : β} (h : All2 r as [b]) : ∃ a, as = [a] ∧ r a b := by
  cases as with
  | nil => exact h.elim
  | cons a as =>
    cases as with
    | nil => exact ⟨a, rfl, h.1⟩
    | cons a' as => exact h.2.elim
theorem all2_two {α β : Type} {r : α → β → Prop} {as : List α} {b c : β} (h : All2 r as [b, c]) : ∃ a a', as = [a, a'] ∧ r a b ∧ r a' c := by
  cases as with
  | nil => exact h.elim
  | cons a as =>
    obtain ⟨a', rfl, h'⟩ := all2_one h.2
    exact ⟨a, a', rfl, h.1, h'⟩
theorem Cl.ok_new {x : IV} {c : Cl SE} (h : VRc (evd P ν) R φ L σ x c) : c.ok (· = L.length) := by
  cases c with
  | sr k => obtain ⟨_, _, _, _, _, _, h1, _⟩ := h; exact fun hc => by have := getElem?_lt h1; omega
  | sv k lo => obtain ⟨_, _, _, _, _, _, _, _, h1, _⟩ := h; exact fun hc => by have := getElem?_lt h1; omega
  | pr k i off ext => obtain ⟨_, _, _, _, _, _, _, _, _, _, _, _, h1, _⟩ := h; exact fun hc => by have := getElem?_lt h1; omega
  | _ => trivial
theorem all2_okNew {xs : List IV} {cs : List (Cl SE)} (h : All2 (VRc (evd P ν) R φ L σ) xs cs) : ∀ c ∈ cs, c.ok (· = L.length) := by
  intro c hc
  obtain ⟨i, hi⟩ := List.getElem?_of_mem hc
  obtain ⟨a, _, ha⟩ := h.getR hi
  exact Cl.ok_new ha
theorem PV.ok_new {x : IV} {pv : PV SE} (h : VR (evd P ν) R φ L σ x pv) : pv.ok (· = L.length) := by
  cases pv with
  | one c => exact Cl.ok_new (c := c) h
  | ag cs => obtain ⟨xs, _, h2⟩ := h; exact all2_okNew h2
  | tu vs =>
    obtain ⟨xs, _, h2⟩ := h
    intro p hp c hc
    obtain ⟨i, hi⟩ := List.getElem?_of_mem hp
    obtain ⟨a, _, ha⟩ := h2.getR hi
    unfold VR1 at ha
    split at ha
    · obtain ⟨ys, _, h3⟩ := ha; exact all2_okNew h3 c hc
    · obtain ⟨c', h3, h4⟩ := ha
      rw [h3] at hc
      simp at hc
      subst hc; exact Cl.ok_new h4
theorem OR.ok_new {j : Nat} {ob : LO SE} (h : OR (evd P ν) R φ L σ j ob) : ob.ok (· = L.length) := by
  cases ob with
  | var cs => obtain ⟨_, _, _, _, _, h4⟩ := h; exact all2_okNew h4
  | _ => trivial
theorem φ_none (h : J (evd P ν) R φ Γ L E σ) {j : Nat} (hj : L.length ≤ j) : φ j = none := by
  cases hf : φ j with
  | none => rfl
  | some id => have := (h.lt _ _ hf).1; omega
theorem J.addNone (h : J (evd P ν) R φ Γ L E σ) {s : Nat} {fr : Bool} {z : SE} (hs : 0 < s) (hz : z.den P ν = some (.tree s [])) : Chg (evd P ν) (evd P ν) R φ L σ R φ (L ++ [.row s false false fr z]) σ (fun _ => False) ∧ J (evd P ν) R φ Γ (L ++ [.row s false false fr z]) E σ := by
  have hL : ∀ j o, L[j]? = some o → (L ++ [.row s false false fr z])[j]? = some o := fun j o hj => by rw [List.getElem?_append_left (getElem?_lt hj)]; exact hj
  have hc : Chg (evd P ν) (evd P ν) R φ L σ R φ (L ++ [.row s false false fr z]) σ (fun _ => False) :=
    .mk' (fun _ _ h => h) (GrowR.refl h.fits) (fun j cs hj => ⟨⟨cs, hL j _ hj⟩, rfl⟩) (fun j kt es hj => ⟨⟨es, hL j _ hj⟩, rfl⟩) (fun j s st cut fr z hj _ => ⟨⟨st, hL j _ hj⟩, rfl, fun _ _ => rfl⟩)
  refine ⟨hc, { h with slot := fun d t pv hg => (h.slot d t pv hg).step hc pv.ok_false, obj := fun j o hj => ?_, lt := fun j id hj => by have := h.lt j id hj; simp; omega }⟩
  by_cases hjl : j < L.length
  · rw [List.getElem?_append_left hjl] at hj
    exact (h.obj j o hj).step hc rfl (fun _ _ => ⟨rfl, rfl⟩) o.ok_false
  · have : j = L.length := by have := getElem?_lt hj; simp at this; omega
    subst this
    simp at hj
    subst hj
    exact ⟨hs, [], hz, fun e he => (by cases he), .inl ⟨φ_none h (Nat.le_refl _), rfl⟩⟩
theorem den_cat {s bytes : Nat} {e f : SE} {z : IV} (h : (SE.cat s bytes e f).den P ν = some z) : ∃ es fs, e.den P ν = some (.tree s es) ∧ f.den P ν = some (.tree s fs) ∧ 0 < s ∧ elemsOk s fs = true ∧ (4 * (es.length + fs.length) + 4096) * bytes ≤ 2 ^ 47 ∧ es.length + fs.length ≤ 2 ^ 40 ∧ z = .tree s (es ++ fs) := by
  simp only [SE.den, Option.bind_eq_some_iff] at h
  obtain ⟨a, h1, b, h2, h3⟩ := h
  unfold denCat at h3
  split at h3
  · split at h3
    · rename_i hc
      obtain ⟨rfl, rfl, c1, c2, c3, c4⟩ := hc
      cases h3
      exact ⟨_, _, h1, h2, c1, c2, c3, c4, rfl⟩
    · cases h3
  · cases h3
theorem raws_cells {fr : Bool} {new ds : List IV} (h : CellsR true R σ new ds) (hd : ∀ d ∈ ds, isRaw1 d = true) : CellsR false R σ new ds := by
  intro j x e hx he
  have hr := hd e (List.mem_of_getElem? he)
  have := h j x e hx he
  unfold isRaw1 at hr
  split at hr
  · rw [canRaw this]; exact .raw _
  · cases hr
theorem appArg_ok (hJ : J (evd P ν) R φ V.g V.l E σ) {et : TypeId} {s : Nat} {base c : Cl SE} {fr raw : Bool} {es : SE} {x : IV} {fs : List IV} (ha : appArgS P V et s base c = some (fr, es, raw)) (hx : VRc (evd P ν) R φ V.l σ x c) (hes : es.den P ν = some (.tree s fs)) (hs0 : 0 < s) (hok : elemsOk s fs = true)
    (hraw : raw = true → (∃ z, (SE.rws es).den P ν = some z)) :
    lenI x = some fs.length ∧ ∃ new, firstC s fs.length σ x = some new ∧ new.length = fs.length * s ∧ CellsR fr R σ new (flat fs) ∧ new.all Ev.cellOk = true := by
  cases c with
  | sr j =>
    simp only [appArgS] at ha
    split at ha
    · rename_i s' st cut fr' es' hj
      split at ha
      · rename_i hc
        simp only [Bool.and_eq_true, Nat.beq_eq] at hc
        simp only [Option.some.injEq, Prod.mk.injEq] at ha
        obtain ⟨rfl, rfl, rfl⟩ := ha
        obtain ⟨rfl, _⟩ := hc
        exact sr_arg hJ hj hes hx
      · cases ha
    · cases ha
  | nl b s' =>
    simp only [appArgS, Option.some.injEq, Prod.mk.injEq] at ha
    obtain ⟨rfl, rfl, rfl⟩ := ha
    have : fs = [] := by
      simp only [SE.den, Option.bind_some] at hes
      split at hes <;> cases hes
      rfl
    subst this
    obtain ⟨_, rfl⟩ := hx
    refine ⟨by cases b <;> rfl, [], ?_, by simp, fun j x d h => by simp at h, rfl⟩
    cases b <;> simp [firstC]
  | w f z =>
    simp only [appArgS, Option.some.injEq, Prod.mk.injEq] at ha
    obtain ⟨rfl, rfl, rfl⟩ := ha
    obtain ⟨y, h1, h2, _⟩ := hx
    have h1' : z.den P ν = some y := h1
    rw [hes] at h1'; cases h1'
    exact app_arg hs0 h2 hok
  | v z =>
    obtain ⟨y, h1, h2, _⟩ := hx
    have h1' : z.den P ν = some y := h1
    simp only [appArgS] at ha
    split at ha
    · simp only [Option.some.injEq, Prod.mk.injEq] at ha
      obtain ⟨rfl, rfl, rfl⟩ := ha
      rw [hes] at h1'; cases h1'
      obtain ⟨a1, new, a2, a3, a4, a5⟩ := app_arg hs0 (h2.mono hJ.noR) hok
      refine ⟨a1, new, a2, a3, raws_cells (fr := true) a4 fun e he => ?_, a5⟩
      obtain ⟨q, hq⟩ := hraw rfl
      simp only [SE.den, hes, Option.bind_some] at hq
      split at hq
      · rename_i hall
        rw [List.all_eq_true] at hall
        obtain ⟨el, hel, hcel⟩ := List.mem_flatMap.1 he
        exact List.all_eq_true.1 (hall el hel) e hcel
      · cases hq
    · simp only [Option.some.injEq, Prod.mk.injEq] at ha
      obtain ⟨rfl, rfl, rfl⟩ := ha
      rw [hes] at h1'; cases h1'
      exact app_arg hs0 (h2.mono hJ.noR) hok
  | un | pt | tp | tw | sv | pr | mp | fn => simp [appArgS] at ha
theorem gget_gdrop {d t k : Nat} {pv : PV SE} {g : Gm SE} (h : gget d t (gdrop k g) = some pv) : pv.ok (· = k) := by
  obtain ⟨q, _, rfl⟩ := gget_drop g h
  exact q.drop_ok k
variable (hJ : J (evd P ν) R φ V.g V.l E σ) (hn : ν.length = V.n)
include hJ hn
theorem appendS_ok {et : TypeId} {bytes s : Nat} {base c : Cl SE} {fr raw : Bool} {es : SE} {x0 x1 : IV} (hb : VRc (evd P ν) R φ V.l σ x0 base) (hc : VRc (evd P ν) R φ V.l σ x1 c) (ha : appArgS P V et s base c = some (fr, es, raw)) (hraw : raw = true → (∃ z, (SE.rws es).den P ν = some z))
    (hs : (appendS bytes s base fr es V k).sat P C Q K ν) :
    OutV P C Q K ν E V.ln k (fun v σ1 => ∃ m n new, lenI x0 = some m ∧ lenI x1 = some n ∧ firstC s n σ x1 = some new ∧ new.length = n * s ∧ new.all Ev.cellOk = true ∧ (4 * (m + n) + 4096) * bytes ≤ 2 ^ 47 ∧ m + n ≤ 2 ^ 40 ∧ appendTo 0 s m n new x0 σ = some (.val v σ1)) := by
  unfold appendS at hs
  split at hs
  · rename_i b s'
    split at hs
    · rename_i hss
      have hss' := Nat.eq_of_beq_eq_true hss
      subst hss'
      obtain ⟨z, h1, h2, hv, hJ1, hn1⟩ := newVar_sat hJ hn hs
      obtain ⟨e0, fs, c1, c2, c3, c4, c5, c6, rfl⟩ := den_cat h1
      have he0 : e0 = [] := by
        simp only [SE.den, Option.bind_some] at c1
        split at c1 <;> cases c1
        rfl
      subst he0
      obtain ⟨a1, new, a2, a3, a4, a5⟩ := appArg_ok hJ ha hc c2 c3 c4 hraw
      obtain ⟨_, hx0⟩ := hb
      have hz0 : (SE.tr s SE.an).den P (ν ++ [IV.tree s ([] ++ fs)]) = some (.tree s []) := by simp [SE.den, c3]
      obtain ⟨hc0, hJ2⟩ := hJ1.addNone (fr := false) c3 hz0
      have hlast : (V.l ++ [LO.row s false false false (SE.tr s SE.an)])[V.l.length]? = some (.row s false false false (SE.tr s SE.an)) := by simp
      obtain ⟨x', σ', R', φ', b1, b2, b3⟩ := append_row hJ2 (fr' := fr) (z' := .var V.n) (x := x0) hlast hz0 hv ⟨s, false, false, false, _, [], hlast, hz0, .inl ⟨φ_none hJ (Nat.le_refl _), rfl, by subst hx0; cases b <;> simp⟩⟩
        a3 a4 a5 (elemsOk_mem c4).1 rfl (fun d t pv hg => PV.ok_new (hJ1.slot d t pv hg)) (fun j o hj hne => by
          have hjl : j < V.l.length := by have := getElem?_lt hj; simp at this; omega
          rw [List.getElem?_append_left hjl] at hj
          exact OR.ok_new (hJ1.obj j o hj))
      have hset : (V.l ++ [LO.row s false false false (SE.tr s SE.an)]).set V.l.length (.row s false false (fr || false) (.var V.n)) = V.l ++ [LO.row s false false fr (.var V.n)] := by simp
      rw [hset] at b2 b3
      refine ⟨x', σ', R', φ', .one (.sr V.l.length), { V with n := V.n + 1, l := V.l ++ [.row s false false fr (.var V.n)] }, [.tree s ([] ++ fs)], ⟨0, fs.length, new, by subst hx0; cases b <;> rfl, a1, a2, a3, a5, c5, c6, b1⟩, b2, b3, hn1, rfl, h2⟩
    · exact hs.elim
  · rename_i j
    split at hs
    · rename_i s' st cut fr' es' hj
      split at hs
      · rename_i hcond
        simp only [Bool.and_eq_true, Nat.beq_eq, Bool.not_eq_true'] at hcond
        obtain ⟨rfl, hsc⟩ := hcond
        obtain ⟨z, h1, h2, hv, hJ1, hn1⟩ := newVar_sat hJ hn hs
        obtain ⟨e0, fs, c1, c2, c3, c4, c5, c6, rfl⟩ := den_cat h1
        obtain ⟨a1, new, a2, a3, a4, a5⟩ := appArg_ok hJ ha hc c2 c3 c4 hraw
        have hm : lenI x0 = some e0.length := by
          have := sr_arg hJ hj c1 hb
          exact this.1
        have hb1 : VRc (evd P (ν ++ [.tree s (e0 ++ fs)])) R φ V.l σ x0 (.sr j) := by
          have hbv : VR (evd P ν) R φ V.l σ x0 (.one (.sr j)) := hb
          exact VR.up hJ hbv (fun e z h => SE.den_app P e h)
        have hJ2 := hJ1.dropK j
        have hjd : (V.l.map (LO.drop j))[j]? = some (.row s st cut fr' es') := by simp [List.getElem?_map, hj, LO.drop]
        have hb2 : VRc (evd P (ν ++ [.tree s (e0 ++ fs)])) R φ (V.l.map (LO.drop j)) σ x0 (.sr j) := hb1.step (chg_drop hJ1 j) (Cl.ok_false _)
        obtain ⟨x', σ', R', φ', b1, b2, b3⟩ := append_row hJ2 (fr' := fr) (z' := .var V.n) (x := x0) hjd (SE.den_app P es' c1) hv hb2 a3 a4 a5 (elemsOk_mem c4).1 hsc (fun d t pv hg => gget_gdrop hg) (fun i o hi hne => by
          rw [List.getElem?_map] at hi
          obtain ⟨o', _, rfl⟩ := Option.map_eq_some_iff.1 hi
          exact o'.drop_ok j)
        refine ⟨x', σ', R', φ', .one (.sr j), ((({ V with n := V.n + 1 } : SS).dropRow j).setObj j (.row s st cut (fr || fr') (.var V.n))), [.tree s (e0 ++ fs)], ⟨e0.length, fs.length, new, hm, a1, a2, a3, a5, c5, c6, b1⟩, b2, b3, hn1, rfl, h2⟩
      · exact hs.elim
    · exact hs.elim
  · exact hs.elim
end Go.Ev
namespace Go.Ev
variable {P : Program} {N : Nat} {σ σ' : St} {R R' : Rs} {φ φ' : Ph} {E : Nat → Env} {ν : List IV}
variable {C : Cr} {Q : IV → Prop} {K : List (List IV → Prop)} {V : SS} {d : Nat} {o : Oper} {k : PV SE → SS → FIR} {L : List (LO SE)} {Γ : Gm SE}
theorem elemOf_some {t et : TypeId} (h : elemOf P t = some et) : P.underlying t = some (.slice et) := by
  unfold elemOf at h
  split at h
  · rename_i e he; cases h; exact he
  · cases h
theorem den_len {e : SE} {z : IV} (h : (SE.len e).den P ν = some z) : ∃ s es, e.den P ν = some (.tree s es) ∧ z = .int es.length := by
  simp only [SE.den, Option.bind_eq_some_iff] at h
  obtain ⟨a, h1, h2⟩ := h
  unfold denLen at h2
  split at h2
  · cases h2; exact ⟨_, _, h1, rfl⟩
  · cases h2
theorem den_slen {e : SE} {z : IV} (h : (SE.slen e).den P ν = some z) : ∃ b, e.den P ν = some (.raw (.string b)) ∧ z = .int b.size := by
  simp only [SE.den, Option.bind_eq_some_iff] at h
  obtain ⟨a, h1, h2⟩ := h
  unfold denSlen at h2
  split at h2
  · cases h2; exact ⟨_, h1, rfl⟩
  · cases h2
theorem len_can {fr : Bool} {x : IV} {s : Nat} {es : List IV} {ts : Array TypeId} {el : TypeId} (hu : (ts[0]?).bind P.underlying = some (.slice el)) (h : CanR fr R σ x (.tree s es)) : lenB P ts x σ = some (.int es.length) := by
  generalize hz : IV.tree s es = z at h
  cases h with
  | nil s' hs' => injection hz with a b; subst a b; simp [lenB, hu]
  | emp s' hs' => injection hz with a b; subst a b; simp [lenB, hu]
  | pure _ hf hp => subst hz; simp [lenB, hu]
  | sl id off len cap ep s' m cs cep mn es' hR hat a1 a2 hs' hl hb hm hcs hh => injection hz with a b; subst a b hl; simp [lenB, hu]
  | raw v => cases hz
  | ifc => cases hz
  | agg => cases hz
  | tup => cases hz
variable (hJ : J (evd P ν) R φ V.g V.l E σ) (hn : ν.length = V.n)
include hJ hn
theorem xop_len {c : Call} (ho : o.op = .call c) (hc : c.callee = .builtin .len) (hs : (opS P d o V k).sat P C Q K ν) : OutV P C Q K ν E V.ln k (Res P E d o σ) := by
  unfold opS at hs; rw [ho] at hs; simp only [hc] at hs
  have hargs := argsS_ok hJ d c.args.toList c.argTypes.toList
  split at hs <;> first | (exact hs.elim) | (exact (‹Builtin.len = Builtin.len → False› rfl).elim) | skip
  all_goals first | (rename_i hb _; cases hb; done) | skip
  rename_i pv _ hh
  rw [hh] at hargs
  obtain ⟨x, hx, hr⟩ := all2_one hargs
  have hev : ∀ v, lenB P c.argTypes x σ = some v → evOp P 0 (evalI (E d)) o σ = some (.val v σ) := by
    intro v hv
    simp [evOp, ho, hc, builtinI, hx, hv]
  split at hs
  · rename_i hu
    have main : ∀ a : SE, (∀ y, a.den P ν = some y → CanR true R σ x y) → (vk (.slen a) V k).sat P C Q K ν → OutV P C Q K ν E V.ln k (Res P E d o σ) := by
      intro a ha hs
      obtain ⟨⟨z, hz⟩, hk⟩ := hs
      obtain ⟨b, h1, rfl⟩ := den_slen hz
      have := canRaw (ha _ h1)
      exact .at (x := .int b.size) hk hJ hn rfl ⟨_, hz, .raw _, rfl⟩ (hev _ (by simp [lenB, hu, this]))
    split at hs
    · rename_i z
      obtain ⟨y, h1, h2, _⟩ := hr
      exact main z (fun y' hy => by have h1' : z.den P ν = some y := h1; rw [hy] at h1'; cases h1'; exact h2.mono hJ.noR) hs
    · rename_i f z
      obtain ⟨y, h1, h2, _⟩ := hr
      exact main z (fun y' hy => by have h1' : z.den P ν = some y := h1; rw [hy] at h1'; cases h1'; exact h2.old) hs
    · exact hs.elim
  · rename_i el hu
    have main : ∀ a : SE, (∀ y, a.den P ν = some y → CanR true R σ x y) → (vk (.len a) V k).sat P C Q K ν → OutV P C Q K ν E V.ln k (Res P E d o σ) := by
      intro a ha hs
      obtain ⟨⟨z, hz⟩, hk⟩ := hs
      obtain ⟨s, es, h1, rfl⟩ := den_len hz
      exact .at (x := .int es.length) hk hJ hn rfl ⟨_, hz, .raw _, rfl⟩ (hev _ (len_can hu (ha _ h1)))
    split at hs
    · rename_i z
      obtain ⟨y, h1, h2, _⟩ := hr
      exact main z (fun y' hy => by have h1' : z.den P ν = some y := h1; rw [hy] at h1'; cases h1'; exact h2.mono hJ.noR) hs
    · rename_i f z
      obtain ⟨y, h1, h2, _⟩ := hr
      exact main z (fun y' hy => by have h1' : z.den P ν = some y := h1; rw [hy] at h1'; cases h1'; exact h2.old) hs
    · rename_i b s
      obtain ⟨_, h2⟩ := hr
      exact .at (x := .int 0) hs hJ hn rfl ⟨_, rfl, .raw _, rfl⟩ (hev _ (by subst h2; cases b <;> simp [lenB, hu]))
    · rename_i j
      split at hs
      · rename_i s st cut fr es hj
        obtain ⟨⟨z, hz⟩, hk⟩ := hs
        obtain ⟨s', es', h1, rfl⟩ := den_len hz
        have hss : s' = s := by
          obtain ⟨_, es2, g1, _⟩ := hJ.obj j _ hj
          have g1' : es.den P ν = some (.tree s es2) := g1
          rw [h1] at g1'; cases g1'; rfl
        subst hss
        obtain ⟨hl, _⟩ := sr_arg hJ hj h1 hr
        refine .at (x := .int es'.length) hk hJ hn rfl ⟨_, hz, .raw _, rfl⟩ (hev _ ?_)
        obtain ⟨s2, st2, cut2, fr2, z2, es3, a1, a2, a3⟩ := hr
        rw [hj] at a1; cases a1
        have a2' : es.den P ν = some (.tree s' es3) := a2
        rw [h1] at a2'; cases a2'
        rcases a3 with ⟨_, b2, rfl | rfl⟩ | ⟨id, cs, cep, mn, cap, _, _, rfl, _⟩
        · simp [lenB, hu, b2]
        · simp [lenB, hu, b2]
        · simp [lenB, hu]
      · exact hs.elim
    · exact hs.elim
  · exact hs.elim
theorem xop_append {c : Call} (ho : o.op = .call c) (hc : c.callee = .builtin .append) (hs : (opS P d o V k).sat P C Q K ν) : OutV P C Q K ν E V.ln k (Res P E d o σ) := by
  unfold opS at hs; rw [ho] at hs; simp only [hc] at hs
  have hargs := argsS_ok hJ d c.args.toList c.argTypes.toList
  split at hs <;> first | (exact hs.elim) | (exact (‹Builtin.append = Builtin.append → False› rfl).elim) | skip
  all_goals first | (rename_i hb _; cases hb; done) | skip
  rename_i base ca _ hh
  rw [hh] at hargs
  obtain ⟨x0, x1, hx, hr0, hr1⟩ := all2_two hargs
  split at hs <;> first | (exact hs.elim) | skip
  rename_i t0 t1 ht0 ht1
  split at hs <;> first | (exact hs.elim) | skip
  rename_i et et1 het het1
  split at hs <;> first | (exact hs.elim) | skip
  rename_i s z bytes hsz hzz hby
  split at hs <;> first | (exact hs.elim) | skip
  rename_i hcond
  have hcond' : s ≠ 0 ∧ z.cells.size = s := by
    simp only [Bool.or_eq_true, Bool.not_eq_true', not_or, Bool.not_eq_true, Bool.not_eq_false] at hcond
    refine ⟨fun h => ?_, Nat.eq_of_beq_eq_true hcond.2⟩
    have := hcond.1; subst h; simp at this
  split at hs <;> first | (exact hs.elim) | skip
  rename_i fr es raw happ
  have main : (raw = true → ∃ z, (SE.rws es).den P ν = some z) → (appendS bytes s base fr es V k).sat P C Q K ν → OutV P C Q K ν E V.ln k (Res P E d o σ) := by
    intro hraw hs
    obtain ⟨v, σ1, R1, φ1, pv, V1, μ, ⟨m, n, new, h1, h2, h3, h4, h5, h6, h7, h8⟩, hrest⟩ := appendS_ok hJ hn hr0 hr1 happ hraw hs
    refine ⟨v, σ1, R1, φ1, pv, V1, μ, ?_, hrest⟩
    simp only [Res, evOp, ho, hc, builtinI, hx, appendI, ht0, ht1, elemOf_some het, elemOf_some het1, hsz, hzz, hby, appendArg, h2, h3, h1]
    rw [if_neg (by rintro (h | h); exact hcond'.1 h; exact h hcond'.2), if_pos ⟨h4, h5, h6, h7⟩, h8]
  split at hs
  · rename_i hr
    obtain ⟨hz, hk⟩ := hs
    exact main (fun _ => hz) hk
  · rename_i hr
    exact main (fun h => absurd h hr) hs
end Go.Ev
namespace Go.Ev
variable {P : Program} {N : Nat} {σ σ' : St} {R R' : Rs} {φ φ' : Ph} {E : Nat → Env} {ν : List IV}
variable {C : Cr} {Q : IV → Prop} {K : List (List IV → Prop)} {V : SS} {d : Nat} {o : Oper} {k : PV SE → SS → FIR} {L : List (LO SE)} {Γ : Gm SE}
theorem place_ok (hJ : J (evd P ν) R φ V.g V.l E σ) {ty : Nat → TypeId} {place : Nat → Option (Nat × Nat)} : ∀ {parts : List (Nat × Operand)} {cells : List IV} {cs out : List (Cl SE)}, All2 (VRc (evd P ν) R φ V.l σ) cells cs →
    placeParts (fun j x => cellsP (opdS P d V (ty j) x)) place parts cs = some out → ∃ cells', fillI place cells (parts.map fun (i, x) => (i, evalI (E d) x)) = some cells' ∧ All2 (VRc (evd P ν) R φ V.l σ) cells' out ∧ cells'.length = cells.length ∧ (cells.all Ev.cellOk = true → cells'.all Ev.cellOk = true)
  | [], cells, cs, out, h, hp => by
    simp only [placeParts, Option.some.injEq] at hp
    subst hp
    exact ⟨cells, rfl, h, rfl, fun h => h⟩
  | (j, x) :: ps, cells, cs, out, h, hp => by
    simp only [placeParts] at hp
    split at hp
    · rename_i off sz hpl
      split at hp
      · rename_i hc
        simp only [Bool.and_eq_true, Nat.beq_eq, Nat.ble_eq] at hc
        obtain ⟨⟨c1, c2⟩, c3⟩ := hc
        have hcell := cellsP_ok (opd_ok hJ d (ty j) x) c1
        have hok := cellsOk_of hcell c1
        have hl := hcell.len
        have hlc := h.len
        obtain ⟨cells', h1, h2, h3, h4⟩ := place_ok hJ (splice_ok off h hcell) hp
        refine ⟨cells', ?_, h2, by rw [h3, splice_len (by omega)], fun ha => h4 (splice_all ha hok)⟩
        simp only [List.map_cons, fillI, hpl]
        rw [if_pos ⟨by omega, by omega, hok⟩]
        exact h1
      · cases hp
    · cases hp
theorem cycle_eq {zero : List IV} {s : Nat} (hl : zero.length = s) (hs : 0 < s) (n : Nat) : cycle zero (n * s) = (List.replicate n zero).flatten := by
  unfold cycle
  split
  · rename_i z
    simp at hl
    subst hl
    rw [Nat.mul_one]
    induction n with
    | zero => rfl
    | succ n ih => simp [List.replicate_succ]
  · rw [hl, Nat.mul_div_cancel _ hs]
theorem cycleC_ok {zero : List IV} {zc : List (Cl SE)} (h : All2 (VRc (evd P ν) R φ L σ) zero zc) : ∀ n, All2 (VRc (evd P ν) R φ L σ) (List.replicate n zero).flatten (cycleC zc n)
  | 0 => trivial
  | n + 1 => by
    rw [List.replicate_succ, List.flatten_cons]
    exact h.app (cycleC_ok h n)
theorem flatten_len {zero : List IV} {s : Nat} (hl : zero.length = s) : ∀ n, (List.replicate n zero).flatten.length = n * s
  | 0 => by simp
  | n + 1 => by rw [List.replicate_succ, List.flatten_cons, List.length_append, flatten_len hl n, hl, Nat.add_mul]; omega
theorem rawLit_ok {z : SE} (h : rawLit z = true) {y : IV} (hy : z.den P ν = some y) : isRaw1 y = true := by
  cases z <;> simp [rawLit] at h <;> (simp only [SE.den, Option.some.injEq] at hy; subst hy; rfl)
theorem rdT_ok {V' : SS} {c : Cl SE} {t : TypeId} {fr : Bool} {z : SE} {raws : List SE} (h : J (evd P ν) R φ V.g V.l E σ) (hr : rdT P V c t = some (fr, z, V', raws)) :
    ∃ R', Stand P ν R φ V σ R' V' ∧ J (evd P ν) R' φ V'.g V'.l E σ ∧ ∀ x, VRc (evd P ν) R φ V.l σ x c → ∃ y, z.den P ν = some y ∧ CanR true R' σ x y ∧ Ev.cellOk y = true ∧ ((∀ e ∈ raws, ∃ q, (SE.rw e).den P ν = some q) → CanR fr R' σ x y) := by
  unfold rdT at hr
  split at hr
  · rename_i z'
    have hbase := rdC_ok (c := .v z') h rfl
    obtain ⟨R', h1, h2, h3⟩ := hbase
    split at hr
    · simp only [Option.some.injEq, Prod.mk.injEq] at hr
      obtain ⟨rfl, rfl, rfl, rfl⟩ := hr
      refine ⟨R', h1, h2, fun x hx => ?_⟩
      obtain ⟨y, a1, a2, a3⟩ := h3 x hx
      refine ⟨y, a1, a2, a3, fun hraw => ?_⟩
      have hy : isRaw1 y = true := by
        by_cases hl : rawLit z' = true
        · exact rawLit_ok hl a1
        · rw [if_neg hl] at hraw
          obtain ⟨q, hq⟩ := hraw z' (by simp)
          simp only [SE.den, a1, Option.bind_some] at hq
          split at hq
          · assumption
          · cases hq
      unfold isRaw1 at hy
      split at hy
      · rw [canRaw a2]; exact .raw _
      · cases hy
    · simp only [Option.some.injEq, Prod.mk.injEq] at hr
      obtain ⟨rfl, rfl, rfl, rfl⟩ := hr
      refine ⟨R', h1, h2, fun x hx => ?_⟩
      obtain ⟨y, a1, a2, a3⟩ := h3 x hx
      exact ⟨y, a1, a2, a3, fun _ => a2⟩
  · split at hr
    · rename_i fr' z' V1 hrd
      simp only [Option.some.injEq, Prod.mk.injEq] at hr
      obtain ⟨rfl, rfl, rfl, rfl⟩ := hr
      obtain ⟨R', h1, h2, h3⟩ := rdC_ok h hrd
      refine ⟨R', h1, h2, fun x hx => ?_⟩
      obtain ⟨y, a1, a2, a3⟩ := h3 x hx
      exact ⟨y, a1, a2.old, a3, fun _ => a2⟩
    · cases hr
theorem rdTs_ok : ∀ {cs : List (Cl SE)} {ts : List TypeId} {V V' : SS} {R : Rs} {fr : Bool} {zs raws : List SE}, J (evd P ν) R φ V.g V.l E σ → rdTs P V cs ts = some (fr, zs, V', raws) →
    ∃ R', Stand P ν R φ V σ R' V' ∧ J (evd P ν) R' φ V'.g V'.l E σ ∧ zs.length = cs.length ∧ ∀ xs, All2 (VRc (evd P ν) R φ V.l σ) xs cs → ∃ ys, All2 (fun (z : SE) y => z.den P ν = some y) zs ys ∧ All2 (CanR true R' σ) xs ys ∧ ys.all Ev.cellOk = true ∧
      ((∀ e ∈ raws, ∃ q, (SE.rw e).den P ν = some q) → All2 (CanR fr R' σ) xs ys)
  | [], _, V, V', R, fr, zs, raws, h, hr => by
    simp only [rdTs, Option.some.injEq, Prod.mk.injEq] at hr
    obtain ⟨rfl, rfl, rfl, rfl⟩ := hr
    refine ⟨R, .refl h, h, rfl, fun xs hx => ⟨[], trivial, ?_, rfl, fun _ => ?_⟩⟩ <;>
    · cases xs with
      | nil => trivial
      | cons => exact hx.elim
  | c :: cs, [], V, V', R, fr, zs, raws, h, hr => by simp [rdTs] at hr
  | c :: cs, t :: ts, V, V', R, fr, zs, raws, h, hr => by
    simp only [rdTs] at hr
    split at hr
    · rename_i f1 z V1 r1 h1
      split at hr
      · rename_i f2 zs' V2 r2 h2
        simp only [Option.some.injEq, Prod.mk.injEq] at hr
        obtain ⟨rfl, rfl, rfl, rfl⟩ := hr
        obtain ⟨R1, a1, a2, a3⟩ := rdT_ok h h1
        obtain ⟨R2, b1, b2, bl, b3⟩ := rdTs_ok a2 h2
        refine ⟨R2, a1.trans b1, b2, by simp [bl], fun xs hx => ?_⟩
        cases xs with
        | nil => exact hx.elim
        | cons x xs =>
          obtain ⟨y, c1, c2, c3, c4⟩ := a3 x hx.1
          obtain ⟨ys, d1, d2, d3, d4⟩ := b3 xs (hx.2.mono fun _ _ hab => a1.vrc hab)
          refine ⟨y :: ys, ⟨c1, d1⟩, ⟨c2.mono b1.2.2.2.grow, d2⟩, by simp [c3, d3], fun hraw => ⟨((c4 fun e he => hraw e (by simp [he])).mono b1.2.2.2.grow).wide (fun h => by simp [h]), (d4 fun e he => hraw e (by simp [he])).mono fun _ _ hab => hab.wide (fun h => by simp [h])⟩⟩
      · cases hr
    · cases hr
theorem needs_sat {f : FIR} : ∀ {es : List SE}, (needs es f).sat P C Q K ν → (∀ e ∈ es, ∃ q, (SE.rw e).den P ν = some q) ∧ f.sat P C Q K ν
  | [], h => ⟨fun e he => (by cases he), h⟩
  | e :: es, h => by
    obtain ⟨h1, h2⟩ := h
    obtain ⟨h3, h4⟩ := needs_sat h2
    exact ⟨fun x hx => (by rcases List.mem_cons.1 hx with rfl | hx; exact h1; exact h3 x hx), h4⟩
theorem elems_den {s : Nat} : ∀ (n : Nat) {zs : List SE} {ys : List IV}, All2 (fun (z : SE) y => z.den P ν = some y) zs ys → ys.length = n * s → ∃ es : List IV, All2 (fun (z : SE) y => z.den P ν = some y) (chunkS s n zs) es ∧ es.length = n ∧ (∀ e ∈ es, (cellsOf e).length = s) ∧ flat es = ys
  | 0, zs, ys, h, hl => by
    have : ys = [] := List.eq_nil_of_length_eq_zero (by simpa using hl)
    subst this
    exact ⟨[], trivial, rfl, fun e he => (by cases he), rfl⟩
  | n + 1, zs, ys, h, hl => by
    rw [Nat.add_mul, Nat.one_mul] at hl
    obtain ⟨es, h1, h2, h3, h4⟩ := elems_den (s := s) n (h.drop s) (by simp; omega)
    refine ⟨.agg (ys.take s) :: es, ⟨acs_den (h.take s), h1⟩, by simp [h2], fun e he => ?_, ?_⟩
    · rcases List.mem_cons.1 he with rfl | he
      · simp [cellsOf]; omega
      · exact h3 e he
    · show cellsOf (.agg (ys.take s)) ++ flat es = ys
      rw [h4]
      exact List.take_append_drop s ys
theorem elems_one : ∀ {ys : List IV}, ys.all Ev.cellOk = true → (∀ e ∈ ys, (cellsOf e).length = 1) ∧ flat ys = ys
  | [], _ => ⟨fun e he => (by cases he), rfl⟩
  | y :: ys, h => by
    simp only [List.all_cons, Bool.and_eq_true] at h
    obtain ⟨h1, h2⟩ := elems_one h.2
    refine ⟨fun e he => ?_, ?_⟩
    · rcases List.mem_cons.1 he with rfl | he
      · rw [cellsOf_one h.1]; rfl
      · exact h1 e he
    · show cellsOf y ++ flat ys = y :: ys
      rw [h2, cellsOf_one h.1]; rfl
variable (hJ : J (evd P ν) R φ V.g V.l E σ) (hn : ν.length = V.n)
include hJ hn
theorem xop_build {t : TypeId} {parts : Array (Nat × Operand)} (ho : o.op = .build t parts) (hs : (opS P d o V k).sat P C Q K ν) : OutV P C Q K ν E V.ln k (Res P E d o σ) := by
  unfold opS at hs; rw [ho] at hs; simp only at hs
  split at hs
  · rename_i fields hu
    split at hs
    · exact hs.elim
    · rename_i hc
      simp only [Bool.or_eq_true, Bool.not_eq_true', not_or, Bool.not_eq_true, Bool.not_eq_false] at hc
      split at hs
      · rename_i cs hp
        cases hz : zeroOf? P t with
        | none => rw [hz] at hc; simp at hc
        | some z =>
          obtain ⟨cells', h1, h2, _⟩ := place_ok (ty := tyOf fields) hJ (zeroCells_ok (P := P) (ν := ν) (R := R) (φ := φ) (L := V.l) (σ := σ) hz) hp
          refine .here (x := .agg cells') (pv := .ag cs) (σ1 := σ) ?_ hJ ⟨_, rfl, h2⟩ hn rfl hs
          have h1' : fillI (fun i => (fields[i]?).bind fun f => (sizeOf? P f.type).map fun s => (f.offset, s)) (z.cells.toList.map IV.raw) (parts.toList.map fun (i, x) => (i, evalI (E d) x)) = some cells' := h1
          simp only [Res, evOp, ho, hz, hu, h1', hc.1, ret, if_true]
      · exact hs.elim
  · rename_i len et hu
    split at hs
    · rename_i s hsz
      split at hs
      · exact hs.elim
      · rename_i hc
        split at hs
        · rename_i cs hp
          cases hz : zeroOf? P t with
          | none => rw [hz] at hc; simp at hc
          | some z =>
            obtain ⟨cells', h1, h2, _⟩ := place_ok (ty := fun _ => et) hJ (zeroCells_ok (P := P) (ν := ν) (R := R) (φ := φ) (L := V.l) (σ := σ) hz) hp
            refine .here (x := .agg cells') (pv := .ag cs) (σ1 := σ) ?_ hJ ⟨_, rfl, h2⟩ hn rfl hs
            have h1' : fillI (fun i => some (i * s, s)) (z.cells.toList.map IV.raw) (parts.toList.map fun (i, x) => (i, evalI (E d) x)) = some cells' := h1
            simp only [Res, evOp, ho, hz, hu, hsz, h1', ret]
        · exact hs.elim
    · exact hs.elim
  · exact hs.elim
theorem xop_buildSlice {t : TypeId} {len : Nat} {parts : Array (Nat × Operand)} (ho : o.op = .buildSlice t len parts) (hs : (opS P d o V k).sat P C Q K ν) : OutV P C Q K ν E V.ln k (Res P E d o σ) := by
  unfold opS at hs; rw [ho] at hs; simp only at hs
  split at hs <;> first | (exact hs.elim) | skip
  rename_i et het
  have hu := elemOf_some het
  split at hs <;> first | (exact hs.elim) | skip
  rename_i s z hsz hz
  split at hs <;> first | (exact hs.elim) | skip
  rename_i hc
  simp only [Bool.or_eq_true, Bool.not_eq_true', not_or, Bool.not_eq_true, Bool.not_eq_false, Nat.ble_eq] at hc
  obtain ⟨⟨c1, c2⟩, c3⟩ := hc
  have hs0 : s ≠ 0 := by intro h; subst h; simp at c1
  have hzs : z.cells.size = s := Nat.eq_of_beq_eq_true c2
  have hzl : (z.cells.toList.map IV.raw).length = s := by simp [hzs]
  split at hs
  · rename_i hl0
    have hl0' := Nat.eq_of_beq_eq_true hl0
    subst hl0'
    split at hs
    · rename_i hpe
      have hpe' : parts.toList = [] := by simpa using hpe
      refine .at (x := .emp) hs hJ hn rfl ⟨by omega, rfl⟩ ?_
      have hcy : cycle (z.cells.toList.map IV.raw) 0 = [] := by
        have := cycle_eq hzl (by omega) 0
        simpa using this
      simp only [Res, evOp, ho, hu, hsz, hz, hpe', List.map_nil, fillI, Nat.zero_mul, hcy]
      rw [if_neg (by rintro (h | h | h); exact hs0 h; exact h hzs; simp at h)]
      simp [ret]
    · exact hs.elim
  · rename_i hl0
    have hl0' : len ≠ 0 := by intro h; subst h; simp at hl0
    split at hs <;> first | (exact hs.elim) | skip
    rename_i cs hp
    split at hs <;> first | (exact hs.elim) | skip
    rename_i fr zs V2 rws hrd
    split at hs <;> first | (exact hs.elim) | skip
    rename_i hag
    obtain ⟨hraw, hk⟩ := needs_sat hs
    have hcyc := cycleC_ok (zeroCells_ok (P := P) (ν := ν) (R := R) (φ := φ) (L := V.l) (σ := σ) hz) len
    obtain ⟨cells', h1, h2, h3, h4⟩ := place_ok (ty := fun _ => et) hJ hcyc hp
    obtain ⟨R', hst, hJ2, hzl2, hrd'⟩ := rdTs_ok hJ hrd
    obtain ⟨ys, b1, b2, b3, b4⟩ := hrd' _ h2
    have hcl : cells'.length = len * s := by rw [h3, flatten_len hzl]
    have hyl : ys.length = len * s := by rw [← b2.len, hcl]
    have hcok : cells'.all Ev.cellOk = true := by
      rw [List.all_eq_true]
      intro c hc
      obtain ⟨i, hi⟩ := List.getElem?_of_mem hc
      have hlt : i < ys.length := by rw [← b2.len]; exact (List.getElem?_eq_some_iff.1 hi).1
      exact (b2.get hi (List.getElem?_eq_getElem hlt)).cellOk (List.all_eq_true.1 b3 _ (List.getElem_mem hlt))
    -- the elements
    obtain ⟨es, hes, hesl, hesc, hesf⟩ : ∃ es : List IV, (acs (if isAgg P et = true then chunkS s len zs else zs)).den P ν = some (.agg es) ∧ es.length = len ∧ (∀ e ∈ es, (cellsOf e).length = s) ∧ flat es = ys := by
      by_cases ha : isAgg P et = true
      · rw [if_pos ha]
        obtain ⟨es, e1, e2, e3, e4⟩ := elems_den (s := s) len b1 hyl
        exact ⟨es, acs_den e1, e2, e3, e4⟩
      · rw [if_neg ha]
        have hs1 : s = 1 := by
          simp only [Bool.not_eq_true', Bool.or_eq_false_iff, not_and, Bool.not_eq_false] at hag
          exact Nat.eq_of_beq_eq_true (hag (by simpa using ha))
        subst hs1
        obtain ⟨e1, e2⟩ := elems_one b3
        exact ⟨ys, acs_den b1, by omega, e1, e2⟩
    have hcr : CellsR fr R' σ cells' (flat es) := by
      rw [hesf]
      intro j x y hx hy
      cases fr with
      | true => exact b2.get hx hy
      | false => exact (b4 hraw).get hx hy
    have hden : (SE.tr s (acs (if isAgg P et = true then chunkS s len zs else zs))).den P ν = some (.tree s es) := by
      simp only [SE.den, hes, Option.bind_some]
      rw [if_pos ⟨by omega, by rw [List.all_eq_true]; intro e he; simp [hesc e he]⟩]
    have hn2 : ν.length = V2.n := by rw [hn]; exact hst.2.1.symm
    have hJ3 := hJ2.addO (.cells cells' 0 0) (.row s false false fr (.tr s (acs (if isAgg P et then chunkS s len zs else zs))))
      ⟨by omega, es, hden, hesc, .inr ⟨σ.n, cells', 0, 0, by simp [addφ], by simp, Nat.le_refl _, by rw [hcl, hesl]; exact Nat.le_refl _, hJ2.R_none, hcok, fun j x y hx hy => (hcr j x y hx hy).mono (growR_add hJ2 _)⟩⟩
    refine .at (x := .sl σ.n 0 len (some len) 0 s) (V1 := { V2 with l := V2.l ++ [.row s false false fr (.tr s (acs (if isAgg P et then chunkS s len zs else zs)))] }) hk hJ3 hn2 hst.2.2.1
      ⟨s, false, false, fr, _, es, by simp, hden, .inr ⟨σ.n, cells', 0, 0, some len, by simp [addφ], by simp, by simp [hesl], Nat.zero_le _, fun h => (by cases h), fun c hc => (by cases hc; exact ⟨rfl, by omega, by omega⟩)⟩⟩ ?_
    have h1' : fillI (fun i => some (i * s, s)) (List.replicate len (z.cells.toList.map IV.raw)).flatten (parts.toList.map fun (i, x) => (i, evalI (E d) x)) = some cells' := h1
    simp only [Res, evOp, ho, hu, hsz, hz, cycle_eq hzl (by omega), h1', ret]
    rw [if_neg (by rintro (h | h | h); exact hs0 h; exact h hzs; omega), if_pos ⟨hcl, hcok⟩, if_neg hl0']
end Go.Ev
