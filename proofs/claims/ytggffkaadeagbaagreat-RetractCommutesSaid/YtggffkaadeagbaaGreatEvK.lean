/- Lemmas over the model, without conditions of their own: operations on expressions (1). -/
import Derived.Test.YtggffkaadeagbaaGreatEvJ
set_option linter.all false
namespace Go.Ev
variable {P : Program} {N : Nat} {σ σ' : St} {R R' : Rs} {φ φ' : Ph} {E : Nat → Env} {ν : List IV} {L : List (LO SE)} {Γ : Gm SE}
variable {C : Cr} {Q : IV → Prop} {K : List (List IV → Prop)} {V : SS} {d : Nat} {o : Oper} {k : PV SE → SS → FIR}
theorem canRaw {fr : Bool} {x : IV} {v : Value} (h : CanR fr R σ x (.raw v)) : x = .raw v := by cases h <;> rfl
theorem canCells {fr : Bool} : ∀ {cs ds : List IV} {us : List Value}, rawCells ds = some us → cs.length = ds.length → (∀ (i : Nat) c e, cs[i]? = some c → ds[i]? = some e → CanR fr R σ c e) → cs = ds
  | [], [], _, _, _, _ => rfl
  | c :: cs, e :: ds, us, hr, hl, h => by
    simp only [rawCells] at hr
    split at hr
    · rename_i v
      split at hr
      · rename_i vs hvs
        have h0 := canRaw (h 0 c (.raw v) rfl rfl)
        have h1 : cs = ds := canCells hvs (by simpa using hl) fun i c e h1 h2 => h (i + 1) c e (by simpa using h1) (by simpa using h2)
        rw [h0, h1]
      · cases hr
    · cases hr
  | [], _ :: _, _, _, hl, _ => by simp at hl
  | _ :: _, [], _, _, hl, _ => by simp at hl
theorem canToRaw1 {fr : Bool} {x a : IV} {u : Value} (h : CanR fr R σ x a) (ha : toRaw1 a = some u) : x = a := by
  cases h with
  | raw v => rfl
  | agg cs ds hl hh =>
    simp only [toRaw1] at ha
    split at ha
    · rename_i vs hvs; rw [canCells hvs hl hh]
    · cases ha
  | pure x hf hp => rfl
  | nil | emp | ifc | tup | sl => simp [toRaw1] at ha
theorem canToRaw {fr : Bool} {x a : IV} {u : Value} (h : CanR fr R σ x a) (ha : toRaw a = some u) : x = a := by
  cases h with
  | ifc t x y hh =>
    simp only [toRaw] at ha
    split at ha
    · rename_i hu; rw [canToRaw1 hh hu]
    · cases ha
  | raw v => rfl
  | agg cs ds hl hh => exact canToRaw1 (.agg cs ds hl hh) ha
  | pure x hf hp => rfl
  | nil | emp | tup | sl => simp [toRaw, toRaw1] at ha
theorem intI_raw {y : IV} {n : Int} (h : intI? y = some n) : ∃ q, y = .raw (.int q n) := by
  unfold intI? at h
  split at h
  · cases h; exact ⟨_, rfl⟩
  · cases h
theorem J.noR (h : J (evd P ν) R φ Γ L E σ) : GrowR (fun _ => none) ⟨0, .lf⟩ R σ := ⟨fun _ _ h => (by cases h), fun _ _ _ _ _ h => (by cases h), h.fits⟩
def OutV (P : Program) (C : Cr) (Q : IV → Prop) (K : List (List IV → Prop)) (ν : List IV) (E : Nat → Env) (lv : Nat × Nat) (k : PV SE → SS → FIR) (res : IV → St → Prop) : Prop :=
  ∃ x σ1 R1 φ1 pv V1 μ, res x σ1 ∧ J (evd P (ν ++ μ)) R1 φ1 V1.g V1.l E σ1 ∧ VR (evd P (ν ++ μ)) R1 φ1 V1.l σ1 x pv ∧ (ν ++ μ).length = V1.n ∧ V1.ln = lv ∧ (k pv V1).sat P C Q K (ν ++ μ)
theorem OutV.here {x : IV} {σ1 : St} {pv : PV SE} {V1 : SS} {lv : Nat × Nat} {res : IV → St → Prop} (h1 : res x σ1) (h2 : J (evd P ν) R φ V1.g V1.l E σ1) (h3 : VR (evd P ν) R φ V1.l σ1 x pv) (h4 : ν.length = V1.n) (h5 : V1.ln = lv)
    (h6 : (k pv V1).sat P C Q K ν) : OutV P C Q K ν E lv k res :=
  ⟨x, σ1, R, φ, pv, V1, [], h1, by rw [List.append_nil]; exact h2, by rw [List.append_nil]; exact h3, by rw [List.append_nil]; exact h4, h5, by rw [List.append_nil]; exact h6⟩
theorem OutV.at {x : IV} {σ1 : St} {c : Cl SE} {V1 : SS} {lv : Nat × Nat} {res : IV → St → Prop} (h6 : (k (.one c) V1).sat P C Q K ν) (h2 : J (evd P ν) R φ V1.g V1.l E σ1) (h4 : ν.length = V1.n) (h5 : V1.ln = lv) (h3 : VRc (evd P ν) R φ V1.l σ1 x c) (h1 : res x σ1) :
    OutV P C Q K ν E lv k res := .here (pv := .one c) h1 h2 h3 h4 h5 h6
abbrev Res (P : Program) (E : Nat → Env) (d : Nat) (o : Oper) (σ : St) : IV → St → Prop := fun x σ1 => evOp P 0 (evalI (E d)) o σ = some (.val x σ1)
variable (hJ : J (evd P ν) R φ V.g V.l E σ) (hn : ν.length = V.n)
include hJ hn
theorem xop_mv {x : Operand} (ho : o.op = .move x ∨ o.op = .assign x) (hs : (opS P d o V k).sat P C Q K ν) : OutV P C Q K ν E V.ln k (Res P E d o σ) := by
  have hs' : (k (opdS P d V o.type x) V).sat P C Q K ν := by
    rcases ho with ho | ho <;> (unfold opS at hs; rw [ho] at hs; exact hs)
  refine .here (x := evalI (E d) x) (σ1 := σ) ?_ hJ (opd_ok hJ d o.type x) hn rfl hs'
  rcases ho with ho | ho <;> simp [Res, evOp, ho, ret]
theorem v_bool {x : IV} {t : Bool} (hx : VR (evd P ν) R φ V.l σ x (.one (.v (.b t)))) : x = .raw (.bool t) := by
  obtain ⟨y, h1, h2, _⟩ := hx
  simp only [evd, SE.den, Option.some.injEq] at h1
  subst h1
  exact canRaw h2
theorem xop_pick {c a b : Operand} (ho : o.op = .pick c a b) (hs : (opS P d o V k).sat P C Q K ν) : OutV P C Q K ν E V.ln k (Res P E d o σ) := by
  unfold opS at hs; rw [ho] at hs; simp only at hs
  have hc := opd_ok hJ d 0 c
  split at hs
  · rename_i hh
    rw [hh] at hc
    have := v_bool hJ hn hc
    refine .here (x := evalI (E d) a) (σ1 := σ) ?_ hJ (opd_ok hJ d o.type a) hn rfl hs
    simp [Res, evOp, ho, this, ret]
  · rename_i hh
    rw [hh] at hc
    have := v_bool hJ hn hc
    refine .here (x := evalI (E d) b) (σ1 := σ) ?_ hJ (opd_ok hJ d o.type b) hn rfl hs
    simp [Res, evOp, ho, this, ret]
  · exact hs.elim
theorem newVar_ok {cs : List (Cl SE)} {ics : List IV} (hc : All2 (VRc (evd P ν) R φ V.l σ) ics cs) :
    J (evd P ν) R (addφ φ V.l.length σ.n) V.g (V.l ++ [.var cs]) E (σ.add (.cells ics 0 0)) ∧ VR (evd P ν) R (addφ φ V.l.length σ.n) (V.l ++ [.var cs]) (σ.add (.cells ics 0 0)) (.ptr σ.n 0 0 ics.length) (.one (.pt V.l.length 0 cs.length)) := by
  have hs := chg_add hJ (.cells ics 0 0) (.var cs)
  refine ⟨hJ.addO (.cells ics 0 0) (.var cs) ⟨σ.n, ics, by simp [addφ], hJ.R_none, by simp, hc.mono fun _ _ hab => hab.step hs (Cl.ok_false _)⟩, ⟨σ.n, cs, by simp [addφ], by simp, by rw [hc.len]⟩⟩
theorem xop_alloc {t : TypeId} (ho : o.op = .alloc t) (hs : (opS P d o V k).sat P C Q K ν) : OutV P C Q K ν E V.ln k (Res P E d o σ) := by
  unfold opS at hs; rw [ho] at hs; simp only at hs
  split at hs
  · exact hs.elim
  · rename_i hz
    cases hzz : zeroOf? P t with
    | none => rw [hzz] at hz; simp at hz
    | some z =>
      have hc := zeroCells_ok (ν := ν) (R := R) (φ := φ) (L := V.l) (σ := σ) hzz
      obtain ⟨h1, h2⟩ := newVar_ok hJ hn hc
      refine .here (V1 := { V with l := V.l ++ [.var (zeroCells P t)] }) ?_ h1 h2 hn rfl hs
      simp [Res, evOp, ho, hzz, ret]
theorem xop_box {t : TypeId} {x : Operand} (ho : o.op = .box t x) (hs : (opS P d o V k).sat P C Q K ν) : OutV P C Q K ν E V.ln k (Res P E d o σ) := by
  unfold opS at hs; rw [ho] at hs; simp only at hs
  split at hs
  · exact hs.elim
  · rename_i hu
    have hu' : noUn (cellsP (opdS P d V t x)) = true := by simpa using hu
    have hc := cellsP_ok (opd_ok hJ d t x) hu'
    obtain ⟨h1, h2⟩ := newVar_ok hJ hn hc
    refine .here (V1 := { V with l := V.l ++ [.var (cellsP (opdS P d V t x))] }) ?_ h1 h2 hn rfl hs
    have := cellsOk_of hc hu'
    simp only [Res, evOp, ho, ret, this, if_true]
theorem xop_nilCheck {x : Operand} (ho : o.op = .nilCheck x) (hs : (opS P d o V k).sat P C Q K ν) : OutV P C Q K ν E V.ln k (Res P E d o σ) := by
  unfold opS at hs; rw [ho] at hs; simp only at hs
  have hc := opd_ok hJ d 0 x
  split at hs
  · rename_i hh
    rw [hh] at hc
    refine .here (x := evalI (E d) x) (σ1 := σ) ?_ hJ hc hn rfl hs
    obtain ⟨id, cs, _, _, h3⟩ := hc
    simp [Res, evOp, ho, h3, ret]
  · rename_i hh
    exact hs.elim
  · rename_i hh
    rw [hh] at hc
    refine .here (x := evalI (E d) x) (σ1 := σ) ?_ hJ hc hn rfl hs
    obtain ⟨ds, h3, _⟩ := hc
    simp [Res, evOp, ho, h3, ret]
  · exact hs.elim
end Go.Ev
namespace Go.Ev
variable {P : Program} {N : Nat} {σ σ' : St} {R R' : Rs} {φ φ' : Ph} {E : Nat → Env} {ν : List IV}
variable {C : Cr} {Q : IV → Prop} {K : List (List IV → Prop)} {V : SS} {d : Nat} {o : Oper} {k : PV SE → SS → FIR}
theorem isAgg_true {t : TypeId} (h : isAgg P t = true) : aggT P t = some true := by simpa [isAgg] using h
theorem isAgg_false {t : TypeId} {b : Bool} (h : isAgg P t = false) (hb : aggT P t = some b) : aggT P t = some false := by
  cases b
  · exact hb
  · simp [isAgg, hb] at h
theorem partAgg {t : TypeId} {s off : Nat} {cs : List IV} (hs : sizeOf? P t = some s) (hg : aggT P t = some true) (hle : off + s ≤ cs.length) : partOf P t cs off = some (.agg ((cs.drop off).take s)) := by
  simp [partOf, hs, hg, hle]
theorem partOne {t : TypeId} {off : Nat} {cs : List IV} (hs : sizeOf? P t = some 1) (hg : aggT P t = some false) : partOf P t cs off = cs[off]? := by
  simp [partOf, hs, hg]
theorem part_ok {L : List (LO SE)} {t : TypeId} {s off : Nat} {b : Bool} {ics : List IV} {cs : List (Cl SE)} {pv : PV SE} (hs : sizeOf? P t = some s) (hb : aggT P t = some b) (hc : All2 (VRc (evd P ν) R φ L σ) ics cs) (hle : off + s ≤ cs.length)
    (hpv : if isAgg P t = true then pv = .ag ((cs.drop off).take s) else ∃ c, (cs.drop off).take s = [c] ∧ pv = .one c) : ∃ x, partOf P t ics off = some x ∧ VR (evd P ν) R φ L σ x pv := by
  have hl := hc.len
  split at hpv
  · rename_i ha
    subst hpv
    exact ⟨_, partAgg hs (isAgg_true ha) (by omega), _, rfl, (hc.drop off).take s⟩
  · rename_i ha
    obtain ⟨c, h1, rfl⟩ := hpv
    have hlen : s = 1 := by
      have := congrArg List.length h1
      simp at this; omega
    subst hlen
    have h2 : cs[off]? = some c := by
      have : ((cs.drop off).take 1)[0]? = some c := by rw [h1]; rfl
      simpa using this
    obtain ⟨x, hx, hr⟩ := hc.getR h2
    exact ⟨x, by rw [partOne hs (isAgg_false (by simpa using ha) hb), hx], hr⟩
theorem out_ok {t : TypeId} {s : Nat} {cs : List (Cl SE)} (hs : ((if isAgg P t = true then (if Nat.beq cs.length s = true then k (.ag cs) V else .fail 2) else match cs with | [c] => k (.one c) V | _ => .fail 3) : FIR).sat P C Q K ν) :
    ∃ pv, (k pv V).sat P C Q K ν ∧ if isAgg P t = true then pv = .ag cs else ∃ c, cs = [c] ∧ pv = .one c := by
  split at hs
  · rename_i ha
    split at hs
    · exact ⟨_, hs, by rw [if_pos ha]⟩
    · exact hs.elim
  · rename_i ha
    split at hs
    · exact ⟨_, hs, by rw [if_neg ha]; exact ⟨_, rfl, rfl⟩⟩
    · exact hs.elim
variable (hJ : J (evd P ν) R φ V.g V.l E σ) (hn : ν.length = V.n)
include hJ hn
theorem loadS_ok {t : TypeId} {pa : PV SE} {x : IV} (hx : VR (evd P ν) R φ V.l σ x pa) (hs : (loadS P t pa V k).sat P C Q K ν) :
    OutV P C Q K ν E V.ln k (fun v σ1 => σ1 = σ ∧ (∀ d a, evalI (E d) a = x → ∀ o : Oper, o.op = .load t a → evOp P 0 (evalI (E d)) o σ = some (.val v σ))) := by
  unfold loadS at hs
  split at hs
  · exact hs.elim
  · exact hs.elim
  · rename_i s b hsz hagg
    simp only at hs
    split at hs
    · rename_i j off ext
      obtain ⟨id, cs0, h1, h2, rfl⟩ := hx
      split at hs
      · rename_i cs hj
        rw [hj] at h2; cases h2
        split at hs
        · rename_i hle
          simp only [Bool.and_eq_true, Nat.ble_eq] at hle
          obtain ⟨pv, hk, hpv⟩ := out_ok hs
          obtain ⟨id', ics, h3, h4, h5, h6⟩ := hJ.obj j _ hj
          rw [h1] at h3; cases h3
          obtain ⟨v, hv, hr⟩ := part_ok hsz hagg h6 hle.2 hpv
          refine .here (x := v) (σ1 := σ) ⟨rfl, fun d a ha o ho => ?_⟩ hJ hr hn rfl hk
          simp [evOp, ho, ha, hsz, h5, hle.1, hv, ret]
        · exact hs.elim
      · exact hs.elim
    · rename_i cs
      obtain ⟨ds, rfl, h1⟩ := hx
      split at hs
      · rename_i hle
        rw [Nat.ble_eq] at hle
        obtain ⟨pv, hk, hpv⟩ := out_ok hs
        have hc : All2 (VRc (evd P ν) R φ V.l σ) ds (cs.map .v) := h1.map (f := Cl.v) fun _ _ hab => hab
        obtain ⟨v, hv, hr⟩ := part_ok (off := 0) hsz hagg hc (by simpa using hle) hpv
        refine .here (x := v) (σ1 := σ) ⟨rfl, fun d a ha o ho => ?_⟩ hJ hr hn rfl hk
        simp [evOp, ho, ha, hv, ret]
      · exact hs.elim
    · rename_i fr cs
      split at hs
      · rename_i hle
        rw [Nat.ble_eq] at hle
        obtain ⟨pv, hk, hpv⟩ := out_ok hs
        obtain ⟨hok, ⟨hf, ds, rfl, h1⟩ | ⟨id, off, ep, m, ics, cep, mn, h1, h2, h3, h4, rfl, h6, h7, h8⟩⟩ := hx
        · have hc : All2 (VRc (evd P ν) R φ V.l σ) ds (cs.map (.w fr)) := by
            refine (h1.monoMem (r' := fun d c => VRc (evd P ν) R φ V.l σ d (.w fr c)) fun d c hc ⟨y, hy1, hy2⟩ => ?_).map (f := Cl.w fr) fun _ _ hab => hab
            obtain ⟨y', hy3, hy4⟩ := hok c hc
            rw [hy1] at hy3; cases hy3
            exact ⟨y, hy1, hf ▸ hy2.mono hJ.noR, hy4⟩
          obtain ⟨v, hv, hr⟩ := part_ok (off := 0) hsz hagg hc (by simpa using hle) hpv
          refine .here (x := v) (σ1 := σ) ⟨rfl, fun d a ha o ho => ?_⟩ hJ hr hn rfl hk
          simp [evOp, ho, ha, hv, ret]
        · have hc : All2 (VRc (evd P ν) R φ V.l σ) ((ics.drop off).take cs.length) (cs.map (.w fr)) := by
            refine .mk (by simp; omega) fun i a b ha hb => ?_
            rw [List.getElem?_map] at hb
            obtain ⟨c, hc, rfl⟩ := Option.map_eq_some_iff.1 hb
            have hi := (List.getElem?_eq_some_iff.1 hc).1
            rw [List.getElem?_take, if_pos hi, List.getElem?_drop] at ha
            obtain ⟨y, hy1, hy2⟩ := h8 i a c hc ha
            obtain ⟨y', hy3, hy4⟩ := hok c (List.mem_of_getElem? hc)
            have hy1' : c.den P ν = some y := hy1
            have hy3' : c.den P ν = some y' := hy3
            rw [hy1'] at hy3'; cases hy3'
            exact ⟨y, hy1, hy2, hy4⟩
          obtain ⟨v, hv, hr⟩ := part_ok (off := 0) hsz hagg hc (by simpa using hle) hpv
          have hv' : partOf P t ics off = some v := by
            have hlen : s ≤ ((ics.drop off).take cs.length).length := by simp; omega
            cases b with
            | true =>
              rw [partAgg hsz hagg (by simpa using hlen)] at hv
              rw [partAgg hsz hagg (by omega), ← hv]
              simp [List.take_take, hle]
            | false =>
              have h1s : s = 1 := by
                unfold partOf at hv
                rw [hagg, hsz] at hv
                simp only at hv
                split at hv
                · assumption
                · cases hv
              subst h1s
              rw [partOne hsz hagg] at hv ⊢
              rw [List.getElem?_take, if_pos (by omega), List.getElem?_drop] at hv
              exact hv
          refine .here (x := v) (σ1 := σ) ⟨rfl, fun d a ha o ho => ?_⟩ hJ hr hn rfl hk
          simp [evOp, ho, ha, hsz, h2, hle, h3, h4, hv', ret]
      · exact hs.elim
    · rename_i j i off ext
      split at hs
      · rename_i sz st cut fr es hj
        split at hs
        · rename_i hle
          rw [Nat.ble_eq] at hle
          obtain ⟨pv, hk, hpv⟩ := out_ok hs
          obtain ⟨s', st', cut', fr', z', es', y, n, id, cs, cep, mn, h1, h2, h3, h4, h5, h6, h7, h8, rfl⟩ := hx
          rw [hj] at h1; cases h1
          obtain ⟨hs0, es2, g1, g2, g3⟩ := hJ.obj j _ hj
          have h2' : es.den P ν = some (.tree sz es') := h2
          have g1' : es.den P ν = some (.tree sz es2) := g1
          rw [h2'] at g1'; cases g1'
          rcases g3 with ⟨g3, _⟩ | ⟨id', cs', cep', mn', g3, g4, g5, g6, g7, g8, g9⟩
          · rw [h7] at g3; cases g3
          · rw [h7] at g3; cases g3
            rw [h8] at g4; cases g4
            have he : es'[n]? = some es'[n] := List.getElem?_eq_getElem h5
            have hel := g2 _ (List.getElem_mem h5)
            have hidx : denIdx sz (.tree sz es') y = some es'[n] := by
              have hy : intI? y = some (n : Int) := by
                unfold nat? at h4
                split at h4
                · split at h4
                  · rename_i hq; cases h4; simp [intI?]; omega
                  · cases h4
                · cases h4
              simp [denIdx, hy, he, hel]
            have hnl : n * sz + sz ≤ es'.length * sz := by
              have : (n + 1) * sz ≤ es'.length * sz := Nat.mul_le_mul_right sz h5
              rw [Nat.add_mul] at this; omega
            have hc : All2 (VRc (evd P ν) R φ V.l σ) ((cs.drop (n * sz)).take sz) ((List.range sz).map fun q => .w fr (.ecl sz es i q)) := by
              refine .mk (by simp; omega) fun q a b ha hb => ?_
              rw [List.getElem?_map] at hb
              obtain ⟨q', hq, rfl⟩ := Option.map_eq_some_iff.1 hb
              have hq1 : q < sz := by have := (List.getElem?_eq_some_iff.1 hq).1; simpa using this
              have : q' = q := by rw [List.getElem?_range hq1] at hq; cases hq; rfl
              subst this
              rw [List.getElem?_take, if_pos hq1, List.getElem?_drop] at ha
              have hd : (cellsOf es'[n])[q']? = some (cellsOf es'[n])[q'] := List.getElem?_eq_getElem (by omega)
              have hr := g9 (n * sz + q') a _ ha (flat_get g2 he hd)
              have hcok : Ev.cellOk a = true := by
                rw [List.all_eq_true] at g8
                exact g8 a (List.mem_of_getElem? ha)
              have hok := hr.cellOk' hcok
              refine ⟨_, ?_, hr, hok⟩
              have h3' : i.den P ν = some y := h3
              simp [evd, SE.den, h2', h3', hidx, hd, okc, hok]
            obtain ⟨v, hv, hr⟩ := part_ok (off := off) hsz hagg hc (by simp; omega) hpv
            have hv' : partOf P t cs (n * sz + off) = some v := by
              cases b with
              | true =>
                rw [partAgg hsz hagg (by simp; omega)] at hv
                rw [partAgg hsz hagg (by omega), ← hv]
                congr 2
                rw [List.drop_take, List.drop_drop, List.take_take]
                congr 1; omega
              | false =>
                have h1s : s = 1 := by
                  unfold partOf at hv
                  rw [hagg, hsz] at hv
                  simp only at hv
                  split at hv
                  · assumption
                  · cases hv
                subst h1s
                rw [partOne hsz hagg] at hv ⊢
                rw [List.getElem?_take, if_pos (by omega), List.getElem?_drop] at hv
                exact hv
            refine .here (x := v) (σ1 := σ) ⟨rfl, fun d a ha o ho => ?_⟩ hJ hr hn rfl hk
            simp [evOp, ho, ha, hsz, h8, hle, g5, hv', ret]
        · exact hs.elim
      · exact hs.elim
    · exact hs.elim
theorem xop_load {t : TypeId} {a : Operand} (ho : o.op = .load t a) (hs : (opS P d o V k).sat P C Q K ν) : OutV P C Q K ν E V.ln k (Res P E d o σ) := by
  unfold opS at hs; rw [ho] at hs; simp only at hs
  obtain ⟨x, σ1, R1, φ1, pv, V1, μ, h0, h2⟩ := loadS_ok hJ hn (opd_ok hJ d 0 a) hs
  obtain ⟨e0, h1⟩ := h0
  subst e0
  exact ⟨x, σ1, R1, φ1, pv, V1, μ, h1 d a rfl o ho, h2⟩
end Go.Ev
namespace Go.Ev
variable {P : Program} {N : Nat} {σ σ' : St} {R R' : Rs} {φ φ' : Ph} {E : Nat → Env} {ν : List IV}
variable {C : Cr} {Q : IV → Prop} {K : List (List IV → Prop)} {V : SS} {d : Nat} {o : Oper} {k : PV SE → SS → FIR}
theorem splice_ok {r : IV → Cl SE → Prop} {ics xs : List IV} {cs new : List (Cl SE)} (off : Nat) (h : All2 r ics cs) (k : All2 r xs new) : All2 r (splice ics off xs) (placeS cs off new) := by
  unfold splice placeS
  rw [k.len]
  exact ((h.take off).app k).app (h.drop _)
theorem J.updRow {L : List (LO SE)} {Γ : Gm SE} (h : J (evd P ν) R φ Γ L E σ) {k id s cep mn : Nat} {cut fr fr' : Bool} {z z' : SE} {cs cs' es es' : List IV} (hid : φ k = some id) (hk : L[k]? = some (.row s false cut fr z)) (hat : σ.at id = some (.cells cs cep mn))
    (hl : cs'.length = cs.length) (hz : z.den P ν = some (.tree s es)) (hz' : z'.den P ν = some (.tree s es')) (hle : es'.length = es.length) (hcs : ∀ e ∈ es', (cellsOf e).length = s) (hok : cs'.all Ev.cellOk = true)
    (hc : ∀ (j : Nat) x d, cs'[j]? = some x → (flat es')[j]? = some d → CanR fr' R σ x d) :
    J (evd P ν) R φ Γ (L.set k (.row s false cut fr' z')) E (σ.put id (.cells cs' cep cep)) := by
  have hkl := getElem?_lt hk
  have hne : ∀ j, j ≠ k → (L.set k (.row s false cut fr' z'))[j]? = L[j]? := fun j hj => List.getElem?_set_ne (fun hc => hj hc.symm)
  have hself : (L.set k (.row s false cut fr' z'))[k]? = some (.row s false cut fr' z') := by simp [hkl]
  have hinj : ∀ j id', j ≠ k → φ j = some id' → id' ≠ id := fun j id' hj hj' hc => hj (h.inj j k id (by rw [← hc]; exact hj') hid)
  obtain ⟨hs0, es2, g1, g2, g3⟩ := h.obj k _ hk
  have hRid : R id = none ∧ es.length * s ≤ cs.length ∧ mn ≤ cep := by
    rcases g3 with ⟨g3, _⟩ | ⟨id', cs2, cep2, mn2, g3, g4, g5, g6, g7, _⟩
    · rw [hid] at g3; cases g3
    · rw [hid] at g3; cases g3
      rw [hat] at g4; cases g4
      have g1' : z.den P ν = some (.tree s es2) := g1
      rw [hz] at g1'; cases g1'
      exact ⟨by simpa using g7, g6, g5⟩
  have hgrow : GrowR R σ R (σ.put id (.cells cs' cep cep)) := by
    refine ⟨fun _ m hm => ⟨m, hm, Nat.le_refl _⟩, fun id' m cs1 cep1 mn1 hm hat1 => ?_, fun id' m cs1 cep1 mn1 hm hat1 => ?_⟩
    · have : id ≠ id' := fun hc => by rw [← hc, hRid.1] at hm; cases hm
      exact ⟨cs1, cep1, by rw [St.at_put, if_neg this]; exact hat1, Nat.le_refl _, fun _ _ => rfl⟩
    · have : id ≠ id' := fun hc => by rw [← hc, hRid.1] at hm; cases hm
      rw [St.at_put, if_neg this] at hat1
      exact h.fits id' m cs1 cep1 mn1 hm hat1
  have hs : Chg (evd P ν) (evd P ν) R φ L σ R φ (L.set k (.row s false cut fr' z')) (σ.put id (.cells cs' cep cep)) (fun _ => False) := by
    refine ⟨fun _ _ h => h, hgrow, fun j cs1 hj => ?_, fun j kt es1 hj => ?_, fun j s1 st1 cut1 fr1 z1 hj _ => ?_⟩
    · by_cases hjk : j = k
      · subst hjk; rw [hk] at hj; cases hj
      · exact ⟨⟨cs1, by rw [hne j hjk]; exact hj⟩, rfl⟩
    · by_cases hjk : j = k
      · subst hjk; rw [hk] at hj; cases hj
      · exact ⟨⟨es1, by rw [hne j hjk]; exact hj⟩, rfl⟩
    · by_cases hjk : j = k
      · subst hjk; rw [hk] at hj; cases hj
        refine ⟨⟨false, fr', z', hself, fun es1 he1 => ⟨es', hz', ?_⟩⟩, rfl, fun id1 cs1 cep1 mn1 hid1 hat1 => ?_⟩
        · have he1' : z.den P ν = some (.tree s es1) := he1
          rw [hz] at he1'; cases he1'; exact hle
        · rw [hid] at hid1; cases hid1
          rw [hat] at hat1; cases hat1
          exact ⟨cs', cep, by rw [St.at_put, if_pos rfl], hl, fun _ => rfl⟩
      · refine ⟨⟨st1, fr1, z1, by rw [hne j hjk]; exact hj, fun es1 he1 => ⟨es1, he1, rfl⟩⟩, rfl, fun id1 cs1 cep1 mn1 hid1 hat1 => ⟨cs1, mn1, ?_, rfl, fun h => h⟩⟩
        rw [St.at_put, if_neg (fun hc => hinj j id1 hjk hid1 hc.symm)]; exact hat1
  refine ⟨fun d t pv hg => (h.slot d t pv hg).step hs pv.ok_false, fun j o hj => ?_, h.inj, fun j id' hj => by simpa [St.put] using h.lt j id' hj, h.ltR, hgrow.fits, h.wf.set _ _, fun id' hid' => ?_⟩
  · by_cases hjk : j = k
    · subst hjk
      rw [hself] at hj; cases hj
      refine ⟨hs0, es', hz', hcs, .inr ⟨id, cs', cep, cep, hid, by rw [St.at_put, if_pos rfl], Nat.le_refl _, by rw [hl, hle]; exact hRid.2.1, by simpa using hRid.1, hok, fun j x d hx hd => (hc j x d hx hd).mono hgrow⟩⟩
    · rw [hne j hjk] at hj
      exact (h.obj j o hj).step hs rfl (fun id' hid' => ⟨by rw [St.at_put, if_neg (fun hc => hinj j id' hjk hid' hc.symm)], rfl⟩) o.ok_false
  · have := (h.lt _ _ hid).2
    have hid'' : σ.n ≤ id' := hid'
    rw [St.at_put, if_neg (by omega)]; exact h.top id' hid''
theorem flat_set {s : Nat} {x : IV} : ∀ {es : List IV} (_ : ∀ e ∈ es, (cellsOf e).length = s) {n : Nat}, n < es.length → (cellsOf x).length = s → flat (es.set n x) = splice (flat es) (n * s) (cellsOf x) := by
  intro es
  induction es with
  | nil => intro _ n hn; simp at hn
  | cons a es ih =>
    intro hcs n hn hx
    have ha : (cellsOf a).length = s := hcs a (by simp)
    unfold splice
    cases n with
    | zero =>
      simp only [List.set_cons_zero, flat, List.flatMap_cons, Nat.zero_mul, List.take_zero, List.nil_append, Nat.zero_add]
      rw [hx, List.drop_append_of_le_length (by omega), List.drop_of_length_le (by omega : (cellsOf a).length ≤ s)]
      simp
    | succ n =>
      have := ih (fun e he => hcs e (by simp [he])) (n := n) (by simpa using hn) hx
      simp only [List.set_cons_succ]
      unfold flat at this ⊢
      rw [List.flatMap_cons, this]
      unfold splice
      rw [List.flatMap_cons, hx, Nat.add_mul, Nat.one_mul, List.take_append, List.drop_append, ha,
        List.take_of_length_le (by omega : (cellsOf a).length ≤ n * s + s), List.drop_of_length_le (by omega : (cellsOf a).length ≤ n * s + s + s),
        show n * s + s - s = n * s by omega, show n * s + s + s - s = n * s + s by omega]
      simp
theorem splice_getElem {α : Type} {cs new : List IV} {off j : Nat} (h : off + new.length ≤ cs.length) : (splice cs off new)[j]? = if off ≤ j ∧ j < off + new.length then new[j - off]? else cs[j]? := by
  unfold splice
  have h1 : (cs.take off).length = off := by simp; omega
  rw [List.append_assoc]
  by_cases ha : j < off
  · rw [List.getElem?_append_left (by omega), List.getElem?_take, if_pos ha, if_neg (by omega)]
  · rw [List.getElem?_append_right (by omega), h1]
    by_cases hb : j < off + new.length
    · rw [List.getElem?_append_left (by omega), if_pos ⟨by omega, hb⟩]
    · rw [List.getElem?_append_right (by omega), if_neg (by omega), List.getElem?_drop]
      congr 1; omega
theorem splice_len {cs new : List IV} {off : Nat} (h : off + new.length ≤ cs.length) : (splice cs off new).length = cs.length := by
  unfold splice; simp; omega
theorem splice_all {cs new : List IV} {off : Nat} {f : IV → Bool} (h1 : cs.all f = true) (h2 : new.all f = true) : (splice cs off new).all f = true := by
  rw [List.all_eq_true] at h1 h2 ⊢
  intro x hx
  unfold splice at hx
  rcases List.mem_append.1 hx with hx | hx
  · rcases List.mem_append.1 hx with hx | hx
    · exact h1 x (List.mem_of_mem_take hx)
    · exact h2 x hx
  · exact h1 x (List.mem_of_mem_drop hx)
variable (hJ : J (evd P ν) R φ V.g V.l E σ) (hn : ν.length = V.n)
include hJ hn
theorem xop_storeV {t : TypeId} {a x : Operand} {j off ext : Nat} {cs : List (Cl SE)} (ho : o.op = .store t a x) (ha : opdS P d V 0 a = .one (.pt j off ext)) (hj : V.l[j]? = some (.var cs))
    (h1 : noUn (cellsP (opdS P d V t x)) = true) (h2 : (cellsP (opdS P d V t x)).length ≤ ext) (h3 : off + (cellsP (opdS P d V t x)).length ≤ cs.length) (h4 : sizeOf? P t = some (cellsP (opdS P d V t x)).length)
    (hs : (k (.one .un) (V.setObj j (.var (placeS cs off (cellsP (opdS P d V t x)))))).sat P C Q K ν) : OutV P C Q K ν E V.ln k (Res P E d o σ) := by
  have hpa := opd_ok hJ d 0 a
  rw [ha] at hpa
  obtain ⟨id, cs0, g1, g2, g3⟩ := hpa
  obtain ⟨id', ics, g4, g5, g6, g7⟩ := hJ.obj j _ hj
  rw [g1] at g4; cases g4
  have hc := cellsP_ok (opd_ok hJ d t x) h1
  have hcl := hc.len
  have hil := g7.len
  obtain ⟨hs1, hJ1⟩ := hJ.updPut (R' := R) (bad := fun _ => False) (lo' := .var (placeS cs off (cellsP (opdS P d V t x)))) (ob' := .cells (splice ics off (cellsOf (evalI (E d) x))) 0 0) g1 hj (fun _ _ => rfl)
    (fun m hm => by rw [g5] at hm; cases hm) (fun m _ _ _ hm => by rw [g5] at hm; cases hm) (fun m _ _ _ hm => by rw [g5] at hm; cases hm)
    (fun _ _ => ⟨_, rfl⟩) (fun _ _ h => by cases h) (fun _ _ _ _ _ h => by cases h) (fun _ _ pv _ => pv.ok_false) (fun _ o _ _ => o.ok_false)
    (fun hs1 => ⟨id, _, g1, g5, by rw [St.at_put, if_pos rfl], (splice_ok off g7 hc).mono fun _ _ hab => hab.step hs1 (Cl.ok_false _)⟩)
  refine .here (x := .undef) (V1 := V.setObj j _) (pv := .one .un) ?_ hJ1 trivial hn rfl hs
  have hcell := cellsOk_of hc h1
  simp only [Res, evOp, ho, g3, h4, g6, hcl, ret]
  rw [if_pos ⟨Nat.zero_le _, trivial, h2, trivial, by omega, hcell⟩]
end Go.Ev
namespace Go.Ev
variable {P : Program} {N : Nat} {σ σ' : St} {R R' : Rs} {φ φ' : Ph} {E : Nat → Env} {ν : List IV}
variable {C : Cr} {Q : IV → Prop} {K : List (List IV → Prop)} {V : SS} {d : Nat} {o : Oper} {k : PV SE → SS → FIR}
theorem nat_int {y : IV} {n : Nat} (h : nat? y = some n) : ∃ q, y = .raw (.int q n) := by
  unfold nat? at h
  split at h
  · split at h
    · rename_i q m hq; cases h; exact ⟨q, by simp; omega⟩
    · cases h
  · cases h
theorem fieldAt_inv {s : TypeId} {f off sz : Nat} (h : fieldAt P s f = some (off, sz)) : ∃ fields fd, P.underlying s = some (.struct fields) ∧ fields[f]? = some fd ∧ sizeOf? P fd.type = some sz ∧ fd.offset = off := by
  unfold fieldAt at h
  split at h
  · rename_i fields hu
    split at h
    · rename_i fd hf
      split at h
      · rename_i sz' hs
        cases h
        exact ⟨fields, fd, hu, hf, hs, rfl⟩
      · cases h
    · cases h
  · cases h
theorem listEq_eq {α : Type} {f : α → α → Bool} (h : ∀ a b, f a b = true → a = b) : ∀ {as bs : List α}, listEq f as bs = true → as = bs
  | [], [], _ => rfl
  | a :: as, b :: bs, hh => by
    simp only [listEq, Bool.and_eq_true] at hh
    rw [h a b hh.1, listEq_eq h hh.2]
  | [], _ :: _, hh => by cases hh
  | _ :: _, [], hh => by cases hh
theorem SE.eq_eq : ∀ {a b : SE}, a.eq b = true → a = b := by
  intro a
  induction a with
  | var x => intro c h; cases c <;> simp_all [SE.eq]
  | i x => intro c h; cases c <;> simp_all [SE.eq]
  | k q x => intro c h; cases c <;> simp_all [SE.eq, ikEq]
  | b x => intro c h; cases c <;> simp_all [SE.eq]
  | s x => intro c h; cases c <;> first | (simp [SE.eq] at h; done) | (simp only [SE.eq] at h; rw [listEq_eq (fun a b h => by simpa using h) h])
  | an => intro c h; cases c <;> simp_all [SE.eq]
  | raw v => intro c h; cases c <;> simp [SE.eq] at h
  | ok e ih => intro c h; cases c <;> first | (simp [SE.eq] at h; done) | (simp only [SE.eq] at h; rw [ih h])
  | len e ih => intro c h; cases c <;> first | (simp [SE.eq] at h; done) | (simp only [SE.eq] at h; rw [ih h])
  | slen e ih => intro c h; cases c <;> first | (simp [SE.eq] at h; done) | (simp only [SE.eq] at h; rw [ih h])
  | tp e ih => intro c h; cases c <;> first | (simp [SE.eq] at h; done) | (simp only [SE.eq] at h; rw [ih h])
  | rw e ih => intro c h; cases c <;> first | (simp [SE.eq] at h; done) | (simp only [SE.eq] at h; rw [ih h])
  | fld e j ih => intro c h; cases c <;> first | (simp [SE.eq] at h; done) | (simp only [SE.eq, Bool.and_eq_true, Nat.beq_eq] at h; rw [h.1, ih h.2])
  | proj e j ih => intro c h; cases c <;> first | (simp [SE.eq] at h; done) | (simp only [SE.eq, Bool.and_eq_true, Nat.beq_eq] at h; rw [h.1, ih h.2])
  | tr q e ih => intro c h; cases c <;> first | (simp [SE.eq] at h; done) | (simp only [SE.eq, Bool.and_eq_true, Nat.beq_eq] at h; rw [h.1, ih h.2])
  | un op e ih => intro c h; cases c <;> first | (simp [SE.eq] at h; done) | (simp only [SE.eq, Bool.and_eq_true, beq_iff_eq] at h; rw [h.1, ih h.2])
  | cv p q e ih => intro c h; cases c <;> first | (simp [SE.eq] at h; done) | (simp only [SE.eq, Bool.and_eq_true, Nat.beq_eq] at h; rw [h.1.1, h.1.2, ih h.2])
  | idx q e x ih1 ih2 => intro c h; cases c <;> first | (simp [SE.eq] at h; done) | (simp only [SE.eq, Bool.and_eq_true, Nat.beq_eq] at h; rw [h.1.1, ih1 h.1.2, ih2 h.2])
  | ecl q e x j ih1 ih2 => intro c h; cases c <;> first | (simp [SE.eq] at h; done) | (simp only [SE.eq, Bool.and_eq_true, Nat.beq_eq] at h; rw [h.1.1.1, h.1.1.2, ih1 h.1.2, ih2 h.2])
  | ac e x ih1 ih2 => intro c h; cases c <;> first | (simp [SE.eq] at h; done) | (simp only [SE.eq, Bool.and_eq_true] at h; rw [ih1 h.1, ih2 h.2])
  | bin op t e x ih1 ih2 => intro c h; cases c <;> first | (simp [SE.eq] at h; done) | (simp only [SE.eq, Bool.and_eq_true, Nat.beq_eq, beq_iff_eq] at h; rw [h.1.1.1, h.1.1.2, ih1 h.1.2, ih2 h.2])
  | mx q e x ih1 ih2 => intro c h; cases c <;> first | (simp [SE.eq] at h; done) | (simp only [SE.eq, Bool.and_eq_true, beq_iff_eq] at h; rw [h.1.1, ih1 h.1.2, ih2 h.2])
  | agn | rws | cat | six | has | sets | sub | clr | ssub | ins | get => intro c h; cases c <;> simp [SE.eq] at h
theorem isRow_eq {o : Option (LO SE)} {s : Nat} {cut fr : Bool} {es : SE} (h : isRow o s cut fr es = true) : o = some (.row s false cut fr es) := by
  unfold isRow at h
  split at h
  · simp only [Bool.and_eq_true, Nat.beq_eq, beq_iff_eq] at h
    rw [h.1.1.1, h.1.1.2, h.1.2, SE.eq_eq h.2]
  · cases h
theorem den_ok {e : SE} {z : IV} (h : (SE.ok e).den P ν = some z) : e.den P ν = some z ∧ Ev.cellOk z = true := by
  simp only [SE.den, Option.bind_eq_some_iff] at h
  obtain ⟨y, h1, h2⟩ := h
  unfold okc at h2
  split at h2
  · cases h2; exact ⟨h1, by assumption⟩
  · cases h2
variable (hJ : J (evd P ν) R φ V.g V.l E σ) (hn : ν.length = V.n)
include hJ hn
theorem xop_storeR {t : TypeId} {a x : Operand} {j s off ext : Nat} {i es : SE} {cut fr f : Bool} {zs : List SE} {V2 : SS} (ho : o.op = .store t a x) (ha : opdS P d V 0 a = .one (.pr j i off ext)) (hj : V.l[j]? = some (.row s false cut fr es))
    (h0 : off = 0) (h2 : (cellsP (opdS P d V t x)).length = s) (h3 : s = ext) (hsz : sizeOf? P t = some s) (hnu : noUn (cellsP (opdS P d V t x)) = true) (hrd : rdCs V (cellsP (opdS P d V t x)) = some (f, zs, V2)) (hj2 : V2.l[j]? = some (.row s false cut fr es))
    (hag : isAgg P t = true ∨ s = 1)
    (hs : (newVar V2 (.sets s es i (if isAgg P t then acs zs else zs.headD .an)) fun z V => k (.one .un) (V.setObj j (.row s false cut (fr || f) z))).sat P C Q K ν) : OutV P C Q K ν E V.ln k (Res P E d o σ) := by
  subst h0 h3
  obtain ⟨R', hst, hJ2, hzl, hrd'⟩ := rdCs_ok hJ hrd
  have hpa := opd_ok hJ d 0 a
  rw [ha] at hpa
  have hpa2 := hst.vrc (x := evalI (E d) a) (c := .pr j i 0 s) hpa
  obtain ⟨s', st', cut', fr', z', es', y, n, id, cs, cep, mn, a1, a2, a3, a4, a5, a6, a7, a8, a9⟩ := hpa2
  rw [hj2] at a1; cases a1
  obtain ⟨hs0, es2, g1, g2, g3⟩ := hJ2.obj j _ hj2
  have a2' : es.den P ν = some (.tree s es') := a2
  have g1' : es.den P ν = some (.tree s es2) := g1
  rw [a2'] at g1'; cases g1'
  rcases g3 with ⟨g3, _⟩ | ⟨id', cs', cep', mn', g3, g4, g5, g6, g7, g8, g9⟩
  · rw [a7] at g3; cases g3
  rw [a7] at g3; cases g3
  rw [a8] at g4; cases g4
  have hc := cellsP_ok (opd_ok hJ d t x) hnu
  obtain ⟨ys, b1, b2, b3⟩ := hrd' _ hc
  have hxl : (cellsOf (evalI (E d) x)).length = s := by rw [hc.len, h2]
  have hyl : ys.length = s := by rw [← b1.len, hzl, h2]
  -- the element
  obtain ⟨ze, hze, hzc⟩ : ∃ ze, (if isAgg P t = true then acs zs else zs.headD .an).den P ν = some ze ∧ cellsOf ze = ys := by
    split
    · exact ⟨_, acs_den b1, rfl⟩
    · rename_i hna
      have hs1 : s = 1 := hag.resolve_left hna
      have hyl1 : ys.length = 1 := by omega
      obtain ⟨y0, rfl⟩ := List.length_eq_one_iff.1 hyl1
      obtain ⟨z0, rfl⟩ := List.length_eq_one_iff.1 (b1.len.trans hyl1)
      refine ⟨y0, b1.1, ?_⟩
      have : Ev.cellOk y0 = true := by simpa using b3
      cases y0 <;> first | rfl | (simp [Ev.cellOk] at this; done)
  obtain ⟨znew, hznew, hk⟩ := hs
  have hset : (SE.sets s es i (if isAgg P t = true then acs zs else zs.headD .an)).den P ν = some (.tree s (es'.set n ze)) := by
    simp only [SE.den, Option.bind_eq_some_iff] at hznew ⊢
    have a3' : i.den P ν = some y := a3
    refine ⟨_, a2', y, a3', ze, hze, ?_⟩
    obtain ⟨q, rfl⟩ := nat_int a4
    simp [denSet, intI?, a5, hzc, hyl]
  rw [hset] at hznew; cases hznew
  have hbnd : n * s + s ≤ es'.length * s := by
    have : (n + 1) * s ≤ es'.length * s := Nat.mul_le_mul_right s a5
    rw [Nat.add_mul] at this; omega
  have hJ3 := hJ2.up (ev' := evd P (ν ++ [.tree s (es'.set n ze)])) (fun e z h => SE.den_app P e h)
  have hvar : (SE.var V2.n).den P (ν ++ [.tree s (es'.set n ze)]) = some (.tree s (es'.set n ze)) := by
    have : V2.n = ν.length := by rw [hn]; exact hst.2.1
    simp [SE.den, this]
  have hJ4 := hJ3.updRow (fr' := fr || f) (z' := .var V2.n) (cs' := splice cs (n * s) (cellsOf (evalI (E d) x))) a7 hj2 a8 (splice_len (by omega)) (SE.den_app P es a2') hvar (by simp)
    (fun e he => by
      rcases List.mem_or_eq_of_mem_set he with he | rfl
      · exact g2 e he
      · rw [hzc, hyl])
    (splice_all g8 (cellsOk_of hc hnu))
    (fun q u v hu hv => by
      rw [flat_set g2 a5 (by rw [hzc, hyl])] at hv
      rw [splice_getElem (α := IV) (by omega)] at hu
      rw [splice_getElem (α := IV) (by rw [flat_len g2, hzc, hyl]; exact hbnd)] at hv
      rw [hxl] at hu
      rw [hzc, hyl] at hv
      by_cases hq : n * s ≤ q ∧ q < n * s + s
      · rw [if_pos hq] at hu hv
        exact (b2.get hu hv).wide (fun h => by simp [h])
      · rw [if_neg hq] at hu hv
        exact (g9 q u v hu hv).wide (fun h => by simp [h]))
  refine ⟨.undef, σ.put id (.cells (splice cs (n * s) (cellsOf (evalI (E d) x))) cep cep), R', φ, .one .un, ({ V2 with n := V2.n + 1 } : SS).setObj j (.row s false cut (fr || f) (.var V2.n)), [.tree s (es'.set n ze)], ?_, hJ4, trivial, ?_, hst.2.2.1, hk⟩
  · have hcell := cellsOk_of hc hnu
    simp only [Res, evOp, ho, a9, hsz, a8, hxl, ret, Nat.add_zero]
    rw [if_pos ⟨Nat.zero_le _, trivial, Nat.le_refl _, trivial, by omega, hcell⟩]
  · show (ν ++ [_]).length = V2.n + 1
    simp [hn, hst.2.1]
theorem xop_store {t : TypeId} {a x : Operand} (ho : o.op = .store t a x) (hs : (opS P d o V k).sat P C Q K ν) : OutV P C Q K ν E V.ln k (Res P E d o σ) := by
  unfold opS at hs; rw [ho] at hs; simp only at hs
  split at hs
  · rename_i j off ext ha
    split at hs
    · rename_i cs hj
      split at hs
      · rename_i hc
        simp only [Bool.and_eq_true, Nat.ble_eq, beq_iff_eq] at hc
        exact xop_storeV hJ hn ho ha hj hc.1.1.1 hc.1.1.2 hc.1.2 hc.2 hs
      · exact hs.elim
    · exact hs.elim
  · rename_i j i off ext ha
    split at hs
    · rename_i s cut fr es hj
      split at hs
      · rename_i hc
        simp only [Bool.and_eq_true, Nat.beq_eq, beq_iff_eq, Bool.or_eq_true] at hc
        split at hs
        · rename_i f zs V2 hrd
          split at hs
          · rename_i hj2
            obtain ⟨⟨⟨⟨⟨c1, c2⟩, c3⟩, c4⟩, c5⟩, c6⟩ := hc
            exact xop_storeR hJ hn ho ha hj c1 c2 c3 c4 c5 hrd (isRow_eq hj2) c6 hs
          · exact hs.elim
        · exact hs.elim
      · exact hs.elim
    · exact hs.elim
  · exact hs.elim
theorem xop_fieldAddr {s : TypeId} {x : Operand} {f : Nat} (ho : o.op = .fieldAddr s x f) (hs : (opS P d o V k).sat P C Q K ν) : OutV P C Q K ν E V.ln k (Res P E d o σ) := by
  unfold opS at hs; rw [ho] at hs; simp only at hs
  have hx := opd_ok hJ d 0 x
  split at hs
  · rename_i fo sz hf
    obtain ⟨fields, fd, h1, h2, h3, rfl⟩ := fieldAt_inv hf
    split at hs
    · exact hs.elim
    · rename_i hz
      have hz' : sz ≠ 0 := by simpa [Nat.beq_eq] using hz
      split at hs
      · rename_i j off ext hh
        split at hs
        · rename_i hle
          rw [Nat.ble_eq] at hle
          rw [hh] at hx
          obtain ⟨id, cs, g1, g2, g3⟩ := hx
          exact .at hs hJ hn rfl ⟨id, cs, g1, g2, rfl⟩ (by simp [Res, evOp, ho, g3, h1, h2, h3, hz', hle, ret])
        · exact hs.elim
      · rename_i cs hh
        split at hs
        · rename_i hle
          rw [Nat.ble_eq] at hle
          rw [hh] at hx
          obtain ⟨ds, g1, g2⟩ := hx
          have hl := g2.len
          exact .at hs hJ hn rfl ⟨_, rfl, (g2.drop _).take _⟩ (by simp [Res, evOp, ho, g1, h1, h2, h3, hz', hl, hle, ret])
        · exact hs.elim
      · rename_i fr cs hh
        split at hs
        · rename_i hle
          rw [Nat.ble_eq] at hle
          rw [hh] at hx
          obtain ⟨g0, ⟨hf1, ds, g1, g2⟩ | ⟨id, off, ep, m, ics, cep, mn, a1, a2, a3, a4, a5, a6, a7, a8⟩⟩ := hx
          · have hl := g2.len
            exact .at hs hJ hn rfl ⟨fun c hc => g0 c (List.mem_of_mem_drop (List.mem_of_mem_take hc)), .inl ⟨hf1, _, rfl, (g2.drop _).take _⟩⟩ (by simp [Res, evOp, ho, g1, h1, h2, h3, hz', hl, hle, ret])
          · have hlen : ((cs.drop fd.offset).take sz).length = sz := by simp; omega
            refine .at (x := .ptr id (off + fd.offset) ep sz) hs hJ hn rfl ⟨fun c hc => g0 c (List.mem_of_mem_drop (List.mem_of_mem_take hc)), .inr ⟨id, off + fd.offset, ep, m, ics, cep, mn, a1, a2, a3, a4, by rw [hlen], by rw [hlen]; omega, a7, fun j c e he hc => ?_⟩⟩ (by simp [Res, evOp, ho, a5, h1, h2, h3, hz', hle, ret])
            rw [List.getElem?_take] at he
            split at he
            · rw [List.getElem?_drop] at he
              exact a8 _ c e he (by rw [show off + (fd.offset + j) = off + fd.offset + j by omega]; exact hc)
            · cases he
        · exact hs.elim
      · rename_i j i off ext hh
        split at hs
        · rename_i hle
          rw [Nat.ble_eq] at hle
          rw [hh] at hx
          obtain ⟨s', st', cut', fr', z', es', y, n, id, cs, cep, mn, a1, a2, a3, a4, a5, a6, a7, a8, a9⟩ := hx
          exact .at hs hJ hn rfl ⟨s', st', cut', fr', z', es', y, n, id, cs, cep, mn, a1, a2, a3, a4, a5, by omega, a7, a8, rfl⟩ (by simp [Res, evOp, ho, a9, h1, h2, h3, hz', hle, ret, Nat.add_assoc])
        · exact hs.elim
      · exact hs.elim
  · exact hs.elim
end Go.Ev
namespace Go.Ev
variable {P : Program} {N : Nat} {σ σ' : St} {R R' : Rs} {φ φ' : Ph} {E : Nat → Env} {ν : List IV}
variable {C : Cr} {Q : IV → Prop} {K : List (List IV → Prop)} {V : SS} {d : Nat} {o : Oper} {k : PV SE → SS → FIR}
def cellsE (P : Program) (t : TypeId) (s : Nat) (e : SE) : List (SE) := if isAgg P t then (List.range s).map (fun j => .fld e j) else [.ok e]
theorem cellsOf_one {z : IV} (h : Ev.cellOk z = true) : cellsOf z = [z] := by
  cases z <;> first | rfl | (simp [Ev.cellOk] at h; done)
theorem needT_ok {t : TypeId} {s : Nat} {e : SE} {z : IV} {f : FIR} (hsz : sizeOf? P t = some s) (hz : e.den P ν = some z) (hs : (needT P t e f).sat P C Q K ν) :
    f.sat P C Q K ν ∧ All2 (fun y (c : SE) => c.den P ν = some y ∧ Ev.cellOk y = true) (cellsOf z) (cellsE P t s e) ∧ (isAgg P t = true → ∃ ys, z = .agg ys) := by
  unfold needT at hs
  unfold cellsE
  split at hs
  · rename_i ha
    rw [if_pos ha]
    obtain ⟨⟨y, hy⟩, hk⟩ := hs
    refine ⟨hk, ?_⟩
    simp only [SE.den, hz, hsz, Option.bind_some, Option.getD_some] at hy
    split at hy
    · rename_i cs
      split at hy
      · rename_i hc
        refine ⟨.mk (by simp [cellsOf, hc.1]) fun i a b h1 h2 => ?_, fun _ => ⟨cs, rfl⟩⟩
        have hi := (List.getElem?_eq_some_iff.1 h1).1
        have hi' : i < cs.length := hi
        rw [List.getElem?_map, List.getElem?_range (by omega)] at h2
        simp only [Option.map_some, Option.some.injEq] at h2
        subst h2
        have hok : Ev.cellOk a = true := (List.all_eq_true.1 hc.2) a (List.mem_of_getElem? h1)
        have h1' : cs[i]? = some a := h1
        exact ⟨by simp [SE.den, hz, h1', okc, hok], hok⟩
      · cases hy
    · cases hy
  · rename_i ha
    rw [if_neg ha]
    obtain ⟨⟨y, hy⟩, hk⟩ := hs
    obtain ⟨h1, h2⟩ := den_ok hy
    rw [hz] at h1; cases h1
    rw [cellsOf_one h2]
    exact ⟨hk, ⟨⟨hy, h2⟩, trivial⟩, fun h => absurd h ha⟩
theorem den_idx {s : Nat} {z i : SE} {e : IV} (h : (SE.idx s z i).den P ν = some e) : ∃ es y n, z.den P ν = some (.tree s es) ∧ i.den P ν = some y ∧ (∃ q, y = .raw (.int q (n : Nat))) ∧ es[n]? = some e ∧ (cellsOf e).length = s := by
  simp only [SE.den, Option.bind_eq_some_iff] at h
  obtain ⟨a, h1, b, h2, h3⟩ := h
  unfold denIdx at h3
  split at h3
  · rename_i s' es
    split at h3
    · rename_i n hn
      split at h3
      · rename_i hc
        split at h3
        · rename_i x hx
          split at h3
          · rename_i hl
            cases h3
            obtain ⟨rfl, h0⟩ := hc
            obtain ⟨q, rfl⟩ := intI_raw hn
            exact ⟨es, _, n.toNat, h1, h2, ⟨q, by simp; omega⟩, hx, hl⟩
          · cases h3
        · cases h3
      · cases h3
    · cases h3
  · cases h3
theorem canP_tree {x : IV} {s : Nat} {es : List IV} (h : CanP x (.tree s es)) (hne : es ≠ []) : x = .tree s es ∧ Pure x := by
  cases h with
  | nil => exact absurd rfl hne
  | emp => exact absurd rfl hne
  | pure _ _ hp => exact ⟨rfl, hp⟩
  | sl _ _ _ _ _ _ _ _ _ _ _ hR => cases hR
theorem mem_ne {α : Type} {l : List α} {i : Nat} {a : α} (h : l[i]? = some a) : l ≠ [] := by intro hl; rw [hl] at h; simp at h
theorem all2_self {α β : Type} {r : α → β → Prop} {q : α → β → Prop} {as : List α} {bs : List β} (h : All2 r as bs) (hq : ∀ a b, a ∈ as → r a b → q a b) : All2 q as bs :=
  .mk h.len fun _ a b h1 h2 => hq a b (List.mem_of_getElem? h1) (h.get h1 h2)
variable (hJ : J (evd P ν) R φ V.g V.l E σ) (hn : ν.length = V.n)
include hJ hn
theorem newVar_sat {e : SE} {f : SE → SS → FIR} (hs : (newVar V e f).sat P C Q K ν) : ∃ z, e.den P ν = some z ∧ (f (.var V.n) { V with n := V.n + 1 }).sat P C Q K (ν ++ [z]) ∧ (SE.var V.n).den P (ν ++ [z]) = some z ∧ J (evd P (ν ++ [z])) R φ V.g V.l E σ ∧ (ν ++ [z]).length = V.n + 1 := by
  obtain ⟨z, h1, h2⟩ := hs
  exact ⟨z, h1, h2, by simp [SE.den, ← hn], hJ.up fun e z h => SE.den_app P e h, by simp [hn]⟩
theorem xop_indexAddr {t : TypeId} {x ix : Operand} (ho : o.op = .indexAddr t x ix) (hs : (opS P d o V k).sat P C Q K ν) : OutV P C Q K ν E V.ln k (Res P E d o σ) := by
  unfold opS at hs; rw [ho] at hs; simp only at hs
  have hx := opd_ok hJ d t x
  have hi := opd_ok hJ d 3 ix
  split at hs
  · rename_i et i hu hii
    rw [hii] at hi
    split at hs
    · rename_i s hsz
      split at hs
      · rename_i z hh
        rw [hh] at hx
        obtain ⟨e, h1, h2, hv, hJ', hn'⟩ := newVar_sat hJ hn hs
        obtain ⟨es, y, n, g1, g2, ⟨q, rfl⟩, g4, g5⟩ := den_idx h1
        obtain ⟨y', a1, a2, a3⟩ := hx
        have a1' : z.den P ν = some y' := a1
        rw [g1] at a1'; cases a1'
        obtain ⟨hxe, hp⟩ := canP_tree a2 (mem_ne g4)
        obtain ⟨yi, b1, b2, b3⟩ := hi
        have b1' : i.den P ν = some yi := b1
        rw [g2] at b1'; cases b1'
        have hie := canRaw b2
        obtain ⟨hk, hcells, _⟩ := needT_ok hsz hv h2
        have hpe : ∀ c ∈ cellsOf e, Pure c := by
          rw [hxe] at hp
          cases hp with | tree _ _ hh => exact hh e (List.mem_of_getElem? g4)
        refine ⟨.tptr (cellsOf e), σ, R, φ, .one (.tp (cellsE P et s (.var V.n))), { V with n := V.n + 1 }, [e], ?_, hJ', ⟨_, rfl, all2_self hcells fun a b ha hab => ⟨a, hab.1, .pure a rfl (hpe a ha), hab.2⟩⟩, hn', rfl, hk⟩
        simp [Res, evOp, ho, hu, hxe, hie, hsz, g4, g5, ret]
      · rename_i fr z hh
        rw [hh] at hx
        obtain ⟨e, h1, h2, hv, hJ', hn'⟩ := newVar_sat hJ hn hs
        obtain ⟨es, y, n, g1, g2, ⟨q, rfl⟩, g4, g5⟩ := den_idx h1
        obtain ⟨y', a1, a2, a3⟩ := hx
        have a1' : z.den P ν = some y' := a1
        rw [g1] at a1'; cases a1'
        obtain ⟨yi, b1, b2, b3⟩ := hi
        have b1' : i.den P ν = some yi := b1
        rw [g2] at b1'; cases b1'
        have hie := canRaw b2
        obtain ⟨hk, hcells, _⟩ := needT_ok hsz hv h2
        have hg0 : ∀ c ∈ cellsE P et s (.var V.n), ∃ y, c.den P (ν ++ [e]) = some y ∧ Ev.cellOk y = true := by
          intro c hc
          obtain ⟨j, hj⟩ := List.getElem?_of_mem hc
          obtain ⟨a, _, hab⟩ := hcells.getR hj
          exact ⟨a, hab⟩
        generalize hex : evalI (E d) x = xv at a2
        generalize hzt : IV.tree s es = zt at a2
        cases a2 with
        | nil s' hs' => injection hzt with h1 h2; subst h2; simp at g4
        | emp s' hs' => injection hzt with h1 h2; subst h2; simp at g4
        | pure _ hf hp =>
          subst hzt
          have hpe : ∀ c ∈ cellsOf e, Pure c := by
            cases hp with | tree _ _ hh => exact hh e (List.mem_of_getElem? g4)
          refine ⟨.tptr (cellsOf e), σ, R, φ, .one (.tw fr (cellsE P et s (.var V.n))), { V with n := V.n + 1 }, [e], ?_, hJ', ⟨hg0, .inl ⟨hf, _, rfl, all2_self hcells fun a b ha hab => ⟨a, hab.1, .pure a rfl (hpe a ha)⟩⟩⟩, hn', rfl, hk⟩
          simp [Res, evOp, ho, hu, hex, hie, hsz, g4, g5, ret]
        | sl id off len cap ep s' m cs cep mn es' hR hat h1' h2' hs' hl hb hm hcs hh =>
          injection hzt with hz1 hz2
          subst hz1 hz2 hl
          have hlt := (List.getElem?_eq_some_iff.1 g4).1
          have hlen : (cellsE P et s (.var V.n)).length = s := by rw [← hcells.len, g5]
          have hb2 : n * s + s ≤ es.length * s := by
            have : (n + 1) * s ≤ es.length * s := Nat.mul_le_mul_right s hlt
            rw [Nat.add_mul] at this; omega
          refine ⟨.ptr id (off + n * s) ep s, σ, R, φ, .one (.tw fr (cellsE P et s (.var V.n))), { V with n := V.n + 1 }, [e], ?_, hJ', ⟨hg0, .inr ⟨id, off + n * s, ep, m, cs, cep, mn, hR, hat, h1', h2', by rw [hlen], by rw [hlen]; omega, hm, fun j c ce hce hc => ?_⟩⟩, hn', rfl, hk⟩
          · simp [Res, evOp, ho, hu, hex, hie, hsz, hlt, ret]
          · obtain ⟨a, ha, hab⟩ := hcells.getR hce
            exact ⟨a, hab.1, hh n e j c a g4 ha (by rw [show off + n * s + j = off + (n * s) + j by omega] at hc; exact hc)⟩
        | raw v => cases hzt
        | ifc => cases hzt
        | agg => cases hzt
        | tup => cases hzt
      · rename_i j hh
        rw [hh] at hx
        split at hs
        · rename_i s' st cut fr es' hj
          split at hs
          · rename_i hss
            have hss' := Nat.eq_of_beq_eq_true hss
            subst hss'
            obtain ⟨⟨e, h1⟩, hk⟩ := hs
            obtain ⟨es, y, n, g1, g2, ⟨q, rfl⟩, g4, g5⟩ := den_idx h1
            obtain ⟨yi, b1, b2, b3⟩ := hi
            have b1' : i.den P ν = some yi := b1
            rw [g2] at b1'; cases b1'
            have hie := canRaw b2
            have hlt := (List.getElem?_eq_some_iff.1 g4).1
            obtain ⟨s2, st2, cut2, fr2, z2, es2, a1, a2, a3⟩ := hx
            rw [hj] at a1; cases a1
            have a2' : es'.den P ν = some (.tree s es2) := a2
            rw [g1] at a2'; cases a2'
            rcases a3 with ⟨_, c2, _⟩ | ⟨id, cs, cep, mn, cap, c1, c2, c3, c4, c5, c6⟩
            · omega
            · refine .at (x := .ptr id (n * s + 0) cep s) hk hJ hn rfl ⟨s, st, cut, fr, es', es, _, n, id, cs, cep, mn, hj, g1, g2, by simp [nat?], hlt, by omega, c1, c2, rfl⟩ ?_
              simp [Res, evOp, ho, hu, c3, hie, hsz, hlt, ret]
          · exact hs.elim
        · exact hs.elim
      · exact hs.elim
    · exact hs.elim
  · rename_i n et i hu hii
    rw [hii] at hi
    have hie : evalI (E d) ix = .raw (.int .i64 i) := by
      obtain ⟨y, h1, h2, _⟩ := hi
      simp only [evd, SE.den, Option.some.injEq] at h1
      subst h1; exact canRaw h2
    split at hs
    · rename_i s j off ext hsz hh
      rw [hh] at hx
      obtain ⟨id, cs, g1, g2, g3⟩ := hx
      split at hs
      · rename_i hc
        simp only [Bool.and_eq_true, Bool.not_eq_true', decide_eq_true_eq, Nat.blt_eq, Nat.ble_eq] at hc
        obtain ⟨⟨⟨c1, c2⟩, c3⟩, c4⟩ := hc
        have c1' : s ≠ 0 := by intro h; subst h; simp at c1
        refine .at (x := .ptr id (off + i.toNat * s) 0 s) hs hJ hn rfl ⟨id, cs, g1, g2, rfl⟩ ?_
        have : i < n := by omega
        simp [Res, evOp, ho, hu, g3, hie, hsz, c1', c2, this, c4, ret]
      · exact hs.elim
    · exact hs.elim
    · exact hs.elim
  · exact hs.elim
end Go.Ev
