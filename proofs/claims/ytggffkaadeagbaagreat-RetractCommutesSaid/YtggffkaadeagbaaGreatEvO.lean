/- Lemmas over the model, without conditions of their own: code on expressions is sound; contracts out of functional programs. -/
import Derived.Test.YtggffkaadeagbaaGreatEvN
set_option linter.all false
namespace Go.Ev
variable {P : Program} {N : Nat} {σ σ' : St} {R R' : Rs} {φ φ' : Ph} {E : Nat → Env} {ν ν0 vs : List IV} {V : SS} {d t : Nat}
theorem J.reSlot {Γ : Gm SE} {L : List (LO SE)} (hJ : J (evd P ν) R φ Γ L E σ) {pv : PV SE} (h : VR (evd P ν) R φ L σ ((E d).at t) pv) : J (evd P ν) R φ (gset d t pv Γ) L E σ := by
  refine { hJ with slot := fun d' t' pv' hg' => ?_ }
  rcases gget_cons hg' with ⟨rfl, rfl, rfl⟩ | ⟨_, h3⟩
  · exact h
  · exact hJ.slot d' t' pv' (gget_del Γ h3).2
theorem settle1_ok (hJ : J (evd P ν) R φ V.g V.l E σ) (d t : Nat) : ∃ R', J (evd P ν) R' φ (settle1 d t V).g (settle1 d t V).l E σ ∧ (settle1 d t V).n = V.n ∧ (settle1 d t V).ln = V.ln := by
  unfold settle1
  split
  · rename_i k hg
    split
    · rename_i s st cut fr es hk
      obtain ⟨R', h1, h2, h3⟩ := standRow_ok hJ k
      have hv := hJ.slot d t _ hg
      have hv1 : VRc (evd P ν) R' φ (standRow k V).l σ ((E d).at t) (.sr k) := h1.vrc hv
      obtain ⟨y, a1, a2, a3⟩ := sr_reads h2 (h3 _ _ _ _ _ hk) hv1
      refine ⟨R', h2.reSlot (pv := .one (.w fr es)) ⟨y, a1, a2, a3⟩, ?_, ?_⟩
      · rw [setSlot_n]; exact h1.2.1
      · rw [setSlot_ln]; exact h1.2.2.1
    · exact ⟨R, hJ, rfl, rfl⟩
  · exact ⟨R, hJ, rfl, rfl⟩
theorem settle_ok : ∀ (ws : List (Nat × Nat × Nat)) {V : SS} {R : Rs}, J (evd P ν) R φ V.g V.l E σ → ∃ R', J (evd P ν) R' φ (settle ws V).g (settle ws V).l E σ ∧ (settle ws V).n = V.n ∧ (settle ws V).ln = V.ln
  | [], V, R, hJ => ⟨R, hJ, rfl, rfl⟩
  | (d, t, m) :: ws, V, R, hJ => by
    simp only [settle]
    split
    · obtain ⟨R1, h1, h2, h3⟩ := settle1_ok hJ d t
      obtain ⟨R2, h4, h5, h6⟩ := settle_ok ws h1
      exact ⟨R2, h4, h5.trans h2, h6.trans h3⟩
    · exact settle_ok ws hJ
theorem nl_row {L : List (LO SE)} {Γ : Gm SE} (hJ : J (evd P ν) R φ Γ L E σ) {x : IV} {b : Bool} {s : Nat} (hx : VRc (evd P ν) R φ L σ x (.nl b s)) :
    J (evd P ν) R φ Γ (L ++ [.row s false false false (.tr s .an)]) E σ ∧ Chg (evd P ν) (evd P ν) R φ L σ R φ (L ++ [.row s false false false (.tr s .an)]) σ (fun _ => False) ∧ VRc (evd P ν) R φ (L ++ [.row s false false false (.tr s .an)]) σ x (.sr L.length) := by
  obtain ⟨hs, hx⟩ := hx
  have hz : (SE.tr s .an).den P ν = some (.tree s []) := by simp [SE.den, hs]
  obtain ⟨h1, h2⟩ := hJ.addNone (fr := false) hs hz
  exact ⟨h2, h1, s, false, false, false, _, [], by simp, hz, .inl ⟨φ_none hJ (Nat.le_refl _), rfl, by subst hx; cases b <;> simp⟩⟩
theorem All2.set {α β : Type} {r : α → β → Prop} : ∀ {as : List α} {bs : List β} {i : Nat} {b : β}, All2 r as bs → (∀ a, as[i]? = some a → r a b) → All2 r as (bs.set i b)
  | [], [], i, b, _, _ => by simp; trivial
  | a :: as, b' :: bs, i, b, h, hr => by
    cases i with
    | zero => exact ⟨hr a rfl, h.2⟩
    | succ i => exact ⟨h.1, All2.set h.2 fun a ha => hr a (by simpa using ha)⟩
  | [], _ :: _, _, _, h, _ => h.elim
  | _ :: _, [], _, _, h, _ => h.elim
theorem promoS_ok (hJ : J (evd P ν) R φ V.g V.l E σ) (d t j : Nat) : J (evd P ν) R φ (promoS d t j V).g (promoS d t j V).l E σ ∧ (promoS d t j V).n = V.n ∧ (promoS d t j V).ln = V.ln := by
  unfold promoS
  split
  · rename_i b s hg
    split
    · obtain ⟨h1, _, h2⟩ := nl_row hJ (x := (E d).at t) (b := b) (s := s) (hJ.slot d t _ hg)
      exact ⟨h1.reSlot (pv := .one (.sr V.l.length)) h2, rfl, rfl⟩
    · exact ⟨hJ, rfl, rfl⟩
  · rename_i cs hg
    split
    · rename_i b s hc
      obtain ⟨xs, hx1, hx2⟩ := hJ.slot d t _ hg
      obtain ⟨x, hx, hr⟩ := hx2.getR hc
      obtain ⟨h1, h3, h2⟩ := nl_row hJ hr
      refine ⟨h1.reSlot (pv := .ag _) ⟨xs, hx1, (hx2.mono fun _ _ hab => hab.step h3 (Cl.ok_false _)).set fun a ha => ?_⟩, rfl, rfl⟩
      rw [hx] at ha; cases ha; exact h2
    · exact ⟨hJ, rfl, rfl⟩
  · exact ⟨hJ, rfl, rfl⟩
theorem promoO_ok (hJ : J (evd P ν) R φ V.g V.l E σ) (k j : Nat) : J (evd P ν) R φ (promoO k j V).g (promoO k j V).l E σ ∧ (promoO k j V).n = V.n ∧ (promoO k j V).ln = V.ln := by
  unfold promoO
  split
  · rename_i cs hk
    split
    · rename_i b s hc
      obtain ⟨id, ics, g1, g2, g3, g4⟩ := hJ.obj k _ hk
      obtain ⟨x, hx, hr⟩ := g4.getR hc
      obtain ⟨h1, h3, h2⟩ := nl_row hJ hr
      have hkl := getElem?_lt hk
      have hk1 : (V.l ++ [LO.row s false false false (SE.tr s SE.an)])[k]? = some (.var cs) := by rw [List.getElem?_append_left hkl]; exact hk
      obtain ⟨hs1, hJ1⟩ := h1.updPut (R' := R) (bad := fun _ => False) (lo' := .var (cs.set j (.sr V.l.length))) (ob' := .cells ics 0 0) g1 hk1 (fun _ _ => rfl)
        (fun m hm => by rw [g2] at hm; cases hm) (fun m _ _ _ hm => by rw [g2] at hm; cases hm) (fun m _ _ _ hm => by rw [g2] at hm; cases hm)
        (fun _ _ => ⟨_, rfl⟩) (fun _ _ h => by cases h) (fun _ _ _ _ _ h => by cases h) (fun _ _ pv _ => pv.ok_false) (fun _ o _ _ => o.ok_false)
        (fun hs1 => ⟨id, ics, g1, g2, by rw [St.at_put, if_pos rfl], ((g4.mono fun _ _ hab => hab.step h3 (Cl.ok_false _)).set fun a ha => by rw [hx] at ha; cases ha; exact h2).mono fun _ _ hab => hab.step hs1 (Cl.ok_false _)⟩)
      have hσ : σ.put id (.cells ics 0 0) = σ := by
        unfold St.put
        have : σ.t.set id (.cells ics 0 0) = σ.t := T.WF.ext (hJ.wf.set _ _) hJ.wf fun i => by
          rw [T.get_set]
          split
          · rename_i hh; subst hh; exact g3.symm
          · rfl
        rw [this]
      rw [hσ] at hJ1
      have hset : (V.l ++ [LO.row s false false false (SE.tr s SE.an)]).set k (LO.var (cs.set j (Cl.sr V.l.length))) = V.l.set k (LO.var (cs.set j (Cl.sr V.l.length))) ++ [LO.row s false false false (SE.tr s SE.an)] := by
        rw [List.set_append_left _ _ hkl]
      rw [hset] at hJ1
      exact ⟨hJ1, rfl, rfl⟩
    · exact ⟨hJ, rfl, rfl⟩
  · exact ⟨hJ, rfl, rfl⟩
theorem promoSs_ok (h : Hint) : ∀ (l : List (Nat × Nat × Nat)) {V : SS}, J (evd P ν) R φ V.g V.l E σ → J (evd P ν) R φ (promoSs h l V).g (promoSs h l V).l E σ ∧ (promoSs h l V).n = V.n ∧ (promoSs h l V).ln = V.ln
  | [], V, hJ => ⟨hJ, rfl, rfl⟩
  | (d, t, j) :: l, V, hJ => by
    simp only [promoSs]
    split
    · obtain ⟨h1, h2, h3⟩ := promoS_ok hJ d t j
      obtain ⟨h4, h5, h6⟩ := promoSs_ok h l h1
      exact ⟨h4, h5.trans h2, h6.trans h3⟩
    · exact promoSs_ok h l hJ
theorem promoOs_ok : ∀ (l : List (Nat × Nat)) {V : SS}, J (evd P ν) R φ V.g V.l E σ → J (evd P ν) R φ (promoOs l V).g (promoOs l V).l E σ ∧ (promoOs l V).n = V.n ∧ (promoOs l V).ln = V.ln
  | [], V, hJ => ⟨hJ, rfl, rfl⟩
  | (k, j) :: l, V, hJ => by
    simp only [promoOs]
    obtain ⟨h1, h2, h3⟩ := promoO_ok hJ k j
    obtain ⟨h4, h5, h6⟩ := promoOs_ok l h1
    exact ⟨h4, h5.trans h2, h6.trans h3⟩
theorem ready_ok (h : Hint) (hJ : J (evd P ν) R φ V.g V.l E σ) : ∃ R', J (evd P ν) R' φ (promote h (settle h.weak V)).g (promote h (settle h.weak V)).l E σ ∧ (promote h (settle h.weak V)).n = V.n ∧ (promote h (settle h.weak V)).ln = V.ln := by
  obtain ⟨R', h1, h2, h3⟩ := settle_ok h.weak hJ
  obtain ⟨h4, h5, h6⟩ := promoSs_ok h h.slots.reverse h1
  obtain ⟨h7, h8, h9⟩ := promoOs_ok h.objs.reverse h4
  exact ⟨R', h7, h8.trans (h5.trans h2), h9.trans (h6.trans h3)⟩
end Go.Ev
namespace Go.Ev
variable {P : Program} {N : Nat} {σ σ' : St} {R R' : Rs} {φ φ' : Ph} {E : Nat → Env} {ν : List IV} {ro : Nat} {ι : Io} {w : World} {cfg : Cfg} {self : Exec}
variable {C : Cr} {Q : IV → Prop} {K : List (List IV → Prop)} {V : SS} {d f0 : Nat} {o : Oper} {k : PV SE → SS → FIR} {L : List (LO SE)} {Γ : Gm SE} {rd : Option Nat} {df : List Df}
variable {sk : List Nat} {ops : Array Oper} {l : List Oper} {kk : SS → FIR} {CW : Nat → Env → St → Prop} {CX : Nat → Outs}
def SkOk (e : Env) (sk : List Nat) : Prop := ∀ t, memB sk t = true → e.at t = .undef
theorem SkOk.nil (e : Env) : SkOk e [] := fun _ h => by cases h
theorem SkOk.put {e : Env} {sk : List Nat} (h : SkOk e sk) (dst : Option Nat) (x : IV) : SkOk (e.put dst x) (delSk sk dst) := by
  cases dst with
  | none => exact h
  | some d =>
    intro t ht
    obtain ⟨h1, h2⟩ := memB_filter ht
    rw [put_ne h2]; exact h t h1
theorem SkOk.add {e : Env} {sk : List Nat} (h : SkOk e sk) {dst : Option Nat} (hd : ∀ t, dst = some t → t < e.n) : SkOk (e.put dst .undef) (addSk sk dst) := by
  cases dst with
  | none => exact h
  | some d =>
    intro t ht
    rcases memB_cons ht with rfl | ht
    · exact put_same (hd _ rfl)
    · exact h.put (some d) .undef t ht
theorem SkOk.skips {e : Env} {sk : List Nat} (h : SkOk e sk) {ops : Array Oper} {o : Oper} (hs : skipped sk ops o = true) : wantedI o ops e = false := by
  unfold skipped at hs
  unfold wantedI
  split at hs <;> first | (cases hs; done) | skip
  rename_i j w hg
  rw [hg]
  simp only
  split at hs <;> first | (cases hs; done) | skip
  rename_i t ht
  rw [ht]
  simp only
  rw [h t hs]
  split
  · rfl
  · rfl
def RestOk (P : Program) (C : Cr) (Q : IV → Prop) (cfg : Cfg) (self : Exec) (d f0 : Nat) (ops : Array Oper) (rd : Option Nat) (df : List Df) (kk : SS → FIR) (CX : Nat → Outs) (sk : List Nat) (l : List Oper) : Prop :=
  ∀ (V : SS) ν K R φ E σ, SkOk (E d) sk → (opsS P cfg self d f0 false ops sk l V kk).sat P C Q K ν → J (evd P ν) R φ V.g V.l E σ → ν.length = V.n → K.length = V.lv → (E d).n = V.nt → KS P C Q d E K ν V.nt kk (fun N e σ => CX N .normal e σ) →
    ∃ b, ∀ N, b ≤ N → OpsW P N rd ops l (E d) df σ (CX N)
theorem restOk_next (ih : RestOk P C Q cfg self d f0 ops rd df kk CX sk l) {dst : Option Nat} (hsk : ∀ x, SkOk ((E d).put dst x) sk) (hd : ∀ t, dst = some t → t < (E d).n) {nt : Nat} (hnt : (E d).n = nt) (hks : KS P C Q d E K ν nt kk (fun N e σ => CX N .normal e σ))
    {V1 : SS} {μ : List IV} {K1 : List (List IV → Prop)} {R1 : Rs} {φ1 : Ph} {E1 : Nat → Env} {σ1 : St} {x : IV} {pv : PV SE}
    (hJ : J (evd P (ν ++ μ)) R1 φ1 V1.g V1.l E1 σ1) (hn : (ν ++ μ).length = V1.n) (hK : K <+: K1) (hlv : K1.length = V1.lv) (hnt1 : V1.nt = nt) (hE : ∀ j, j < d → E1 j = E j) (hEd : E1 d = E d)
    (hx : VR (evd P (ν ++ μ)) R1 φ1 V1.l σ1 x pv) (hs : (opsS P cfg self d f0 false ops sk l (V1.setSlot d dst pv) kk).sat P C Q K1 (ν ++ μ)) :
    ∃ b, ∀ N, b ≤ N → OpsW P N rd ops l ((E d).put dst x) df σ1 (CX N) := by
  have hJ1 := setSlot_ok (d := d) (dst := dst) hJ hx (by rw [hEd]; exact hd)
  have hnt2 : (V1.setSlot d dst pv).nt = nt := by cases dst <;> exact hnt1
  have hlv2 : (V1.setSlot d dst pv).lv = V1.lv := by cases dst <;> rfl
  obtain ⟨b, hb⟩ := ih (V1.setSlot d dst pv) (ν ++ μ) K1 R1 φ1 _ σ1 (by rw [setE_same, hEd]; exact hsk x) hs hJ1 (by rw [setSlot_n]; exact hn) (by rw [hlv2]; exact hlv) (by rw [setE_same, put_n, hEd, hnt, hnt2]) (by
    rw [hnt2]
    exact hks.fwd hK (fun j hj => by rw [setE_lt _ _ _ (by omega)]; exact hE j hj) (by rw [setE_same, put_n, hEd]))
  refine ⟨b, fun N hN => ?_⟩
  have := hb N hN
  rw [setE_same, hEd] at this
  exact this
theorem joinOf_ok {det : Bool} {g : FuncId} {pvs : List (PV SE)} (h : joinOf P cfg d det o V = some (g, pvs)) :
    ∃ c f bs, o.op = .call c ∧ c.callee = .value f ∧ opdS P d V 0 f = .one (.fn g bs) ∧ pvs = argsS P d V c.args.toList c.argTypes.toList ++ bs.map (fun (p : Nat × Nat) => .one (.pt p.1 0 p.2)) := by
  unfold joinOf at h
  split at h <;> first | (cases h; done) | skip
  split at h <;> first | (cases h; done) | skip
  rename_i c ho
  split at h <;> first | (cases h; done) | skip
  rename_i f hc
  split at h <;> first | (cases h; done) | skip
  rename_i g' bs hf
  split at h <;> first | (cases h; done) | skip
  simp only [Option.some.injEq, Prod.mk.injEq] at h
  obtain ⟨rfl, rfl⟩ := h
  exact ⟨c, f, bs, ho, hc, hf, rfl⟩
theorem denL_acs {es : List SE} {vs : List IV} (h : denL (P := P) ν (acs es) = some vs) : All2 (fun (e : SE) y => e.den P ν = some y) es vs := by
  induction es generalizing vs with
  | nil =>
    unfold denL at h
    simp only [acs, SE.den, Option.some.injEq] at h
    subst h; trivial
  | cons e es ih =>
    unfold denL at h
    simp only [acs, SE.den] at h
    cases h1 : e.den P ν with
    | none => rw [h1] at h; simp at h
    | some x =>
      rw [h1] at h
      simp only [Option.bind_some] at h
      cases h2 : (acs es).den P ν with
      | none => rw [h2] at h; simp at h
      | some y =>
        rw [h2] at h
        simp only [Option.bind_some] at h
        cases y <;> simp only at h <;> first | (cases h; done) | skip
        rename_i cs
        cases h
        exact ⟨h1, ih (by unfold denL; rw [h2])⟩
theorem joinS_ok (hself : SelfW P C Q self) (hJ : J (evd P ν) R φ V.g V.l E σ) (hn : ν.length = V.n) (hK : K.length = V.lv) (hnt : (E d).n = V.nt) {g : FuncId} {dst : Option Nat} {args : List IV} {pvs : List (PV SE)} (hargs : All2 (VR (evd P ν) R φ V.l σ) args pvs)
    (hd : ∀ t, dst = some t → t < (E d).n)
    {k : SS → FIR} (hs : (joinS P cfg self d f0 dst g pvs V k).sat P C Q K ν) {RW : Nat → IV → St → Prop}
    (hk : ∀ (H : SS) vs R' φ' E' σ' v, J (evd P (ν ++ vs)) R' φ' H.g H.l E' σ' → (ν ++ vs).length = H.n → H.lv = V.lv → H.nt = V.nt → (∀ j, j < d → E' j = E j) → E' d = (E d).put dst v → (k H).sat P C Q K (ν ++ vs) → ∃ b, ∀ N, b ≤ N → σ'.n ≤ N ∧ RW N v σ') :
    ∃ fn, P.funcs[g]? = some fn ∧ fn.body.isSome = true ∧ (fn.name != "runtime.NumGoroutine") = true ∧ ∃ b, ∀ N, b ≤ N → CallW P N g args σ (RW N) := by
  unfold joinS at hs
  simp only at hs
  split at hs
  · exact hs.elim
  · simp only [FIR.sat] at hs
    refine inlineS_ok (V := { V with lv := V.lv + 1 }) hself hJ hn (by simp [hK]) hnt hargs hs ?_
    intro pv V' μ K' R' φ' E' σ' v hf hEd hv hs'
    have hJ1 := setSlot_ok (d := d) (dst := dst) hf.hJ hv (by rw [hEd]; exact hd)
    obtain ⟨R2, hJ2, hn2, _⟩ := ready_ok _ hJ1
    split at hs'
    · rename_i es ren hi
      obtain ⟨vs, p, h1, h2, h3⟩ := hs'
      obtain ⟨hlen, hJ3⟩ := inst_ok (ν0 := ν) hJ2 hn ⟨μ, rfl⟩ hi (denL_acs h1)
      obtain ⟨t, ht⟩ := hf.hK
      rw [← ht, List.append_assoc, List.getElem?_append_right (by omega), hK, Nat.sub_self] at h2
      simp only [List.singleton_append, List.getElem?_cons_zero, Option.some.injEq] at h2
      subst h2
      exact hk _ vs R2 _ _ σ' v hJ3 (by rw [List.length_append, hlen, hn]) rfl rfl (fun j hj => by rw [setE_lt _ _ _ (by omega)]; exact hf.hE j hj) (by rw [setE_same, hEd]) h3.2
    · exact hs'.elim
end Go.Ev
namespace Go.Ev
variable {P : Program} {N : Nat} {ι : Io} {w : World} {σ σ' : St} {e : Env} {rd : Option Nat} {fn : FuncId} {df : List Df}
variable {ops : Array Oper} {o : Oper} {l : List Oper} {CW : Outs}
theorem nil_cmp {t el : TypeId} (hu : P.underlying t = some (.slice el)) (a : Option Addr) (n c : Nat) (x y : Operand) :
    binI P .eql t x y (.raw (.slice a n c)) (.raw (.slice none 0 0)) = some (.bool a.isNone) ∧ binI P .neq t x y (.raw (.slice a n c)) (.raw (.slice none 0 0)) = some (.bool (!a.isNone)) := by
  have he : pureRun P (Op.equal t (.slice a n c) (.slice none 0 0)) = some a.isNone := by
    show pureRun P (Op.equalIn (9999 + 1) t (.slice a n c) (.slice none 0 0)) = _
    unfold Op.equalIn
    rw [pureRun_bind, run_underlying hu, Option.bind_some]
    cases a <;> rfl
  constructor
  · show (pureRun P (do eqGuard .eql t x y (.slice a n c) (.slice none 0 0); Go.binOp .eql t (.slice a n c) (.slice none 0 0))).map lift = _
    rw [pureRun_bind]
    show (pureRun P (do pure (.bool (← Op.equal t (.slice a n c) (.slice none 0 0))))).map lift = _
    rw [pureRun_bind, he]; rfl
  · show (pureRun P (do eqGuard .neq t x y (.slice a n c) (.slice none 0 0); Go.binOp .neq t (.slice a n c) (.slice none 0 0))).map lift = _
    rw [pureRun_bind]
    show (pureRun P (do pure (.bool (!(← Op.equal t (.slice a n c) (.slice none 0 0)))))).map lift = _
    rw [pureRun_bind, he]; rfl
theorem OpsW.at {v : IV} {CW : Outs} (hw : wantedI o ops e = true) (hn : σ.n ≤ N)
    (h : ∀ ι w (r : Operand → Value), Inv N ι σ w → (∀ x, Rv ι (evalI e x) (r x)) → ∃ ρ v, (∀ x, Rv ι (ρ x) (r x)) ∧ evOp P 0 ρ o σ = some (.val v σ) ∧ OpsW P N rd ops l (e.put o.dst v) df σ CW) : OpsW P N rd ops (o :: l) e df σ CW := by
  refine .cons hw fun F ι a w Q k hl hF hi he hd hQ => ?_
  refine ⟨fun f _ => hF.fn f, ?_⟩
  obtain ⟨ρ, v, hρ, hv, h⟩ := h ι w _ hi he.eval
  rw [Oper.semAt_eq _ _ _ (op_noDefer hv (by simp))]
  obtain ⟨u, w', ι', hr, h2, h3, h4⟩ := op_ok hi hρ hv hn
  have key : wpOpsIn F 0 P ops Q (List.range' (k + 1) l.length) (a.put o.dst u) w' :=
    h F ι' _ w' Q (k + 1) hl (hF.mono h4.ext) h3 ((he.mono h4.ext).put h2 _) (hd.mono h4.ext |> fun x => by cases o.dst <;> exact x) (fun ex e' σ' hc => (hQ ex e' σ' hc).from hi h4 hn)
  rcases hr with hr | ⟨hr, rfl⟩
  · rw [hr, Oper.uponIn_value]; exact key
  · rw [hr, Oper.uponIn_skip]; exact key
def Slish (x : IV) : Prop := x = .raw (.slice none 0 0) ∨ x = .emp ∨ (∃ s es, x = .tree s es) ∨ ∃ id off len cap ep s, x = .sl id off len cap ep s
theorem OpsW.isNil {CW : Outs} {e0 : Bool} {op : BinOp} {t el yt : TypeId} {x : Operand} (hw : wantedI o ops e = true) (hn : σ.n ≤ N) (ho : o.op = .binOp op t x (.const (.slice none 0 0)) yt) (hop : (op = .eql ∧ e0 = true) ∨ (op = .neq ∧ e0 = false))
    (hu : P.underlying t = some (.slice el)) (hx : Slish (evalI e x))
    (h1 : evalI e x ≠ .raw (.slice none 0 0) → OpsW P N rd ops l (e.put o.dst (.raw (.bool (!e0)))) df σ CW)
    (h2 : (evalI e x = .raw (.slice none 0 0) ∨ ∃ s, evalI e x = .tree s []) → OpsW P N rd ops l (e.put o.dst (.raw (.bool e0))) df σ CW) : OpsW P N rd ops (o :: l) e df σ CW := by
  refine .at (v := .undef) hw hn fun ι w r hi hr => ?_
  have main : ∀ a n c, r x = .slice a n c → (a = none → evalI e x = .raw (.slice none 0 0) ∨ ∃ s, evalI e x = .tree s []) → (a ≠ none → evalI e x ≠ .raw (.slice none 0 0)) →
      ∃ ρ v, (∀ x, Rv ι (ρ x) (r x)) ∧ evOp P 0 ρ o σ = some (.val v σ) ∧ OpsW P N rd ops l (e.put o.dst v) df σ CW := by
    intro a n c hrx ha hb
    have hcy : ∀ ρ : Operand → IV, ρ (.const (.slice none 0 0)) = .raw (.slice none 0 0) → ρ x = .raw (.slice a n c) → evOp P 0 ρ o σ = some (.val (.raw (.bool (if a.isNone then e0 else !e0))) σ) := by
      intro ρ h3 h4
      obtain ⟨g1, g2⟩ := nil_cmp (P := P) hu a n c x (.const (.slice none 0 0))
      rcases hop with ⟨rfl, rfl⟩ | ⟨rfl, rfl⟩
      · simp only [evOp, ho, h3, h4, g1, ret]
        cases a <;> rfl
      · simp only [evOp, ho, h3, h4, g2, ret]
        cases a <;> rfl
    have hy : evalI e (.const (.slice none 0 0)) = .raw (.slice none 0 0) := rfl
    refine ⟨fun z => @ite _ (z = x) (Classical.propDecidable _) (.raw (.slice a n c)) (evalI e z), _, fun z => ?_, hcy _ ?_ ?_, ?_⟩
    · dsimp only
      split
      · rename_i hz; subst hz; rw [hrx]; exact .raw _
      · exact hr z
    · split
      · rename_i hz
        have hh := hr x
        rw [← hz, hy, hz, hrx] at hh
        generalize hq : Value.slice a n c = q at hh ⊢
        cases hh; rfl
      · rfl
    · rw [if_pos rfl]
    · cases a with
      | none => exact h2 (ha rfl)
      | some a => exact h1 (hb (by simp))
  have hrx := hr x
  rcases hx with hx | hx | ⟨s, es, hx⟩ | ⟨id, off, len, cap, ep, s, hx⟩
  · rw [hx] at hrx
    generalize hq : r x = u at hrx
    cases hrx
    exact main none 0 0 hq (fun _ => .inl hx) (fun h => absurd rfl h)
  · rw [hx] at hrx
    generalize hq : r x = u at hrx
    cases hrx
    exact main _ 0 0 hq (fun h => by cases h) (fun _ => by rw [hx]; simp)
  · rw [hx] at hrx
    generalize hq : r x = u at hrx
    cases hrx with
    | tree => exact main _ _ _ hq (fun h => by cases h) (fun _ => by rw [hx]; simp)
    | treeE => exact main _ _ _ hq (fun _ => .inr ⟨s, hx⟩) (fun _ => by rw [hx]; simp)
  · rw [hx] at hrx
    generalize hq : r x = u at hrx
    cases hrx
    exact main _ _ _ hq (fun h => by cases h) (fun _ => by rw [hx]; simp)
theorem canSlish {fr : Bool} {R : Rs} {x : IV} {s : Nat} {es : List IV} (h : CanR fr R σ x (.tree s es)) : Slish x ∧ (x = .raw (.slice none 0 0) ∨ (∃ s, x = .tree s []) → es = []) := by
  cases h with
  | nil => exact ⟨.inl rfl, fun _ => rfl⟩
  | emp => exact ⟨.inr (.inl rfl), fun _ => rfl⟩
  | pure => exact ⟨.inr (.inr (.inl ⟨_, _, rfl⟩)), fun h => by rcases h with h | ⟨_, h⟩ <;> cases h; rfl⟩
  | sl => exact ⟨.inr (.inr (.inr ⟨_, _, _, _, _, _, rfl⟩)), fun h => by rcases h with h | ⟨_, h⟩ <;> cases h⟩
end Go.Ev
namespace Go.Ev
variable {P : Program} {N : Nat} {σ σ' : St} {R R' : Rs} {φ φ' : Ph} {E : Nat → Env} {ν : List IV} {cfg : Cfg}
variable {C : Cr} {Q : IV → Prop} {K : List (List IV → Prop)} {V : SS} {d f0 : Nat} {o : Oper} {k : PV SE → SS → FIR} {L : List (LO SE)} {Γ : Gm SE}
theorem den_rws {e : SE} {z : IV} (h : (SE.rws e).den P ν = some z) : ∃ s es, e.den P ν = some (.tree s es) ∧ z = .tree s es ∧ ∀ e ∈ es, ∀ c ∈ cellsOf e, isRaw1 c = true := by
  simp only [SE.den, Option.bind_eq_some_iff] at h
  obtain ⟨y, h1, h2⟩ := h
  split at h2 <;> first | (cases h2; done) | skip
  split at h2 <;> first | (cases h2; done) | skip
  rename_i hall
  cases h2
  rw [List.all_eq_true] at hall
  exact ⟨_, _, h1, rfl, fun e he c hc => List.all_eq_true.1 (hall e he) c hc⟩
def RowNext (P : Program) (C : Cr) (Q : IV → Prop) (K : List (List IV → Prop)) (E : Nat → Env) (ν : List IV) (lv : Nat × Nat) (k : PV SE → SS → FIR) (KW : Nat → IV → St → Prop) : Prop :=
  ∀ (V1 : SS) (μ : List IV) (R1 : Rs) (φ1 : Ph) (σ1 : St) (x : IV) (pv : PV SE), J (evd P (ν ++ μ)) R1 φ1 V1.g V1.l E σ1 → V1.ln = lv → (ν ++ μ).length = V1.n → V1.ln = lv → VR (evd P (ν ++ μ)) R1 φ1 V1.l σ1 x pv → (k pv V1).sat P C Q K (ν ++ μ) → ∃ b, ∀ N, b ≤ N → KW N x σ1
theorem rowCall_ok (hC : CrOk P C) (hJ : J (evd P ν) R φ V.g V.l E σ) (hn : ν.length = V.n) {g : FuncId} {j : Nat} {zs : List SE} {x : IV} {xs ys : List IV} (hx : VRc (evd P ν) R φ V.l σ x (.sr j))
    (hz : All2 (fun (z : SE) y => z.den P ν = some y) zs ys) (hxs : All2 CanP xs ys) (hs : (rowCall P g zs j V k).sat P C Q K ν) {KW : Nat → IV → St → Prop} (hk : RowNext P C Q K E ν V.ln k KW) :
    ∃ b, ∀ N, b ≤ N → CallW P N g (x :: xs) σ (KW N) := by
  unfold rowCall at hs
  split at hs <;> first | (exact hs.elim) | skip
  rename_i s fr es hj
  obtain ⟨⟨_, hr⟩, us, z, h1, h2, h3⟩ := hs
  obtain ⟨s1, es1, h4, _, hraw⟩ := den_rws hr
  have hus : us = .tree s1 es1 :: ys := by
    have : All2 (fun (z : SE) y => z.den P ν = some y) (es :: zs) (.tree s1 es1 :: ys) := ⟨h4, hz⟩
    unfold denL at h1
    rw [acs_den this] at h1
    cases h1; rfl
  subst hus
  obtain ⟨s2, e2, xs2, es', g1, rfl, hrc⟩ := (hC _ _ _ _ h2).2 g rfl
  simp only [List.cons.injEq, IV.tree.injEq] at g1
  obtain ⟨⟨rfl, rfl⟩, rfl⟩ := g1
  obtain ⟨_, es0, k1, _, _⟩ := hJ.obj j _ hj
  have k1' : es.den P ν = some (.tree s es0) := k1
  rw [h4] at k1'; cases k1'
  have hJ1 := hJ.up (ev' := evd P (ν ++ [.tree s es'])) (fun e y h => SE.den_app P e h)
  have hb1 : VRc (evd P (ν ++ [.tree s es'])) R φ V.l σ x (.sr j) := by
    have hbv : VR (evd P ν) R φ V.l σ x (.one (.sr j)) := hx
    exact VR.up hJ hbv (fun e z h => SE.den_app P e h)
  have hJ2 := hJ1.dropK j
  have hjd : (V.l.map (LO.drop j))[j]? = some (.row s false false fr es) := by simp [List.getElem?_map, hj, LO.drop]
  have hb2 : VRc (evd P (ν ++ [.tree s es'])) R φ (V.l.map (LO.drop j)) σ x (.sr j) := hb1.step (chg_drop hJ1 j) (Cl.ok_false _)
  have hvar : (SE.var V.n).den P (ν ++ [.tree s es']) = some (.tree s es') := by simp [SE.den, ← hn]
  refine rcall_row hJ2 hjd (SE.den_app P es h4) hvar hraw hb2 hxs (fun d t pv hg => gget_gdrop hg) (fun i o hi hne => by
    rw [List.getElem?_map] at hi
    obtain ⟨o', _, rfl⟩ := Option.map_eq_some_iff.1 hi
    exact o'.drop_ok j) hrc KW fun R' φ' σ' v a b => ?_
  exact hk ((({ V with n := V.n + 1 } : SS).dropRow j).setObj j (.row s false false false (.var V.n))) [.tree s es'] R' φ' σ' v (.one (.sr j)) a rfl (by simp [hn, SS.dropRow, SS.setObj]) rfl b h3
theorem rowS_ok {KW : Nat → IV → St → Prop} (hC : CrOk P C) (hJ : J (evd P ν) R φ V.g V.l E σ) (hn : ν.length = V.n) {g : FuncId} {pvs : List (PV SE)} {xs : List IV}
    (hargs : All2 (VR (evd P ν) R φ V.l σ) xs pvs) (hs : (rowS P g pvs V k).sat P C Q K ν)
    (hk : ∀ (V1 : SS) (μ : List IV) (R1 : Rs) (φ1 : Ph) (σ1 : St) (x : IV) (pv : PV SE), J (evd P (ν ++ μ)) R1 φ1 V1.g V1.l E σ1 → V1.ln = V.ln → (ν ++ μ).length = V1.n → V1.ln = V.ln → VR (evd P (ν ++ μ)) R1 φ1 V1.l σ1 x pv → (k pv V1).sat P C Q K (ν ++ μ) → ∃ b, ∀ N, b ≤ N → KW N x σ1) :
    ∃ b, ∀ N, b ≤ N → CallW P N g xs σ (KW N) := by
  unfold rowS at hs
  split at hs <;> first | (exact hs.elim) | skip
  rename_i c rest
  split at hs <;> first | (exact hs.elim) | skip
  rename_i zs V' hr
  split at hs
  · exact hs.elim
  rename_i hp
  have hp' : rest.all plainPV = true := by simpa using hp
  cases xs with
  | nil => exact hargs.elim
  | cons x xs =>
    obtain ⟨_, hpl⟩ := argR_plain (P := P) (ν := ν) (R := R) (φ := φ) (σ := σ) hr hp'
    obtain ⟨ys, c1, c2⟩ := hpl hargs.2
    split at hs <;> first | (exact hs.elim) | skip
    · exact rowCall_ok hC hJ hn hargs.1 c1 c2 hs hk
    · rename_i b s
      have hx := hargs.1
      unfold newObj at hs
      obtain ⟨hs0, hx0⟩ := hx
      have hz0 : (SE.tr s SE.an).den P ν = some (.tree s []) := by simp [SE.den, hs0]
      obtain ⟨_, hJ2⟩ := hJ.addNone (fr := false) hs0 hz0
      have hlast : (V.l ++ [LO.row s false false false (SE.tr s SE.an)])[V.l.length]? = some (.row s false false false (SE.tr s SE.an)) := by simp
      exact rowCall_ok (V := { V with l := V.l ++ [.row s false false false (.tr s .an)] }) hC hJ2 hn (x := x) ⟨s, false, false, false, _, [], hlast, hz0, .inl ⟨φ_none hJ (Nat.le_refl _), rfl, by subst hx0; cases b <;> simp⟩⟩ c1 c2 hs hk
end Go.Ev
namespace Go.Ev
variable {P : Program} {N : Nat} {σ σ' : St} {R R' : Rs} {φ φ' : Ph} {E : Nat → Env} {ν : List IV} {ro : Nat} {ι : Io} {w : World} {cfg : Cfg} {self : Exec}
variable {C : Cr} {Q : IV → Prop} {K : List (List IV → Prop)} {V : SS} {d f0 : Nat} {o : Oper} {k : PV SE → SS → FIR} {L : List (LO SE)} {Γ : Gm SE} {rd : Option Nat} {df : List Df}
variable {sk : List Nat} {ops : Array Oper} {l : List Oper} {kk : SS → FIR} {CX : Nat → Outs}
theorem ln_lv {V V1 : SS} (h : V1.ln = V.ln) : V1.lv = V.lv ∧ V1.nt = V.nt := by
  simp only [SS.ln, Prod.mk.injEq] at h; exact h
theorem opAny0_ok (hC : CrOk P C) (hself : SelfW P C Q self) (ih : RestOk P C Q cfg self d f0 ops rd df kk CX sk l) (hJ : J (evd P ν) R φ V.g V.l E σ) (hn : ν.length = V.n) (hK : K.length = V.lv) (hnt : (E d).n = V.nt)
    (hd : ∀ t, o.dst = some t → t < (E d).n) (hsk : ∀ x, SkOk ((E d).put o.dst x) sk) (hks : KS P C Q d E K ν V.nt kk (fun N e σ => CX N .normal e σ)) (hw : wantedI o ops (E d) = true)
    (hs : (opAny0 P cfg self d f0 false o V fun pv V => opsS P cfg self d f0 false ops sk l (V.setSlot d o.dst pv) kk).sat P C Q K ν) :
    ∃ b, ∀ N, b ≤ N → OpsW P N rd ops (o :: l) (E d) df σ (CX N) := by
  have viaOp : (opS P d o V fun pv V => opsS P cfg self d f0 false ops sk l (V.setSlot d o.dst pv) kk).sat P C Q K ν → ∃ b, ∀ N, b ≤ N → OpsW P N rd ops (o :: l) (E d) df σ (CX N) := by
    intro hs
    obtain ⟨x, σ1, R1, φ1, pv, V1, μ, h1, h2, h3, h4, h5, h6⟩ := opS_ok hJ hn hs
    obtain ⟨b, hb⟩ := restOk_next ih hsk hd hnt hks h2 h4 (List.prefix_refl K) (by rw [(ln_lv h5).1]; exact hK) (ln_lv h5).2 (fun _ _ => rfl) rfl h3 h6
    exact ⟨max b σ1.n, fun N hN => .val hw h1 (by omega) (hb N (by omega))⟩
  unfold opAny0 at hs
  split at hs
  · rename_i c ho
    unfold callS at hs
    split at hs
    · exact viaOp hs
    · rename_i f hc
      split at hs <;> first | (exact hs.elim) | skip
      rename_i g bs hf
      simp only at hs
      split at hs
      · rename_i hp
        simp only [Bool.and_eq_true, List.isEmpty_iff] at hp
        have hbs := hp.1
        subst hbs
        split at hs <;> first | (exact hs.elim) | skip
        rename_i fn hfn
        split at hs <;> first | (exact hs.elim) | skip
        rename_i hcond
        simp only [Bool.and_eq_true] at hcond
        have hfv := opd_ok hJ d 0 f
        rw [hf] at hfv
        have hargs := argsS_ok hJ d c.args.toList c.argTypes.toList
        obtain ⟨ys, hcal, hys⟩ := xcallee_ok (args := c.args.toList.map (evalI (E d))) hfv hfn hcond.1.2 hcond.2
        have hys0 : ys = [] := by
          cases ys with
          | nil => rfl
          | cons => exact hys.elim
        subst hys0
        rw [List.append_nil] at hcal
        have hev : evOp P 0 (evalI (E d)) o σ = some (.enter g (c.args.toList.map (evalI (E d)))) := by
          simp only [evOp, ho, hc]; exact hcal
        obtain ⟨b, hb⟩ := rowS_ok (KW := fun N v σ1 => σ1.n ≤ N ∧ OpsW P N rd ops l ((E d).put o.dst v) df σ1 (CX N)) hC hJ hn hargs hs (by
          intro V1 μ R1 φ1 σ1 x pv h2 h4 hlen h5 hx h6
          obtain ⟨b, hb⟩ := restOk_next ih hsk hd hnt hks h2 hlen (List.prefix_refl K) (by rw [(ln_lv h5).1]; exact hK) (ln_lv h5).2 (fun _ _ => rfl) rfl hx h6
          exact ⟨max b σ1.n, fun N hN => ⟨by omega, hb N (by omega)⟩⟩)
        exact ⟨b, fun N hN => .call hw hev (hb N hN) fun v σ1 hv => hv⟩
      split at hs
      · rename_i hp
        simp only [Bool.and_eq_true, List.isEmpty_iff] at hp
        have hbs := hp.1
        subst hbs
        split at hs <;> first | (exact hs.elim) | skip
        rename_i zs V' fn hr hfn
        split at hs <;> first | (exact hs.elim) | skip
        rename_i hcond
        simp only [Bool.and_eq_true] at hcond
        obtain ⟨g', args, z, R1, pv, V1, μ, h1, h2, h3, h4, h5, h6, h7⟩ := callC_ok hC hJ hn ho hc hf hr hfn hcond.1.2 hcond.2 hcond.1.1 hs
        obtain ⟨b, hb⟩ := restOk_next ih hsk hd hnt hks h3 h5 (List.prefix_refl K) (by rw [(ln_lv h6).1]; exact hK) (ln_lv h6).2 (fun _ _ => rfl) rfl h4 h7
        refine ⟨max b σ.n, fun N hN => .call hw h1 (CallW.ofS (h2 0) (by omega)) fun v σ1 hv => ?_⟩
        obtain ⟨rfl, rfl⟩ := hv
        exact ⟨by omega, hb N (by omega)⟩
      · split at hs
        · exact hs.elim
        · have hfv := opd_ok hJ d 0 f
          rw [hf] at hfv
          have hargs := argsS_ok hJ d c.args.toList c.argTypes.toList
          have hfn : ∃ fn, P.funcs[g]? = some fn ∧ fn.body.isSome = true ∧ (fn.name != "runtime.NumGoroutine") = true := by
            unfold inlineS at hs
            split at hs <;> first | (exact hs.elim) | skip
            rename_i fn hfn
            split at hs <;> first | (exact hs.elim) | skip
            rename_i body hb
            split at hs <;> first | (exact hs.elim) | skip
            split at hs <;> first | (exact hs.elim) | skip
            rename_i hcc
            simp only [Bool.and_eq_true] at hcc
            exact ⟨fn, hfn, by simp [hb], hcc.2⟩
          obtain ⟨fn, hfn, hb, hname⟩ := hfn
          obtain ⟨ys, hcal, hys⟩ := xcallee_ok (args := c.args.toList.map (evalI (E d))) hfv hfn hb hname
          have hev : evOp P 0 (evalI (E d)) o σ = some (.enter g (c.args.toList.map (evalI (E d)) ++ ys)) := by
            simp only [evOp, ho, hc]; exact hcal
          obtain ⟨_, _, _, _, b, hcw⟩ := inlineS_ok (RW := fun N v σ1 => σ1.n ≤ N ∧ OpsW P N rd ops l ((E d).put o.dst v) df σ1 (CX N)) hself hJ hn hK hnt (hargs.app hys) hs (by
            intro pv V' μ K' R' φ' E' σ' v hF hEd hv hs'
            obtain ⟨b, hb⟩ := restOk_next ih hsk hd hnt hks hF.hJ hF.hn hF.hK hF.hlv hF.hnt hF.hE hEd hv hs'
            exact ⟨max b σ'.n, fun N hN => ⟨by omega, by omega, hb N (by omega)⟩⟩)
          exact ⟨b, fun N hN => .call hw hev (hcw N hN) fun v σ1 hv => hv⟩
    · exact hs.elim
  · exact viaOp hs
theorem nilOf_ok {e0 : Bool} {c : Cl SE} (h : nilOf P d o V = some (e0, c)) : ∃ op t x yt el, o.op = .binOp op t x (.const (.slice none 0 0)) yt ∧ P.underlying t = some (.slice el) ∧ opdS P d V t x = .one c ∧ ((op = .eql ∧ e0 = true) ∨ (op = .neq ∧ e0 = false)) := by
  unfold nilOf at h
  split at h <;> first | (cases h; done) | skip
  rename_i op t x y yt ho
  split at h <;> first | (cases h; done) | skip
  rename_i el c' hu hx
  split at h <;> first | (cases h; done) | skip
  · cases h; exact ⟨_, t, x, yt, el, ho, hu, hx, .inl ⟨rfl, rfl⟩⟩
  · cases h; exact ⟨_, t, x, yt, el, ho, hu, hx, .inr ⟨rfl, rfl⟩⟩
theorem opAny_ok (hC : CrOk P C) (hself : SelfW P C Q self) (ih : RestOk P C Q cfg self d f0 ops rd df kk CX sk l) (hJ : J (evd P ν) R φ V.g V.l E σ) (hn : ν.length = V.n) (hK : K.length = V.lv) (hnt : (E d).n = V.nt)
    (hd : ∀ t, o.dst = some t → t < (E d).n) (hsk : ∀ x, SkOk ((E d).put o.dst x) sk) (hks : KS P C Q d E K ν V.nt kk (fun N e σ => CX N .normal e σ)) (hw : wantedI o ops (E d) = true)
    (hs : (opAny P cfg self d f0 false o V fun pv V => opsS P cfg self d f0 false ops sk l (V.setSlot d o.dst pv) kk).sat P C Q K ν) :
    ∃ b, ∀ N, b ≤ N → OpsW P N rd ops (o :: l) (E d) df σ (CX N) := by
  unfold opAny at hs
  simp only [Bool.false_eq_true, if_false] at hs
  split at hs
  · rename_i e0 c hno
    obtain ⟨op, t, x, yt, el, ho, hu, hx, hop⟩ := nilOf_ok hno
    have hxv := opd_ok hJ d t x
    rw [hx] at hxv
    have next : ∀ b : Bool, (opsS P cfg self d f0 false ops sk l (V.setSlot d o.dst (.one (.v (.b b)))) kk).sat P C Q K ν → ∃ B, ∀ N, B ≤ N → OpsW P N rd ops l ((E d).put o.dst (.raw (.bool b))) df σ (CX N) := fun b h => by
      have := restOk_next (V1 := V) (μ := []) (x := .raw (.bool b)) (pv := .one (.v (.b b))) ih hsk hd hnt hks (by rw [List.append_nil]; exact hJ) (by rw [List.append_nil]; exact hn) (List.prefix_refl K) hK rfl (fun _ _ => rfl) rfl (by rw [List.append_nil]; exact ⟨.raw (.bool b), rfl, .raw _, rfl⟩) (by rw [List.append_nil]; exact h)
      exact this
    have two : ∀ z q es, z.den P ν = some (.tree q es) → Slish (evalI (E d) x) → (evalI (E d) x = .raw (.slice none 0 0) ∨ (∃ s, evalI (E d) x = .tree s []) → es = []) → (FIR.two z (opsS P cfg self d f0 false ops sk l (V.setSlot d o.dst (.one (.v (.b e0)))) kk) (opsS P cfg self d f0 false ops sk l (V.setSlot d o.dst (.one (.v (.b (!e0))))) kk)).sat P C Q K ν →
        ∃ b, ∀ N, b ≤ N → OpsW P N rd ops (o :: l) (E d) df σ (CX N) := by
      intro z q es hz hsl hes hs2
      obtain ⟨q', es', h1, h2, h3⟩ := hs2
      rw [hz] at h1; cases h1
      obtain ⟨B1, hB1⟩ := next _ h2
      by_cases he : es = []
      · obtain ⟨B2, hB2⟩ := next _ (h3 he)
        exact ⟨max σ.n (max B1 B2), fun N hN => .isNil hw (by omega) ho hop hu hsl (fun _ => hB1 N (by omega)) (fun _ => hB2 N (by omega))⟩
      · exact ⟨max σ.n B1, fun N hN => .isNil hw (by omega) ho hop hu hsl (fun _ => hB1 N (by omega)) (fun h => absurd (hes h) he)⟩
    unfold nilS at hs
    split at hs <;> first | (exact hs.elim) | skip
    · obtain ⟨y, h1, h2, _⟩ := hxv
      obtain ⟨q, es, h3, hs'⟩ := hs
      have h1' := h3.symm.trans h1
      cases h1'
      obtain ⟨g1, g2⟩ := canSlish h2
      exact two _ q es h3 g1 g2 ⟨q, es, h3, hs'⟩
    · obtain ⟨y, h1, h2, _⟩ := hxv
      obtain ⟨q, es, h3, hs'⟩ := hs
      have h1' := h3.symm.trans h1
      cases h1'
      obtain ⟨g1, g2⟩ := canSlish h2
      exact two _ q es h3 g1 g2 ⟨q, es, h3, hs'⟩
    · rename_i b s
      obtain ⟨_, h1⟩ := hxv
      obtain ⟨B, hB⟩ := next _ hs
      cases b with
      | true =>
        simp only [if_true] at h1 hB
        exact ⟨max σ.n B, fun N hN => .isNil hw (by omega) ho hop hu (.inl h1) (fun h => absurd h1 h) (fun _ => hB N (by omega))⟩
      | false =>
        simp only [Bool.false_eq_true, if_false] at h1 hB
        exact ⟨max σ.n B, fun N hN => .isNil hw (by omega) ho hop hu (.inr (.inl h1)) (fun _ => hB N (by omega)) (fun h => by rw [h1] at h; rcases h with h | ⟨_, h⟩ <;> cases h)⟩
    · rename_i j
      split at hs <;> first | (exact hs.elim) | skip
      rename_i s0 st0 cut0 fr0 es0 hj
      obtain ⟨s1, st1, cut1, fr1, z1, es1, b1, b2, b3⟩ := hxv
      rw [hj] at b1; cases b1
      have b2' : es0.den P ν = some (.tree s0 es1) := b2
      refine two _ s0 es1 b2' ?_ ?_ hs
      · rcases b3 with ⟨_, _, b3 | b3⟩ | ⟨_, _, _, _, _, _, _, b3, _⟩
        · exact .inl b3
        · exact .inr (.inl b3)
        · exact .inr (.inr (.inr ⟨_, _, _, _, _, _, b3⟩))
      · intro h
        rcases b3 with ⟨_, b4, _⟩ | ⟨_, _, _, _, _, _, _, b3, _⟩
        · exact List.eq_nil_of_length_eq_zero b4
        · rw [b3] at h
          rcases h with h | ⟨_, h⟩ <;> cases h
  · exact opAny0_ok hC hself ih hJ hn hK hnt hd hsk hks hw hs
theorem opsW_ok (hC : CrOk P C) (hself : SelfW P C Q self) : ∀ (l : List Oper) (sk : List Nat), RestOk P C Q cfg self d f0 ops rd df kk CX sk l
  | [], sk => by
    intro V ν K R φ E σ _ hs hJ hn hK hnt hks
    obtain ⟨b, hb⟩ := hks.now hJ hn hK hs
    exact ⟨b, fun N hN => .nil (hb N hN).2⟩
  | o :: l, sk => by
    intro V ν K R φ E σ hsk0 hs hJ hn hK hnt hks
    have ih : ∀ sk, RestOk P C Q cfg self d f0 ops rd df kk CX sk l := fun sk => opsW_ok hC hself l sk
    simp only [opsS] at hs
    have hd0 : ∀ t, o.dst = some t → t < V.nt := by
      intro t ht
      rw [ht] at hs
      by_cases hlt : t < V.nt
      · exact hlt
      · have : Nat.blt t V.nt = false := by
          cases h : Nat.blt t V.nt
          · rfl
          · exact absurd (by simpa using h) hlt
        simp only [this, Bool.not_false, if_true] at hs
        exact hs.elim
    rw [if_neg] at hs
    rotate_left
    · cases hh : o.dst with
      | none => simp
      | some t => simp [hd0 t hh]
    · have hd : ∀ t, o.dst = some t → t < (E d).n := by rw [hnt]; exact hd0
      -- An operation that runs.
      have hrun : ∀ (V1 : SS), J (evd P ν) R φ V1.g V1.l E σ → V1.n = V.n → V1.ln = V.ln → wantedI o ops (E d) = true →
          (match joinOf P cfg d false o V1 with
            | some (g, args) => joinS P cfg self d f0 o.dst g args V1 fun V => opsS P cfg self d f0 false ops (delSk sk o.dst) l V kk
            | none => opAny P cfg self d f0 false o V1 fun pv V => opsS P cfg self d f0 false ops (delSk sk o.dst) l (V.setSlot d o.dst pv) kk).sat P C Q K ν → ∃ b, ∀ N, b ≤ N → OpsW P N rd ops (o :: l) (E d) df σ (CX N) := by
        intro V1 hJ1 hn1 hln hw hs1
        obtain ⟨hlv, hnt1⟩ := ln_lv hln
        split at hs1
        · rename_i g pvs hj
          obtain ⟨c, f, bs, ho, hc, hf, rfl⟩ := joinOf_ok hj
          have hfv := opd_ok hJ1 d 0 f
          rw [hf] at hfv
          have hargs := argsS_ok hJ1 d c.args.toList c.argTypes.toList
          have hfn : ∃ fn, P.funcs[g]? = some fn ∧ fn.body.isSome = true ∧ (fn.name != "runtime.NumGoroutine") = true := by
            by_cases hh : ∃ fn, P.funcs[g]? = some fn ∧ fn.body.isSome = true ∧ (fn.name != "runtime.NumGoroutine") = true
            · exact hh
            · exfalso
              unfold joinS at hs1
              simp only at hs1
              split at hs1
              · exact hs1
              · rename_i hfb
                unfold inlineS at hfb
                split at hfb <;> first | (cases hfb; done) | skip
                rename_i fn hfn
                split at hfb <;> first | (cases hfb; done) | skip
                rename_i body hb
                split at hfb <;> first | (cases hfb; done) | skip
                split at hfb <;> first | (cases hfb; done) | skip
                rename_i hcc
                simp only [Bool.and_eq_true] at hcc
                exact hh ⟨fn, hfn, by simp [hb], hcc.2⟩
          obtain ⟨fn, hfn, hb, hname⟩ := hfn
          obtain ⟨ys, hcal, hys⟩ := xcallee_ok (args := c.args.toList.map (evalI (E d))) hfv hfn hb hname
          have hev : evOp P 0 (evalI (E d)) o σ = some (.enter g (c.args.toList.map (evalI (E d)) ++ ys)) := by
            simp only [evOp, ho, hc]; exact hcal
          obtain ⟨_, _, _, _, b, hcw⟩ := joinS_ok (RW := fun N v σ1 => σ1.n ≤ N ∧ OpsW P N rd ops l ((E d).put o.dst v) df σ1 (CX N)) hself hJ1 (by rw [hn1]; exact hn) (by rw [hlv]; exact hK) (by rw [hnt1]; exact hnt) (hargs.app hys) hd hs1 (by
            intro H vs R' φ' E' σ' v hJ' hn' hlv' hnt' hE' hEd' hs'
            obtain ⟨b, hb⟩ := ih (delSk sk o.dst) H (ν ++ vs) K R' φ' E' σ' (by rw [hEd']; exact hsk0.put o.dst _) hs' hJ' hn' (by rw [hlv', hlv]; exact hK) (by rw [hEd', put_n, hnt', hnt1]; exact hnt) (by
              rw [hnt', hnt1]
              exact hks.fwd (List.prefix_refl K) hE' (by rw [hEd', put_n]))
            refine ⟨max b σ'.n, fun N hN => ⟨by omega, by omega, ?_⟩⟩
            have := hb N (by omega)
            rw [hEd'] at this
            exact this)
          exact ⟨b, fun N hN => .call hw hev (hcw N hN) fun v σ1 hv => hv⟩
        · exact opAny_ok hC hself (ih (delSk sk o.dst)) hJ1 (by rw [hn1]; exact hn) (by rw [hlv]; exact hK) (by rw [hnt1]; exact hnt) hd (fun x => hsk0.put o.dst x) (by rw [hnt1]; exact hks) hw hs1
      have hskip : ∀ (V1 : SS), J (evd P ν) R φ V1.g V1.l E σ → V1.n = V.n → V1.ln = V.ln → wantedI o ops (E d) = false →
          (opsS P cfg self d f0 false ops (addSk sk o.dst) l (V1.delSlot d o.dst) kk).sat P C Q K ν → ∃ b, ∀ N, b ≤ N → OpsW P N rd ops (o :: l) (E d) df σ (CX N) := by
        intro V1 hJ1 hn1 hln hw hs1
        have hln2 : (V1.delSlot d o.dst).ln = V.ln := by rw [delSlot_ln, hln]
        obtain ⟨hlv, hnt1⟩ := ln_lv hln2
        obtain ⟨b, hb⟩ := ih (addSk sk o.dst) (V1.delSlot d o.dst) ν K R φ _ σ (by rw [setE_same]; exact hsk0.add hd) hs1 (delSlot_ok (x := .undef) hJ1) (by rw [delSlot_n, hn1]; exact hn) (by rw [hlv]; exact hK) (by rw [setE_same, put_n, hnt1]; exact hnt) (by
          rw [hnt1]
          have := hks.fwd (μ1 := []) (E1 := setE E d ((E d).put o.dst .undef)) (List.prefix_refl K) (fun j hj => setE_lt _ _ _ (by omega)) (by rw [setE_same, put_n])
          rw [List.append_nil] at this
          exact this)
        refine ⟨b, fun N hN => .skip hw ?_⟩
        have := hb N hN
        rw [setE_same] at this
        exact this
      obtain ⟨w1, w2, w3⟩ := wantS_ok (o := o) hJ hnt (ops := ops)
      have w2' : (if skipped sk ops o = true then Want.skip else wantS ops d V o) = .skip → wantedI o ops (E d) = false := fun h => by
        by_cases hq : skipped sk ops o = true
        · exact hsk0.skips hq
        · rw [if_neg hq] at h; exact w2 h
      have w0 : ∀ w, w ≠ .skip → (if skipped sk ops o = true then Want.skip else wantS ops d V o) = w → wantS ops d V o = w := fun w hw h => by
        by_cases hq : skipped sk ops o = true
        · rw [if_pos hq] at h; exact absurd h.symm hw
        · rw [if_neg hq] at h; exact h
      split at hs
      · rename_i hh; exact hrun V hJ rfl rfl (w1 (w0 _ (by simp) hh)) hs
      · rename_i hh; exact hskip V hJ rfl rfl (w2' hh) hs
      · rename_i t e want hh
        replace hh := w0 _ (by simp) hh
        obtain ⟨hg, hb⟩ := w3 _ _ _ hh
        rcases hs with ⟨h1, hs⟩ | ⟨h1, hs⟩
        · obtain ⟨hat, hJ1⟩ := J.refine hJ hg h1
          have hw := hb _ hat
          cases want
          · exact hskip _ hJ1 rfl rfl (by rw [hw]; rfl) hs
          · exact hrun _ hJ1 rfl rfl (by rw [hw]; rfl) hs
        · obtain ⟨hat, hJ1⟩ := J.refine hJ hg h1
          have hw := hb _ hat
          cases want
          · exact hrun _ hJ1 rfl rfl (by rw [hw]; rfl) hs
          · exact hskip _ hJ1 rfl rfl (by rw [hw]; rfl) hs
      · exact hs.elim
end Go.Ev
namespace Go.Ev
variable {P : Program} {N : Nat} {σ σ' : St} {R R' : Rs} {φ φ' : Ph} {E : Nat → Env} {ν : List IV} {ro : Nat} {ι : Io} {w : World} {cfg : Cfg} {self : Exec}
variable {C : Cr} {Q : IV → Prop} {K : List (List IV → Prop)} {V : SS} {d f0 : Nat} {o : Oper} {k : PV SE → SS → FIR} {L : List (LO SE)} {Γ : Gm SE} {rd : Option Nat} {df : List Df}
variable {sk : List Nat} {ops : Array Oper} {pl : Plan} {l : List (Oper × Nat)} {kk : SS → FIR} {CX : Nat → Outs}
def DetOk (P : Program) (C : Cr) (Q : IV → Prop) (cfg : Cfg) (self : Exec) (d f0 : Nat) (ops : Array Oper) (pl : Plan) (kk : SS → FIR) (CX : Nat → Outs) (sk : List Nat) (l : List (Oper × Nat)) : Prop :=
  ∀ (V : SS) ν K R φ E σ, SkOk (E d) sk → (opsS P cfg self d f0 true ops sk (l.map Prod.fst) V kk).sat P C Q K ν → J (evd P ν) R φ V.g V.l E σ → ν.length = V.n → K.length = V.lv → (E d).n = V.nt → KS P C Q d E K ν V.nt kk (fun N e σ => CX N .normal e σ) →
    ∃ e' σ', RunOps P 0 ops pl l (E d) σ e' σ' ∧ ∃ b, ∀ N, b ≤ N → σ'.n ≤ N ∧ CX N .normal e' σ'
theorem detOk_next (ih : DetOk P C Q cfg self d f0 ops pl kk CX sk l) {dst : Option Nat} (hsk : ∀ x, SkOk ((E d).put dst x) sk) (hd : ∀ t, dst = some t → t < (E d).n) {nt : Nat} (hnt : (E d).n = nt) (hks : KS P C Q d E K ν nt kk (fun N e σ => CX N .normal e σ))
    {V1 : SS} {μ : List IV} {R1 : Rs} {φ1 : Ph} {σ1 : St} {x : IV} {pv : PV SE}
    (hJ : J (evd P (ν ++ μ)) R1 φ1 V1.g V1.l E σ1) (hn : (ν ++ μ).length = V1.n) (hlv : K.length = V1.lv) (hnt1 : V1.nt = nt)
    (hx : VR (evd P (ν ++ μ)) R1 φ1 V1.l σ1 x pv) (hs : (opsS P cfg self d f0 true ops sk (l.map Prod.fst) (V1.setSlot d dst pv) kk).sat P C Q K (ν ++ μ)) :
    ∃ e' σ', RunOps P 0 ops pl l ((E d).put dst x) σ1 e' σ' ∧ ∃ b, ∀ N, b ≤ N → σ'.n ≤ N ∧ CX N .normal e' σ' := by
  have hJ1 := setSlot_ok (d := d) (dst := dst) hJ hx hd
  have hnt2 : (V1.setSlot d dst pv).nt = nt := by cases dst <;> exact hnt1
  have hlv2 : (V1.setSlot d dst pv).lv = V1.lv := by cases dst <;> rfl
  have := ih (V1.setSlot d dst pv) (ν ++ μ) K R1 φ1 _ σ1 (by rw [setE_same]; exact hsk x) hs hJ1 (by rw [setSlot_n]; exact hn) (by rw [hlv2]; exact hlv) (by rw [setE_same, put_n, hnt, hnt2]) (by
    rw [hnt2]
    exact hks.fwd (List.prefix_refl K) (fun j hj => by rw [setE_lt _ _ _ (by omega)]) (by rw [setE_same, put_n]))
  rw [setE_same] at this
  exact this
theorem opDet_ok {j : Nat} (hC : CrOk P C) (ih : DetOk P C Q cfg self d f0 ops pl kk CX sk l) (hJ : J (evd P ν) R φ V.g V.l E σ) (hn : ν.length = V.n) (hK : K.length = V.lv) (hnt : (E d).n = V.nt)
    (hd : ∀ t, o.dst = some t → t < (E d).n) (hsk : ∀ x, SkOk ((E d).put o.dst x) sk) (hks : KS P C Q d E K ν V.nt kk (fun N e σ => CX N .normal e σ)) (hw : wantedI o ops (E d) = true)
    (hs : (opAny P cfg self d f0 true o V fun pv V => opsS P cfg self d f0 true ops sk (l.map Prod.fst) (V.setSlot d o.dst pv) kk).sat P C Q K ν) :
    ∃ e' σ', RunOps P 0 ops pl ((o, j) :: l) (E d) σ e' σ' ∧ ∃ b, ∀ N, b ≤ N → σ'.n ≤ N ∧ CX N .normal e' σ' := by
  have viaOp : (opS P d o V fun pv V => opsS P cfg self d f0 true ops sk (l.map Prod.fst) (V.setSlot d o.dst pv) kk).sat P C Q K ν → ∃ e' σ', RunOps P 0 ops pl ((o, j) :: l) (E d) σ e' σ' ∧ ∃ b, ∀ N, b ≤ N → σ'.n ≤ N ∧ CX N .normal e' σ' := by
    intro hs
    obtain ⟨x, σ1, R1, φ1, pv, V1, μ, h1, h2, h3, h4, h5, h6⟩ := opS_ok hJ hn hs
    obtain ⟨e', σ', g1, g2⟩ := detOk_next ih hsk hd hnt hks h2 h4 (by rw [(ln_lv h5).1]; exact hK) (ln_lv h5).2 h3 h6
    exact ⟨e', σ', .val hw h1 g1, g2⟩
  unfold opAny at hs
  simp only [if_true] at hs
  unfold opAny0 at hs
  split at hs
  · rename_i c ho
    unfold callS at hs
    split at hs
    · exact viaOp hs
    · rename_i f hc
      split at hs <;> first | (exact hs.elim) | skip
      rename_i g bs hf
      simp only at hs
      split at hs
      · split at hs <;> exact hs.elim
      split at hs
      · rename_i hp
        simp only [Bool.and_eq_true, List.isEmpty_iff] at hp
        have hbs := hp.1
        subst hbs
        split at hs <;> first | (exact hs.elim) | skip
        rename_i zs V' fn hr hfn
        split at hs <;> first | (exact hs.elim) | skip
        rename_i hcond
        simp only [Bool.and_eq_true] at hcond
        obtain ⟨g', args, z, R1, pv, V1, μ, h1, h2, h3, h4, h5, h6, h7⟩ := callC_ok hC hJ hn ho hc hf hr hfn hcond.1.2 hcond.2 hcond.1.1 hs
        obtain ⟨e', σ', g1, g2⟩ := detOk_next ih hsk hd hnt hks h3 h5 (by rw [(ln_lv h6).1]; exact hK) (ln_lv h6).2 h4 h7
        exact ⟨e', σ', .pcall hw h1 h2 g1, g2⟩
      · exact hs.elim
    · exact hs.elim
  · exact viaOp hs
theorem opsDet_ok (hC : CrOk P C) : ∀ (l : List (Oper × Nat)) (sk : List Nat), DetOk P C Q cfg self d f0 ops pl kk CX sk l
  | [], sk => by
    intro V ν K R φ E σ _ hs hJ hn hK hnt hks
    exact ⟨E d, σ, .nil _ _, hks.now hJ hn hK hs⟩
  | (o, j) :: l, sk => by
    intro V ν K R φ E σ hsk0 hs hJ hn hK hnt hks
    have ih : ∀ sk, DetOk P C Q cfg self d f0 ops pl kk CX sk l := fun sk => opsDet_ok hC l sk
    simp only [List.map_cons, opsS] at hs
    have hd0 : ∀ t, o.dst = some t → t < V.nt := by
      intro t ht
      rw [ht] at hs
      by_cases hlt : t < V.nt
      · exact hlt
      · have : Nat.blt t V.nt = false := by
          cases h : Nat.blt t V.nt
          · rfl
          · exact absurd (by simpa using h) hlt
        simp only [this, Bool.not_false, if_true] at hs
        exact hs.elim
    rw [if_neg] at hs
    rotate_left
    · cases hh : o.dst with
      | none => simp
      | some t => simp [hd0 t hh]
    · have hd : ∀ t, o.dst = some t → t < (E d).n := by rw [hnt]; exact hd0
      have hrun : ∀ (V1 : SS), J (evd P ν) R φ V1.g V1.l E σ → V1.n = V.n → V1.ln = V.ln → wantedI o ops (E d) = true →
          (match joinOf P cfg d true o V1 with
            | some (g, args) => joinS P cfg self d f0 o.dst g args V1 fun V => opsS P cfg self d f0 true ops (delSk sk o.dst) (l.map Prod.fst) V kk
            | none => opAny P cfg self d f0 true o V1 fun pv V => opsS P cfg self d f0 true ops (delSk sk o.dst) (l.map Prod.fst) (V.setSlot d o.dst pv) kk).sat P C Q K ν →
          ∃ e' σ', RunOps P 0 ops pl ((o, j) :: l) (E d) σ e' σ' ∧ ∃ b, ∀ N, b ≤ N → σ'.n ≤ N ∧ CX N .normal e' σ' := by
        intro V1 hJ1 hn1 hln hw hs1
        obtain ⟨hlv, hnt1⟩ := ln_lv hln
        have : joinOf P cfg d true o V1 = none := by simp [joinOf]
        rw [this] at hs1
        exact opDet_ok hC (ih (delSk sk o.dst)) hJ1 (by rw [hn1]; exact hn) (by rw [hlv]; exact hK) (by rw [hnt1]; exact hnt) hd (fun x => hsk0.put o.dst x) (by rw [hnt1]; exact hks) hw hs1
      have hskip : ∀ (V1 : SS), J (evd P ν) R φ V1.g V1.l E σ → V1.n = V.n → V1.ln = V.ln → wantedI o ops (E d) = false →
          (opsS P cfg self d f0 true ops (addSk sk o.dst) (l.map Prod.fst) (V1.delSlot d o.dst) kk).sat P C Q K ν → ∃ e' σ', RunOps P 0 ops pl ((o, j) :: l) (E d) σ e' σ' ∧ ∃ b, ∀ N, b ≤ N → σ'.n ≤ N ∧ CX N .normal e' σ' := by
        intro V1 hJ1 hn1 hln hw hs1
        have hln2 : (V1.delSlot d o.dst).ln = V.ln := by rw [delSlot_ln, hln]
        obtain ⟨hlv, hnt1⟩ := ln_lv hln2
        obtain ⟨e', σ', g1, g2⟩ := ih (addSk sk o.dst) (V1.delSlot d o.dst) ν K R φ _ σ (by rw [setE_same]; exact hsk0.add hd) hs1 (delSlot_ok (x := .undef) hJ1) (by rw [delSlot_n, hn1]; exact hn) (by rw [hlv]; exact hK) (by rw [setE_same, put_n, hnt1]; exact hnt) (by
          rw [hnt1]
          have := hks.fwd (μ1 := []) (E1 := setE E d ((E d).put o.dst .undef)) (List.prefix_refl K) (fun j hj => setE_lt _ _ _ (by omega)) (by rw [setE_same, put_n])
          rw [List.append_nil] at this
          exact this)
        rw [setE_same] at g1
        exact ⟨e', σ', .skip hw g1, g2⟩
      obtain ⟨w1, w2, w3⟩ := wantS_ok (o := o) hJ hnt (ops := ops)
      have w2' : (if skipped sk ops o = true then Want.skip else wantS ops d V o) = .skip → wantedI o ops (E d) = false := fun h => by
        by_cases hq : skipped sk ops o = true
        · exact hsk0.skips hq
        · rw [if_neg hq] at h; exact w2 h
      have w0 : ∀ w, w ≠ .skip → (if skipped sk ops o = true then Want.skip else wantS ops d V o) = w → wantS ops d V o = w := fun w hw h => by
        by_cases hq : skipped sk ops o = true
        · rw [if_pos hq] at h; exact absurd h.symm hw
        · rw [if_neg hq] at h; exact h
      split at hs
      · rename_i hh; exact hrun V hJ rfl rfl (w1 (w0 _ (by simp) hh)) hs
      · rename_i hh; exact hskip V hJ rfl rfl (w2' hh) hs
      · rename_i t e want hh
        replace hh := w0 _ (by simp) hh
        obtain ⟨hg, hb⟩ := w3 _ _ _ hh
        rcases hs with ⟨h1, hs⟩ | ⟨h1, hs⟩
        · obtain ⟨hat, hJ1⟩ := J.refine hJ hg h1
          have hw := hb _ hat
          cases want
          · exact hskip _ hJ1 rfl rfl (by rw [hw]; rfl) hs
          · exact hrun _ hJ1 rfl rfl (by rw [hw]; rfl) hs
        · obtain ⟨hat, hJ1⟩ := J.refine hJ hg h1
          have hw := hb _ hat
          cases want
          · exact hrun _ hJ1 rfl rfl (by rw [hw]; rfl) hs
          · exact hskip _ hJ1 rfl rfl (by rw [hw]; rfl) hs
      · exact hs.elim
theorem trk0_ok (hJ : J (evd P ν) R φ V.g V.l E σ) (hnt : (E d).n = V.nt) : TInv σ.n (E d) (trk0 d V) := by
  refine ⟨hnt, fun t ht => ?_, fun t ht => by cases ht⟩
  unfold memB trk0 at ht
  rw [List.any_eq_true] at ht
  obtain ⟨t', ht', hb⟩ := ht
  have := Nat.eq_of_beq_eq_true hb
  subst this
  have h2 := (List.mem_filter.1 ht').2
  split at h2
  · rename_i k off ext hg
    obtain ⟨id, cs, h3, _, h5⟩ := hJ.slot d t _ hg
    exact .inl ⟨id, off, 0, ext, h5, (hJ.lt k id h3).2⟩
  · rename_i cs hg
    obtain ⟨ds, h3, _⟩ := hJ.slot d t _ hg
    exact .inr ⟨ds, h3⟩
  · cases h2
theorem drawW_ok (hmix : P.follows .mixedOrders = true) (hC : CrOk P C) {fn : FuncId} {id : Nat} (hpl : ((planOf ops).ok && (seqOk ops (planOf ops) || chkAll (planOf ops) ops.toList.zipIdx (trk0 d V))) = true) (hs : (opsS P cfg self d f0 true ops [] ops.toList V kk).sat P C Q K ν)
    (hJ : J (evd P ν) R φ V.g V.l E σ) (hn : ν.length = V.n) (hK : K.length = V.lv) (hnt : (E d).n = V.nt) (hks : KS P C Q d E K ν V.nt kk (fun N e σ => CX N .normal e σ)) :
    ∃ b, ∀ N, b ≤ N → CodeW P N rd (.region id ops true) (E d) df σ (CX N) := by
  simp only [Bool.and_eq_true, Bool.or_eq_true] at hpl
  obtain ⟨e', σ', h1, b, hb⟩ := opsDet_ok (pl := planOf ops) (CX := CX) hC ops.toList.zipIdx [] V ν K R φ E σ (SkOk.nil _) (by rw [show ops.toList.zipIdx.map (·.1) = ops.toList by simp]; exact hs) hJ hn hK hnt hks
  rcases hpl.2 with hq | hq
  · exact ⟨b, fun N hN => CodeW.ofS (fn := fn) (SCode.draw hmix hpl.1 hq hJ.wf h1) rfl (hb N hN).1 (hb N hN).2⟩
  · exact ⟨b, fun N hN => CodeW.ofS (fn := fn) (SCode.draw2 hmix hpl.1 hq (trk0_ok hJ hnt) hJ.wf h1) rfl (hb N hN).1 (hb N hN).2⟩
end Go.Ev
namespace Go.Ev
variable {P : Program} {N : Nat} {σ σ' : St} {R R' : Rs} {φ φ' : Ph} {E : Nat → Env} {ν : List IV} {ro : Nat} {ι : Io} {w : World} {cfg : Cfg} {self : Exec}
variable {C : Cr} {Q : IV → Prop} {K : List (List IV → Prop)} {V : SS} {d f0 : Nat} {o : Oper} {k : PV SE → SS → FIR} {L : List (LO SE)} {Γ : Gm SE} {rd : Option Nat} {df : List Df}
theorem exI_goto (ex : Ex2) (l : Nat) : exI ex ≠ .goto l := by cases ex <;> simp [exI]
theorem opd_tmp {t : Nat} {c : Cl SE} (hc : c ≠ .un) (h : opdS P d V 0 (.tmp t) = .one c) : gget d t V.g = some (.one c) := by
  simp only [opdS] at h
  cases hg : gget d t V.g with
  | none => rw [hg] at h; cases h; exact absurd rfl hc
  | some pv => rw [hg] at h; simpa using h
theorem KW.ks {kk : Ex2 → SS → FIR} {nt : Nat} {CW : Nat → Outs} (h : KW P C Q d E K ν nt kk CW) : KS P C Q d E K ν nt (kk .normal) (fun N e σ => CW N .normal e σ) :=
  fun V' μ K' R' φ' E' σ' hf hs => h .normal V' μ K' R' φ' E' σ' hf hs
theorem rounds_ok {a : Code} {k : Ex2 → SS → FIR} {CW : Nat → Outs} {H : SS} {n mm f : Nat} {ws : List (Nat × Nat × Nat)} {bad : SS → FIR} {lv : Nat} (hKl : K.length = lv) (hself : SelfW P C Q self) (hbad : ∀ W K ν, ¬ (bad W).sat P C Q K ν)
    (hK : K.length + 1 = H.lv) (hHn : H.n = n + mm) (hn : ν.length = n) (hkw : KW P C Q d E K ν H.nt k CW) : ∀ (m : Nat) {vs : List IV} {R : Rs} {φ : Ph} {E1 : Nat → Env} {σ : St}, J (evd P (ν ++ vs)) R φ H.g H.l E1 σ → vs.length = mm → (∀ j, j < d → E1 j = E j) → (E1 d).n = (E d).n → (E d).n = H.nt →
      (Nat.rec (motive := fun _ => List IV → Prop) (fun _ => False) (fun _ ih vs => (self d f a H fun ex W => match ex with
        | .normal => match inst n mm H (settle ws W) with
          | some (args, _) => .next lv (acs args)
          | none => bad W
        | ex => k ex W).sat P C Q (K ++ [ih]) (ν ++ vs)) m) vs → ∃ b, ∀ N, b ≤ N → RoundsW P N rd m a (E1 d) df σ (CW N)
  | 0, _, _, _, _, _, _, _, _, _, _, h => h.elim
  | m + 1, vs, R, φ, E1, σ, hJ, hvs, hE, hE1, hE2, h => by
    obtain ⟨b, hb⟩ := hself d f a H _ (ν ++ vs) _ R φ E1 σ (fun N => Behind N (fun e1 σ1 => RoundsW P N rd m a e1 df σ1 (CW N)) (CW N)) rd df h hJ (by rw [List.length_append, hn, hvs, hHn]) (by simp [hK]) (by rw [hE1, hE2]) (by
      intro ex V' μ K' R' φ' E' σ' hf hs
      have other : ∀ ex', exI ex' ≠ .normal → (k ex' V').sat P C Q K' (ν ++ vs ++ μ) → ∃ b, ∀ N, b ≤ N → σ'.n ≤ N ∧ Behind N (fun e1 σ1 => RoundsW P N rd m a e1 df σ1 (CW N)) (CW N) (exI ex') (E' d) σ' := by
        intro ex' hne hs
        have hkw' : ∀ x, KW P C Q d E1 (K ++ [x]) (ν ++ vs) H.nt k CW := fun x => hkw.fwd (List.prefix_append K [x]) hE hE1
        obtain ⟨b, hb⟩ := hkw' _ ex' V' μ K' R' φ' E' σ' hf hs
        exact ⟨b, fun N hN => ⟨(hb N hN).1, (hb N hN).1, fun h => absurd h hne, fun _ => (hb N hN).2⟩⟩
      cases ex with
      | normal =>
        simp only at hs
        split at hs
        · rename_i es ren hi
          obtain ⟨R2, hJ2, hn2, _⟩ := settle_ok ws hf.hJ
          obtain ⟨us, p, h1, h2, h3⟩ := hs
          obtain ⟨hlen, hJ3⟩ := inst_ok (ν0 := ν) hJ2 hn ⟨vs ++ μ, by rw [List.append_assoc]⟩ hi (denL_acs h1)
          obtain ⟨t, ht⟩ := hf.hK
          rw [← ht, List.append_assoc, List.getElem?_append_right (by omega), hKl, Nat.sub_self] at h2
          simp only [List.singleton_append, List.getElem?_cons_zero, Option.some.injEq] at h2
          subst h2
          obtain ⟨b, hb⟩ := rounds_ok hKl hself hbad hK hHn hn hkw m hJ3 hlen (fun j hj => by rw [hf.hE j hj, hE j hj]) (by rw [hf.hEn, hE1]) hE2 h3
          exact ⟨max b σ'.n, fun N hN => ⟨by omega, by omega, fun _ => hb N (by omega), fun h => absurd rfl h⟩⟩
        · exact (hbad _ _ _ hs).elim
      | exit i => exact other (.exit i) (by simp [exI]) hs
      | ret => exact other .ret (by simp [exI]) hs)
    exact ⟨b, fun N hN => .succ (hb N hN)⟩
theorem execStep_ok (hmix : P.follows .mixedOrders = true) (hC : CrOk P C) (hself : SelfW P C Q self) : SelfW P C Q (execStep P cfg self) := by
  intro d f c V k ν K R φ E σ CW rd df hs hJ hn hK hnt hkw
  cases c with
  | skip =>
    obtain ⟨b, hb⟩ := hkw.now hJ hn hK (ex := .normal) hs
    exact ⟨b, fun N hN => .skip (hb N hN).2⟩
  | label l =>
    obtain ⟨b, hb⟩ := hkw.now hJ hn hK (ex := .normal) hs
    exact ⟨b, fun N hN => .label (hb N hN).2⟩
  | exit id =>
    obtain ⟨b, hb⟩ := hkw.now hJ hn hK (ex := .exit id) hs
    exact ⟨b, fun N hN => .exit (hb N hN).2⟩
  | ret =>
    obtain ⟨b, hb⟩ := hkw.now hJ hn hK (ex := .ret) hs
    exact ⟨b, fun N hN => .ret (hb N hN).2⟩
  | region id ops draw =>
    cases draw with
    | true =>
      simp only [execStep, if_true] at hs
      split at hs
      · rename_i hpl
        exact drawW_ok (fn := 0) hmix hC hpl hs hJ hn hK hnt hkw.ks
      · exact hs.elim
    | false =>
      simp only [execStep, Bool.false_eq_true, if_false] at hs
      obtain ⟨b, hb⟩ := opsW_ok (CX := CW) (rd := rd) (df := df) hC hself ops.toList [] V ν K R φ E σ (SkOk.nil _) hs hJ hn hK hnt hkw.ks
      exact ⟨b, fun N hN => .region (hb N hN)⟩
  | seq x y =>
    simp only [execStep] at hs
    obtain ⟨b, hb⟩ := hself d f x V _ ν K R φ E σ (fun N => Behind N (fun e1 σ1 => CodeW P N rd y e1 df σ1 (CW N)) (CW N)) rd df hs hJ hn hK hnt (by
      intro ex V' μ K' R' φ' E' σ' hf hs'
      have other : ∀ ex', exI ex' ≠ .normal → (k ex' V').sat P C Q K' (ν ++ μ) → ∃ b, ∀ N, b ≤ N → σ'.n ≤ N ∧ Behind N (fun e1 σ1 => CodeW P N rd y e1 df σ1 (CW N)) (CW N) (exI ex') (E' d) σ' := by
        intro ex' hne hs
        obtain ⟨b, hb⟩ := hkw ex' V' μ K' R' φ' E' σ' hf hs
        exact ⟨b, fun N hN => ⟨(hb N hN).1, (hb N hN).1, fun h => absurd h hne, fun _ => (hb N hN).2⟩⟩
      cases ex with
      | normal =>
        obtain ⟨b, hb⟩ := hself d f y V' k (ν ++ μ) K' R' φ' E' σ' CW rd df hs' hf.hJ hf.hn hf.hlv (by rw [hf.hEn, hnt, hf.hnt]) (by
          rw [hf.hnt]
          exact hkw.fwd hf.hK hf.hE hf.hEn)
        exact ⟨max b σ'.n, fun N hN => ⟨by omega, by omega, fun _ => hb N (by omega), fun h => absurd rfl h⟩⟩
      | exit i => exact other (.exit i) (by simp [exI]) hs'
      | ret => exact other .ret (by simp [exI]) hs')
    exact ⟨b, fun N hN => .seq (hb N hN)⟩
  | cond c x y =>
    simp only [execStep] at hs
    have hc := opd_ok hJ d 0 c
    split at hs
    · rename_i hh
      rw [hh] at hc
      obtain ⟨u, h1, h2, _⟩ := hc
      simp only [evd, SE.den, Option.some.injEq] at h1
      subst h1
      obtain ⟨b, hb⟩ := hself d f x V k ν K R φ E σ CW rd df hs hJ hn hK hnt hkw
      exact ⟨b, fun N hN => .cond (canRaw h2) (by rw [if_pos rfl]; exact hb N hN)⟩
    · rename_i hh
      rw [hh] at hc
      obtain ⟨u, h1, h2, _⟩ := hc
      simp only [evd, SE.den, Option.some.injEq] at h1
      subst h1
      obtain ⟨b, hb⟩ := hself d f y V k ν K R φ E σ CW rd df hs hJ hn hK hnt hkw
      exact ⟨b, fun N hN => .cond (canRaw h2) (by rw [if_neg (by simp)]; exact hb N hN)⟩
    · rename_i e _ _ hh
      split at hs
      · rename_i t
        split at hs
        · exact hs.elim
        · have hg := opd_tmp (by simp) hh
          rcases hs with ⟨h1, hs⟩ | ⟨h1, hs⟩
          · obtain ⟨hat, hJ1⟩ := J.refine hJ (.inl hg) h1
            obtain ⟨b, hb⟩ := hself d f x _ k ν K R φ E σ CW rd df hs hJ1 hn hK hnt hkw
            exact ⟨b, fun N hN => .cond (t := true) hat (by rw [if_pos rfl]; exact hb N hN)⟩
          · obtain ⟨hat, hJ1⟩ := J.refine hJ (.inl hg) h1
            obtain ⟨b, hb⟩ := hself d f y _ k ν K R φ E σ CW rd df hs hJ1 hn hK hnt hkw
            exact ⟨b, fun N hN => .cond (t := false) hat (by rw [if_neg (by simp)]; exact hb N hN)⟩
      · exact hs.elim
    · rename_i e hh
      split at hs
      · rename_i t
        split at hs
        · exact hs.elim
        · have hg := opd_tmp (by simp) hh
          rcases hs with ⟨h1, hs⟩ | ⟨h1, hs⟩
          · obtain ⟨hat, hJ1⟩ := J.refine hJ (.inr ⟨_, hg⟩) h1
            obtain ⟨b, hb⟩ := hself d f x _ k ν K R φ E σ CW rd df hs hJ1 hn hK hnt hkw
            exact ⟨b, fun N hN => .cond (t := true) hat (by rw [if_pos rfl]; exact hb N hN)⟩
          · obtain ⟨hat, hJ1⟩ := J.refine hJ (.inr ⟨_, hg⟩) h1
            obtain ⟨b, hb⟩ := hself d f y _ k ν K R φ E σ CW rd df hs hJ1 hn hK hnt hkw
            exact ⟨b, fun N hN => .cond (t := false) hat (by rw [if_neg (by simp)]; exact hb N hN)⟩
      · exact hs.elim
    · exact hs.elim
  | block id x =>
    simp only [execStep] at hs
    obtain ⟨b, hb⟩ := hself d f x V _ ν K R φ E σ (fun N ex e1 σ1 => CW N (match ex with | .exit i => if i = id then .normal else .exit i | ex => ex) e1 σ1) rd df hs hJ hn hK hnt (by
      intro ex V' μ K' R' φ' E' σ' hf hs'
      cases ex with
      | normal => exact hkw .normal V' μ K' R' φ' E' σ' hf hs'
      | ret => exact hkw .ret V' μ K' R' φ' E' σ' hf hs'
      | exit i =>
        simp only at hs'
        split at hs'
        · rename_i hh
          have := Nat.eq_of_beq_eq_true hh
          subst this
          simpa [exI] using hkw .normal V' μ K' R' φ' E' σ' hf hs'
        · rename_i hh
          have hne : i ≠ id := by rintro rfl; simp at hh
          simpa [exI, hne] using hkw (.exit i) V' μ K' R' φ' E' σ' hf hs')
    exact ⟨b, fun N hN => .block (hb N hN)⟩
  | scope x =>
    simp only [execStep] at hs
    obtain ⟨b, hb⟩ := hself d f x V k ν K R φ E σ (fun N ex e1 σ1 => (∀ l, ex ≠ .goto l) ∧ CW N ex e1 σ1) rd df hs hJ hn hK hnt (by
      intro ex V' μ K' R' φ' E' σ' hf hs'
      obtain ⟨b, hb⟩ := hkw ex V' μ K' R' φ' E' σ' hf hs'
      exact ⟨b, fun N hN => ⟨(hb N hN).1, exI_goto ex, (hb N hN).2⟩⟩)
    exact ⟨b, fun N hN => .scope (hb N hN)⟩
  | loop x =>
    simp only [execStep] at hs
    split at hs
    · rename_i es ren hi
      obtain ⟨vs, h1, m, h2⟩ := hs
      obtain ⟨R2, hJ2, hn2, _⟩ := ready_ok _ hJ
      obtain ⟨hlen, hJ3⟩ := inst_ok (ν0 := ν) hJ2 (by rw [hn2]; exact hn) ⟨[], by simp⟩ hi (denL_acs h1)
      obtain ⟨b, hb⟩ := rounds_ok (rd := rd) (df := df) (CW := CW) (E := E) (bad := fun W => .bad _ _ _ _ _ _ _ W.g W.l) hK hself (fun _ _ _ h => h) (by exact congrArg Nat.succ hK) (by rfl) (hn.trans hn2.symm) (by exact hkw) m hJ3 hlen (fun _ _ => rfl) rfl (by exact hnt) h2
      exact ⟨b, fun N hN => .loop (hb N hN)⟩
    · exact hs.elim
  | _ => exact hs.elim
theorem exec_ok (hmix : P.follows .mixedOrders = true) (hC : CrOk P C) : ∀ n, SelfW P C Q (exec P cfg n)
  | 0 => fun _ _ _ _ _ _ _ _ _ _ _ _ _ _ hs _ _ _ _ _ => hs.elim
  | n + 1 => execStep_ok hmix hC (exec_ok hmix hC n)
end Go.Ev
namespace Go.Ev
variable {P : Program} {N : Nat} {σ σ' : St} {R R' : Rs} {φ φ' : Ph} {E : Nat → Env} {ν : List IV} {ro : Nat} {ι : Io} {w : World} {cfg : Cfg} {self : Exec}
variable {C : Cr} {Q : IV → Prop} {K : List (List IV → Prop)} {V : SS} {d f0 : Nat} {L : List (LO SE)} {Γ : Gm SE} {rd : Option Nat} {df : List Df}
theorem Stand.vr1 {V V1 : SS} {R1 : Rs} (h : Stand P ν R φ V σ R1 V1) {x : IV} {p : Bool × List (Cl SE)} (hx : VR1 (evd P ν) R φ V.l σ x p) : VR1 (evd P ν) R1 φ V1.l σ x p := by
  unfold VR1 at hx ⊢
  split
  · rename_i hp
    rw [if_pos hp] at hx
    obtain ⟨xs, h1, h2⟩ := hx
    exact ⟨xs, h1, h2.mono fun _ _ hab => h.vrc hab⟩
  · rename_i hp
    rw [if_neg hp] at hx
    obtain ⟨c, h1, h2⟩ := hx
    exact ⟨c, h1, h.vrc h2⟩
theorem rdTu_ok : ∀ {vs : List (Bool × List (Cl SE))} {V V' : SS} {R : Rs} {fr : Bool} {zs : List SE}, J (evd P ν) R φ V.g V.l E σ → rdPV.rdTu V vs = some (fr, zs, V') →
    ∃ R', Stand P ν R φ V σ R' V' ∧ J (evd P ν) R' φ V'.g V'.l E σ ∧ ∀ xs, All2 (VR1 (evd P ν) R φ V.l σ) xs vs → ∃ ys, All2 (fun (z : SE) y => z.den P ν = some y) zs ys ∧ All2 (CanR fr R' σ) xs ys
  | [], V, V', R, fr, zs, h, hr => by
    simp only [rdPV.rdTu, Option.some.injEq, Prod.mk.injEq] at hr
    obtain ⟨rfl, rfl, rfl⟩ := hr
    refine ⟨R, .refl h, h, fun xs hx => ?_⟩
    cases xs with
    | nil => exact ⟨[], trivial, trivial⟩
    | cons => exact hx.elim
  | (a, cs) :: vs, V, V', R, fr, zs, h, hr => by
    simp only [rdPV.rdTu] at hr
    split at hr
    · rename_i f1 z1 V1 h1
      split at hr
      · rename_i f2 ys2 V2 h2
        obtain ⟨R1, a1, a2, _, a3⟩ := rdCs_ok h h1
        obtain ⟨R2, b1, b2, b3⟩ := rdTu_ok a2 h2
        have key : ∀ z, (a = true → z = acs z1) → (a = false → z1 = [z]) → (f1 || f2, z :: ys2, V2) = (fr, zs, V') → ∃ R', Stand P ν R φ V σ R' V' ∧ J (evd P ν) R' φ V'.g V'.l E σ ∧ ∀ xs, All2 (VR1 (evd P ν) R φ V.l σ) xs ((a, cs) :: vs) → ∃ ys, All2 (fun (z : SE) y => z.den P ν = some y) zs ys ∧ All2 (CanR fr R' σ) xs ys := by
          intro z hz1 hz2 he
          simp only [Prod.mk.injEq] at he
          obtain ⟨rfl, rfl, rfl⟩ := he
          refine ⟨R2, a1.trans b1, b2, fun xs hx => ?_⟩
          cases xs with
          | nil => exact hx.elim
          | cons x xs =>
            obtain ⟨ys, d1, d2⟩ := b3 xs (hx.2.mono fun _ _ hab => a1.vr1 hab)
            have hx1 := hx.1
            unfold VR1 at hx1
            cases a with
            | true =>
              simp only [if_true] at hx1
              obtain ⟨us, rfl, h5⟩ := hx1
              obtain ⟨ws, e1, e2, _⟩ := a3 us h5
              refine ⟨.agg ws :: ys, ⟨by rw [hz1 rfl]; exact acs_den e1, d1⟩, ⟨?_, d2.mono fun _ _ hab => hab.wide (fun h => by simp [h])⟩⟩
              exact .agg us ws e2.len fun i c e g1 g2 => ((e2.get g1 g2).mono b1.2.2.2.grow).wide (fun h => by simp [h])
            | false =>
              simp only [Bool.false_eq_true, if_false] at hx1
              obtain ⟨c, hc, h5⟩ := hx1
              obtain ⟨ws, e1, e2, _⟩ := a3 [x] (by rw [hc]; exact ⟨h5, trivial⟩)
              rw [hz2 rfl] at e1
              cases ws with
              | nil => exact e1.elim
              | cons y ws =>
                exact ⟨y :: ys, ⟨e1.1, d1⟩, ⟨(e2.1.mono b1.2.2.2.grow).wide (fun h => by simp [h]), d2.mono fun _ _ hab => hab.wide (fun h => by simp [h])⟩⟩
        cases a with
        | true =>
          simp only [Option.some.injEq] at hr
          exact key _ (fun _ => rfl) (fun h => by cases h) hr
        | false =>
          split at hr <;> first | (cases hr; done) | skip
          · exact absurd ‹false = true› (by simp)
          · simp only [Option.some.injEq] at hr
            exact key _ (fun h => by cases h) (fun _ => rfl) hr
      · cases hr
    · cases hr
theorem rdRes_ok {V' : SS} {pv : PV SE} {fr : Bool} {z : SE} (h : J (evd P ν) R φ V.g V.l E σ) (hr : rdPV V pv = some (fr, z, V')) {x : IV} (hx : VR (evd P ν) R φ V.l σ x pv) :
    ∃ R' y, z.den P ν = some y ∧ CanR fr R' σ x y := by
  cases pv with
  | one c =>
    obtain ⟨R', _, _, h3⟩ := rdPV_ok h hr (fun _ h => by cases h)
    obtain ⟨y, h4, h5⟩ := h3 x hx
    exact ⟨R', y, h4, h5⟩
  | ag cs =>
    obtain ⟨R', _, _, h3⟩ := rdPV_ok h hr (fun _ h => by cases h)
    obtain ⟨y, h4, h5⟩ := h3 x hx
    exact ⟨R', y, h4, h5⟩
  | tu vs =>
    simp only [rdPV] at hr
    split at hr
    · rename_i f zs V1 hr1
      simp only [Option.some.injEq, Prod.mk.injEq] at hr
      obtain ⟨rfl, rfl, rfl⟩ := hr
      obtain ⟨R', _, _, h3⟩ := rdTu_ok h hr1
      obtain ⟨xs, rfl, hx2⟩ := hx
      obtain ⟨ys, a, b⟩ := h3 xs hx2
      exact ⟨R', .tup ys, by simp [SE.den, acs_den a], .tup xs ys b.len fun i c e h1 h2 => b.get h1 h2⟩
    · cases hr
theorem needPs_ok {args : List IV} {f : FIR} (hp : ∀ v ∈ args, Pure v) : ∀ {ts : List TypeId} {j : Nat}, (needPs P j ts f).sat P C Q K args → j + ts.length = args.length → f.sat P C Q K args ∧ All2 (VR (evd P args) R φ L σ) (args.drop j) (paramsS P j ts)
  | [], j, hs, hl => by
    simp at hl
    rw [List.drop_of_length_le (by omega)]
    exact ⟨hs, trivial⟩
  | t :: ts, j, hs, hl => by
    simp at hl
    have hj : j < args.length := by omega
    have hd : (SE.var j).den P args = some args[j] := by simp [SE.den, hj]
    obtain ⟨h1, h2, _⟩ := ofType_ok (R := R) (φ := φ) (L := L) (σ := σ) hd (hp _ (List.getElem_mem hj)) hs
    obtain ⟨h4, h5⟩ := needPs_ok hp h1 (by omega)
    refine ⟨h4, ?_⟩
    rw [List.drop_eq_getElem_cons hj]
    exact ⟨h2, h5⟩
theorem isRaw1_can {x z : IV} {fr : Bool} (h : isRaw1 z = true) (hc : CanR fr R σ x z) : CanR false R σ x z := by
  cases z <;> simp only [isRaw1] at h <;> first | (cases h; done) | skip
  rw [canRaw hc]; exact .raw _
theorem PCall.ofFIR (hmix : P.follows .mixedOrders = true) (hC : CrOk P C) {n : Nat} {new : Bool} {f : FuncId} {fir : FIR} {args : List IV} {z : IV} (he : execFn P cfg n new f = fir) (hl : (P.funcs[f]?).map (·.params.size) = some args.length) (hp : ∀ x ∈ args, Pure x)
    (hs : fir.sat P C (· = z) [] args) : PCall P false new f args z := by
  subst he
  unfold execFn at hs
  split at hs <;> first | (exact hs.elim) | skip
  rename_i fn hfn
  split at hs <;> first | (exact hs.elim) | skip
  rename_i c hb
  split at hs <;> first | (exact hs.elim) | skip
  rename_i hle
  have hle' : fn.params.size ≤ fn.ntmps := by simpa using hle
  rw [hfn] at hl
  simp only [Option.map_some, Option.some.injEq] at hl
  obtain ⟨hs, hall⟩ := needPs_ok (R := fun _ => none) (φ := fun _ => none) (L := []) (σ := ⟨0, .lf⟩) hp hs (by simpa using hl)
  have hlen : args.length ≤ fn.ntmps := by omega
  have hJ : J (evd P args) (fun _ => none) (fun _ => none) (setArgs 0 0 (paramsS P 0 fn.params.toList)) [] (fun _ => argEnv args fn.ntmps) ⟨0, .lf⟩ := by
    refine ⟨fun d t pv hg => ?_, fun k ob h => (by simp at h), fun k k' id h => (by cases h), fun k id h => (by cases h), fun id m h => (by cases h), fun id m cs cep mn h => (by cases h), T.WF.lf, fun id _ => rfl⟩
    obtain ⟨rfl, _, h3⟩ := gget_setArgs (α := IV) hg
    rw [List.drop_zero] at hall
    have ht : t < args.length := by rw [hall.len]; have := (List.getElem?_eq_some_iff.1 h3).1; simpa using this
    show VR _ _ _ _ _ ((argEnv args fn.ntmps).at t) pv
    rw [(argEnv_at hlen).2 ht, List.getElem?_eq_getElem ht]
    exact hall.get (List.getElem?_eq_getElem ht) (by simpa using h3)
  obtain ⟨b, hcode⟩ := exec_ok hmix hC n 0 f c ⟨setArgs 0 0 (paramsS P 0 fn.params.toList), [], fn.params.size, 0, fn.ntmps⟩ _ args [] _ _ _ _
    (fun N ex e1 σ1 => (ex = .normal ∨ ex = .ret) ∧ σ1.n ≤ N ∧ ∃ v, resultOf P fn e1 σ1 = some v ∧ Can (!new) σ1 v z) none [] hs hJ hl.symm rfl (argEnv_at (t := 0) hlen).1 (by
      intro ex V' μ K' R' φ' E' σ' hf hs'
      have main : ∀ pvs', resS P 0 V' fn.results.toList = some pvs' → (match rdPV V' (tuOf pvs') with | some (fr, z, _) => FIR.ret (if new && fr then .rw z else z) | none => .fail 142).sat P C (· = z) K' (args ++ μ) → ∃ b, ∀ N, b ≤ N → σ'.n ≤ N ∧ σ'.n ≤ N ∧ ∃ v, resultOf P fn (E' 0) σ' = some v ∧ Can (!new) σ' v z := by
        intro pvs' hr hs2
        obtain ⟨vs, h1, h2⟩ := resS_ok hf.hJ hr
        have hv := tuOf_ok h2
        split at hs2 <;> first | (exact hs2.elim) | skip
        rename_i fr e _ hrd
        obtain ⟨R2, y, h3, h4⟩ := rdRes_ok hf.hJ hrd hv
        obtain ⟨z', h5, rfl⟩ := hs2
        refine ⟨σ'.n, fun N hN => ⟨hN, hN, tupV vs, result_ok h1, ?_⟩⟩
        cases new with
        | false =>
          simp only [Bool.false_and, Bool.false_eq_true, if_false] at h5
          rw [h3] at h5; cases h5
          exact h4.old.can
        | true =>
          cases fr with
          | false =>
            simp only [Bool.and_false, Bool.false_eq_true, if_false] at h5
            rw [h3] at h5; cases h5
            exact h4.can
          | true =>
            simp only [Bool.and_self, if_true, SE.den, h3, Option.bind_some] at h5
            split at h5
            · rename_i hraw
              cases h5
              exact (isRaw1_can hraw h4).can
            · cases h5
      cases ex with
      | exit i => exact hs'.elim
      | normal =>
        simp only at hs'
        split at hs'
        · rename_i pvs' hr
          obtain ⟨b, hb⟩ := main pvs' hr hs'
          exact ⟨b, fun N hN => ⟨(hb N hN).1, .inl rfl, (hb N hN).2⟩⟩
        · exact hs'.elim
      | ret =>
        simp only at hs'
        split at hs'
        · rename_i pvs' hr
          obtain ⟨b, hb⟩ := main pvs' hr hs'
          exact ⟨b, fun N hN => ⟨(hb N hN).1, .inr rfl, (hb N hN).2⟩⟩
        · exact hs'.elim)
  exact PCall.ofW (CallW.body (RW := fun v σ1 => Can (!new) σ1 v z) hfn hb hlen (hcode b (Nat.le_refl _))) fun v σ' h => h
end Go.Ev
namespace Go.Ev
section run
variable (P : Program) (cfg : Cfg)
def execRow (n s : Nat) (f : FuncId) : FIR :=
  match P.funcs[f]? with
  | some fn => match fn.body, fn.params.toList with
    | some c, _ :: ts =>
      if Nat.ble fn.params.size fn.ntmps then
        needPs P 1 ts <| exec P cfg n 0 f c ⟨setArgs 0 0 (.one (.sr 0) :: paramsS P 1 ts), [.row s false false true (.var 0)], fn.params.size, 0, fn.ntmps⟩ fun ex V => match ex with
          | .exit _ => .fail 141
          | _ => match resS P 0 V fn.results.toList with
            | some [.one (.sr k)] => match V.l[k]? with
              | some (.row s' false false fr z) => if Nat.beq s s' then .ret (if fr then .rws z else z) else .fail 146
              | _ => .fail 147
            | _ => .fail 148
      else .fail 143
    | _, _ => .fail 144
  | none => .fail 145
end run
variable {P : Program} {N : Nat} {σ σ' : St} {R R' : Rs} {φ φ' : Ph} {E : Nat → Env} {ν : List IV} {cfg : Cfg} {self : Exec}
variable {C : Cr} {Q : IV → Prop} {K : List (List IV → Prop)} {V : SS} {d f0 : Nat} {L : List (LO SE)} {Γ : Gm SE}
theorem canP_agg {fr : Bool} {x : IV} {cs : List IV} (h : CanR fr R σ x (.agg cs)) : ∃ xs, x = .agg xs ∧ All2 (CanR fr R σ) xs cs := by
  cases h with
  | agg cs0 _ hl hh => exact ⟨cs0, rfl, .mk hl hh⟩
  | pure _ hf hp =>
    refine ⟨cs, rfl, .mk rfl fun i a b h1 h2 => ?_⟩
    rw [h1] at h2; cases h2
    cases hp with
    | agg _ hh => exact .pure a hf (hh a (List.mem_of_getElem? h1))
theorem ofType_ok2 {t : TypeId} {e : SE} {x z : IV} {f : FIR} (hz : e.den P ν = some z) (hc : CanP x z) (hs : (needT P t e f).sat P C Q K ν) : f.sat P C Q K ν ∧ VR (evd P ν) R φ L σ x (ofType P t e) := by
  unfold needT at hs
  unfold ofType
  by_cases ha : isAgg P t = true
  · rw [if_pos ha] at hs
    obtain ⟨⟨y, hy⟩, hk⟩ := hs
    simp only [SE.den, hz, Option.bind_some] at hy
    split at hy
    · rename_i cs
      split at hy
      · rename_i hcc
        obtain ⟨xs, rfl, hxs⟩ := canP_agg hc
        refine ⟨hk, ?_⟩
        rw [if_pos ha]
        refine ⟨xs, rfl, .mk (by simp [hxs.len, hcc.1]) fun i a b h1 h2 => ?_⟩
        have hi := (List.getElem?_eq_some_iff.1 h1).1
        rw [hxs.len] at hi
        rw [List.getElem?_map, List.getElem?_range (by omega)] at h2
        simp only [Option.map_some, Option.some.injEq] at h2
        subst h2
        have hci : cs[i]? = some cs[i] := List.getElem?_eq_getElem hi
        have hok : Ev.cellOk cs[i] = true := (List.all_eq_true.1 hcc.2) _ (List.getElem_mem hi)
        exact ⟨cs[i], by simp [evd, SE.den, hz, hci, okc, hok], hxs.get h1 hci, hok⟩
      · cases hy
    · cases hy
  · rw [if_neg ha] at hs
    obtain ⟨⟨y, hy⟩, hk⟩ := hs
    obtain ⟨h1, h2⟩ := den_ok hy
    rw [hz] at h1; cases h1
    rw [if_neg ha]
    exact ⟨hk, z, hy, hc, h2⟩
theorem needPs_ok2 {xs args : List IV} {x z : IV} {f : FIR} (hp : All2 CanP args xs) : ∀ {ts : List TypeId} {j : Nat}, (needPs P (j + 1) ts f).sat P C Q K (z :: xs) → j + ts.length = xs.length → f.sat P C Q K (z :: xs) ∧ All2 (VR (evd P (z :: xs)) R φ L σ) (args.drop j) (paramsS P (j + 1) ts)
  | [], j, hs, hl => by
    simp at hl
    rw [List.drop_of_length_le (by have := hp.len; omega)]
    exact ⟨hs, trivial⟩
  | t :: ts, j, hs, hl => by
    simp at hl
    have hj : j < xs.length := by omega
    have hj' : j < args.length := by have := hp.len; omega
    have hd : (SE.var (j + 1)).den P (z :: xs) = some xs[j] := by simp [SE.den, hj]
    obtain ⟨h1, h2⟩ := ofType_ok2 (R := R) (φ := φ) (L := L) (σ := σ) hd (hp.get (List.getElem?_eq_getElem hj') (List.getElem?_eq_getElem hj)) hs
    obtain ⟨h4, h5⟩ := needPs_ok2 (x := x) hp h1 (by omega)
    refine ⟨h4, ?_⟩
    rw [List.drop_eq_getElem_cons hj']
    exact ⟨h2, h5⟩
theorem RCall.ofFIR (hmix : P.follows .mixedOrders = true) (hC : CrOk P C) {n s : Nat} {f : FuncId} {fir : FIR} {es es' xs : List IV} (he : execRow P cfg n s f = fir) (hl : (P.funcs[f]?).map (·.params.size) = some (xs.length + 1))
    (hs : fir.sat P C (· = .tree s es') [] (.tree s es :: xs)) : RCall P s f es xs es' := by
  subst he
  unfold execRow at hs
  split at hs <;> first | (exact hs.elim) | skip
  rename_i fn hfn
  split at hs <;> first | (exact hs.elim) | skip
  rename_i c t0 ts hb hts
  split at hs <;> first | (exact hs.elim) | skip
  rename_i hle
  have hle' : fn.params.size ≤ fn.ntmps := by simpa using hle
  rw [hfn] at hl
  simp only [Option.map_some, Option.some.injEq] at hl
  have hsz : ts.length = xs.length := by
    have : fn.params.toList.length = fn.params.size := by simp
    rw [hts] at this
    simp at this
    omega
  intro R φ E σ x args hJ0 hX0 hargs KW hKW
  have hal : args.length = xs.length := hargs.len
  obtain ⟨hs0, es0, k1, k2, k3⟩ := hJ0.obj 0 _ rfl
  have k1' : some (IV.tree s es) = some (.tree s es0) := k1
  cases k1'
  obtain ⟨hs1, hall⟩ := needPs_ok2 (x := x) (j := 0) (R := R) (φ := φ) (L := [.row s false false true (.var 0)]) (σ := σ) hargs hs (by omega)
  rw [List.drop_zero] at hall
  have hvar : (SE.var 0).den P (.tree s es :: xs) = some (.tree s es) := by simp [SE.den]
  have hX : VRc (evd P (.tree s es :: xs)) R φ [.row s false false true (.var 0)] σ x (.sr 0) := by
    obtain ⟨s1, st1, cut1, fr1, z1, es1, b1, b2, b3⟩ := hX0
    have b1' : some (LO.row s false false false ()) = some (.row s1 st1 cut1 fr1 z1) := b1
    cases b1'
    have b2' : some (IV.tree s es) = some (.tree s es1) := b2
    cases b2'
    exact ⟨s, false, false, true, .var 0, es, rfl, hvar, b3⟩
  have hall2 : All2 (VR (evd P (.tree s es :: xs)) R φ [.row s false false true (.var 0)] σ) (x :: args) (.one (.sr 0) :: paramsS P 1 ts) := ⟨hX, hall⟩
  have hlen : (x :: args).length ≤ fn.ntmps := by simp; omega
  have hJ : J (evd P (.tree s es :: xs)) R φ (setArgs 0 0 (.one (.sr 0) :: paramsS P 1 ts)) [.row s false false true (.var 0)] (fun _ => argEnv (x :: args) fn.ntmps) σ := by
    refine ⟨fun d t pv hg => ?_, fun j ob hj => ?_, hJ0.inj, fun j id hj => ?_, hJ0.ltR, hJ0.fits, hJ0.wf, hJ0.top⟩
    · obtain ⟨rfl, _, h3⟩ := gget_setArgs (α := IV) hg
      have ht : t < (x :: args).length := by rw [hall2.len]; have := (List.getElem?_eq_some_iff.1 h3).1; simpa using this
      show VR _ _ _ _ _ ((argEnv (x :: args) fn.ntmps).at t) pv
      rw [(argEnv_at hlen).2 ht, List.getElem?_eq_getElem ht]
      exact hall2.get (List.getElem?_eq_getElem ht) (by simpa using h3)
    · cases j with
      | succ j => simp at hj
      | zero =>
        simp at hj; subst hj
        refine ⟨hs0, es, hvar, k2, ?_⟩
        rcases k3 with ⟨a, b⟩ | ⟨id, cs, cep, mn, a1, a2, a3, a4, a5, a6, a7⟩
        · exact .inl ⟨a, b⟩
        · exact .inr ⟨id, cs, cep, mn, a1, a2, a3, a4, a5, a6, fun q u v hu hv => (a7 q u v hu hv).wide (fun h => by cases h)⟩
    · have := hJ0.lt j id hj
      simpa using this
  obtain ⟨b, hcode⟩ := exec_ok hmix hC n 0 f c ⟨setArgs 0 0 (.one (.sr 0) :: paramsS P 1 ts), [.row s false false true (.var 0)], fn.params.size, 0, fn.ntmps⟩ _ (.tree s es :: xs) [] _ _ _ _
    (fun N ex e1 σ1 => (ex = .normal ∨ ex = .ret) ∧ σ1.n ≤ N ∧ ∃ v, resultOf P fn e1 σ1 = some v ∧ KW N v σ1) none [] hs1 hJ (by simp; omega) rfl (argEnv_at (t := 0) hlen).1 (by
      intro ex V' μ K' R' φ' E' σ' hf hs'
      have main : (match resS P 0 V' fn.results.toList with
            | some [.one (.sr k)] => match V'.l[k]? with
              | some (.row s' false false fr z) => if Nat.beq s s' then FIR.ret (if fr then .rws z else z) else .fail 146
              | _ => .fail 147
            | _ => .fail 148).sat P C (· = IV.tree s es') K' (IV.tree s es :: xs ++ μ) → ∃ b, ∀ N, b ≤ N → σ'.n ≤ N ∧ σ'.n ≤ N ∧ ∃ v, resultOf P fn (E' 0) σ' = some v ∧ KW N v σ' := by
        intro hs2
        split at hs2 <;> first | (exact hs2.elim) | skip
        rename_i k hr
        obtain ⟨vs, h1, h2⟩ := resS_ok hf.hJ hr
        split at hs2 <;> first | (exact hs2.elim) | skip
        rename_i s' fr z hk
        split at hs2 <;> first | (exact hs2.elim) | skip
        rename_i hss
        have hss' := Nat.eq_of_beq_eq_true hss
        subst hss'
        obtain ⟨z', h5, rfl⟩ := hs2
        obtain ⟨v, rfl, hv⟩ := all2_one h2
        have hres : resultOf P fn (E' 0) σ' = some v := result_ok h1
        obtain ⟨m0, esr, m1, m2, m3⟩ := hf.hJ.obj k _ hk
        have m1' : z.den P (IV.tree s es :: xs ++ μ) = some (.tree s esr) := m1
        have hfr : esr = es' ∧ (fr = true → ∀ e ∈ esr, ∀ c ∈ cellsOf e, isRaw1 c = true) := by
          cases fr with
          | false =>
            simp only [Bool.false_eq_true, if_false] at h5
            rw [m1'] at h5; cases h5
            exact ⟨rfl, fun h => by cases h⟩
          | true =>
            simp only [if_true] at h5
            obtain ⟨s1, es1, c1, c2, c3⟩ := den_rws h5
            rw [m1'] at c1; cases c1
            cases c2
            exact ⟨rfl, fun _ => c3⟩
        obtain ⟨rfl, hraw⟩ := hfr
        have hcan : ∀ {u w : IV} {q : Nat}, (flat esr)[q]? = some w → CanR fr R' σ' u w → CanR false R' σ' u w := by
          intro u w q hw hc
          cases fr with
          | false => exact hc
          | true =>
            obtain ⟨e, he, hce⟩ := List.mem_flatMap.1 (List.mem_of_getElem? hw)
            exact isRaw1_can (hraw rfl e he w hce) hc
        obtain ⟨b, hb⟩ := hKW R' (fun j => if j = 0 then φ' k else none) σ' v (by
          refine ⟨fun d t pv hg => (by cases hg), fun j ob hj => ?_, fun j j' id h1 h2 => ?_, fun j id hj => ?_, hf.hJ.ltR, hf.hJ.fits, hf.hJ.wf, hf.hJ.top⟩
          · cases j with
            | succ j => simp at hj
            | zero =>
              simp at hj; subst hj
              refine ⟨m0, esr, rfl, m2, ?_⟩
              rcases m3 with ⟨a, b⟩ | ⟨id, cs, cep, mn, a1, a2, a3, a4, a5, a6, a7⟩
              · exact .inl ⟨by simp [a], b⟩
              · exact .inr ⟨id, cs, cep, mn, by simp [a1], a2, a3, a4, a5, a6, fun q u w hu hw => hcan hw (a7 q u w hu hw)⟩
          · split at h1 <;> first | (cases h1; done) | skip
            split at h2 <;> first | (cases h2; done) | skip
            omega
          · split at hj <;> first | (cases hj; done) | skip
            rename_i hj0
            subst hj0
            exact ⟨by simp, (hf.hJ.lt k id hj).2⟩) (by
          obtain ⟨s1, st1, cut1, fr1, z1, es1, b1, b2, b3⟩ := hv
          rw [hk] at b1; cases b1
          have b2' : z.den P (IV.tree s es :: xs ++ μ) = some (.tree s es1) := b2
          rw [m1'] at b2'; cases b2'
          refine ⟨s, false, false, false, (), esr, rfl, rfl, ?_⟩
          rcases b3 with ⟨c1, c2, c3⟩ | ⟨id, cs, cep, mn, cap, c1, c2, c3, c4, c5, c6⟩
          · exact .inl ⟨by simp [c1], c2, c3⟩
          · exact .inr ⟨id, cs, cep, mn, cap, by simp [c1], c2, c3, c4, c5, c6⟩)
        exact ⟨max b σ'.n, fun N hN => ⟨by omega, by omega, v, hres, hb N (by omega)⟩⟩
      cases ex with
      | exit i => exact hs'.elim
      | normal =>
        obtain ⟨b, hb⟩ := main hs'
        exact ⟨b, fun N hN => ⟨(hb N hN).1, .inl rfl, (hb N hN).2⟩⟩
      | ret =>
        obtain ⟨b, hb⟩ := main hs'
        exact ⟨b, fun N hN => ⟨(hb N hN).1, .inr rfl, (hb N hN).2⟩⟩)
  exact ⟨b, fun N hN => CallW.body (RW := KW N) hfn hb hlen (hcode N hN)⟩
end Go.Ev
