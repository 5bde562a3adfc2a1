/- Lemmas over the model, without conditions of their own: calls on expressions. -/
import Derived.Test.YtggffkaadeagbaaGreatEvM
set_option linter.all false
namespace Go.Ev
variable {P : Program} {N : Nat} {σ σ' : St} {R R' : Rs} {φ φ' : Ph} {E : Nat → Env} {ν : List IV} {ro : Nat} {ι : Io} {w : World}
variable {C : Cr} {Q : IV → Prop} {K : List (List IV → Prop)} {V : SS} {d : Nat} {o : Oper} {k : PV SE → SS → FIR} {L : List (LO SE)} {Γ : Gm SE}
theorem canP_rv {fr : Bool} {x z : IV} (hi : (fun (_ : Nat) => (none : Option Nat)) = R) (hσ : σ = ⟨0, .lf⟩) (h : CanR fr R σ x z) : ∀ {u : Value}, Rv ι x u → Rv (frz ι.m) z u := by
  induction h with
  | raw v => intro u h; cases h; exact .raw v
  | nil s hs => intro u h; cases h; exact .treeE s none 0 hs (fun _ => rfl)
  | emp s hs => intro u h; cases h; exact .treeE s _ 0 hs (fun h => by cases h)
  | ifc t x y _ ih => intro u h; cases h with | ifc _ _ v hh => exact .ifc t y v (ih hh)
  | agg cs ds hl _ ih =>
    intro u h
    cases h with
    | agg _ vs hl' hh =>
      refine .agg ds vs (hl ▸ hl') fun i d v h1 h2 => ?_
      have hi' : i < cs.length := by have := (List.getElem?_eq_some_iff.1 h1).1; omega
      exact ih i _ d (List.getElem?_eq_getElem hi') h1 (hh i _ v (List.getElem?_eq_getElem hi') h2)
  | tup cs ds hl _ ih =>
    intro u h
    cases h with
    | tup _ vs hl' hh =>
      refine .tup ds vs (hl ▸ hl') fun i d v h1 h2 => ?_
      have hi' : i < cs.length := by have := (List.getElem?_eq_some_iff.1 h1).1; omega
      exact ih i _ d (List.getElem?_eq_getElem hi') h1 (hh i _ v (List.getElem?_eq_getElem hi') h2)
  | pure x hf hp => intro u h; exact hp.rv h (fun _ _ h => h)
  | sl id off len cap ep s m cs cep mn es hR => rw [← hi] at hR; cases hR
theorem PCall.callP {f : FuncId} {args xs : List IV} {z : IV} (h : PCall P false false f xs z) (hc : All2 CanP args xs) : SCall P ro f args σ z σ := by
  refine ⟨Nat.le_refl _, fun N hN ι us w hi hr => ?_⟩
  have hr' : RvL (frz ι.m) xs us := ⟨hc.len ▸ hr.1, fun i c v h1 h2 => by
    have hi' : i < args.length := by have := (List.getElem?_eq_some_iff.1 h1).1; rw [hc.len]; exact this
    exact canP_rv rfl rfl (hc.get (List.getElem?_eq_getElem hi') h1) (hr.2 i _ v (List.getElem?_eq_getElem hi') h2)⟩
  refine (h ι.m w us hi.mem hr').mono fun e w' hR => ?_
  cases e with
  | returned u => exact back_of hi (fun _ _ _ => Iff.rfl) hR.2
  | panicked ch => exact absurd hR.1 (by simp)
  | outgrown => exact hR.elim
def isTup (n : Nat) : IV → Bool
  | .tup vs => vs.length == n
  | _ => false
def tupOk (P : Program) (f : FuncId) (z : IV) : Bool :=
  match P.funcs[f]? with
  | some fn => fn.resultTypes.size == 1 || isTup fn.resultTypes.size z
  | none => false
def CrOk (P : Program) (C : Cr) : Prop := ∀ f new xs z, C f new xs z → (f < P.funcs.size → PCall P false new f xs z ∧ Pure z ∧ tupOk P f z = true) ∧
  ∀ g, f = P.funcs.size + g → ∃ s es xs' es', xs = .tree s es :: xs' ∧ z = .tree s es' ∧ RCall P s g es xs' es'
theorem plainC_ok {c : Cl SE} {fr : Bool} {z : SE} {V' : SS} (hp : allV [c] = true) (hr : rdC V c = some (fr, z, V')) {x : IV} (hx : VRc (evd P ν) R φ V.l σ x c) : ∃ y, z.den P ν = some y ∧ CanP x y := by
  cases c <;> simp only [allV] at hp <;> first | (cases hp; done) | skip
  · simp only [rdC, Option.some.injEq, Prod.mk.injEq] at hr
    obtain ⟨rfl, rfl, rfl⟩ := hr
    obtain ⟨y, h1, h2, _⟩ := hx
    exact ⟨y, h1, h2⟩
  · rename_i b s
    simp only [rdC, Option.some.injEq, Prod.mk.injEq] at hr
    obtain ⟨rfl, rfl, rfl⟩ := hr
    obtain ⟨h1, rfl⟩ := hx
    refine ⟨.tree s [], by simp [SE.den, h1], ?_⟩
    cases b
    · exact .emp s h1
    · exact .nil s h1
theorem rdC_plain {c : Cl SE} {fr : Bool} {z : SE} {V' : SS} (hp : allV [c] = true) (hr : rdC V c = some (fr, z, V')) : V' = V := by
  cases c <;> simp only [allV] at hp <;> first | (cases hp; done) | skip
  all_goals
    simp only [rdC, Option.some.injEq, Prod.mk.injEq] at hr
    exact hr.2.2.symm
theorem allV_cons {c : Cl SE} {cs : List (Cl SE)} (h : allV (c :: cs) = true) : allV [c] = true ∧ allV cs = true := by
  cases c <;> simp only [allV] at h ⊢ <;> first | (cases h; done) | exact ⟨trivial, h⟩
theorem plainCs_ok : ∀ {cs : List (Cl SE)} {fr : Bool} {zs : List SE} {V' : SS}, allV cs = true → rdCs V cs = some (fr, zs, V') → V' = V ∧ ∀ {xs : List IV}, All2 (VRc (evd P ν) R φ V.l σ) xs cs → ∃ ys, All2 (fun (z : SE) y => z.den P ν = some y) zs ys ∧ All2 CanP xs ys
  | [], fr, zs, V', _, hr => by
    simp only [rdCs, Option.some.injEq, Prod.mk.injEq] at hr
    obtain ⟨rfl, rfl, rfl⟩ := hr
    refine ⟨rfl, fun {xs} hx => ?_⟩
    cases xs with
    | nil => exact ⟨[], trivial, trivial⟩
    | cons => exact hx.elim
  | c :: cs, fr, zs, V', hp, hr => by
    obtain ⟨h1, h2⟩ := allV_cons hp
    simp only [rdCs] at hr
    split at hr
    · rename_i f1 z V1 hr1
      have e0 := rdC_plain h1 hr1
      rw [e0] at hr
      split at hr
      · rename_i f2 zs' V2 hr2
        simp only [Option.some.injEq, Prod.mk.injEq] at hr
        obtain ⟨rfl, rfl, rfl⟩ := hr
        obtain ⟨rfl, h3⟩ := plainCs_ok h2 hr2
        refine ⟨rfl, fun {xs} hx => ?_⟩
        cases xs with
        | nil => exact hx.elim
        | cons x xs =>
          obtain ⟨y, a1, a2⟩ := plainC_ok h1 hr1 hx.1
          obtain ⟨ys, b1, b2⟩ := h3 hx.2
          exact ⟨y :: ys, ⟨a1, b1⟩, ⟨a2, b2⟩⟩
      · cases hr
    · cases hr
theorem rdPV_ok {V' : SS} {pv : PV SE} {fr : Bool} {z : SE} (h : J (evd P ν) R φ V.g V.l E σ) (hr : rdPV V pv = some (fr, z, V')) (ht : ∀ vs, pv ≠ .tu vs) :
    ∃ R', Stand P ν R φ V σ R' V' ∧ J (evd P ν) R' φ V'.g V'.l E σ ∧ ∀ x, VR (evd P ν) R φ V.l σ x pv → ∃ y, z.den P ν = some y ∧ CanR fr R' σ x y := by
  cases pv with
  | one c =>
    obtain ⟨R', h1, h2, h3⟩ := rdC_ok h hr
    exact ⟨R', h1, h2, fun x hx => by obtain ⟨y, a, b, _⟩ := h3 x hx; exact ⟨y, a, b⟩⟩
  | ag cs =>
    simp only [rdPV] at hr
    split at hr
    · rename_i f zs V1 hr1
      simp only [Option.some.injEq, Prod.mk.injEq] at hr
      obtain ⟨rfl, rfl, rfl⟩ := hr
      obtain ⟨R', h1, h2, _, h3⟩ := rdCs_ok h hr1
      refine ⟨R', h1, h2, fun x hx => ?_⟩
      obtain ⟨xs, rfl, hx2⟩ := hx
      obtain ⟨ys, a, b, _⟩ := h3 xs hx2
      exact ⟨.agg ys, acs_den a, .agg xs ys b.len fun i c e h1 h2 => b.get h1 h2⟩
    · cases hr
  | tu vs => exact absurd rfl (ht vs)
theorem rdPV_plain {V' : SS} {pv : PV SE} {fr : Bool} {z : SE} (hp : plainPV pv = true) (hr : rdPV V pv = some (fr, z, V')) : V' = V ∧ ∀ {x : IV}, VR (evd P ν) R φ V.l σ x pv → ∃ y, z.den P ν = some y ∧ CanP x y := by
  cases pv with
  | one c => exact ⟨rdC_plain hp hr, fun {x} hx => plainC_ok hp hr hx⟩
  | ag cs =>
    simp only [rdPV] at hr
    split at hr
    · rename_i f zs V1 hr1
      simp only [Option.some.injEq, Prod.mk.injEq] at hr
      obtain ⟨rfl, rfl, rfl⟩ := hr
      obtain ⟨h1, h2⟩ := plainCs_ok (P := P) (ν := ν) (R := R) (φ := φ) (σ := σ) hp hr1
      refine ⟨h1, fun {x} hx => ?_⟩
      obtain ⟨xs, rfl, hx2⟩ := hx
      obtain ⟨ys, a, b⟩ := h2 hx2
      exact ⟨.agg ys, acs_den a, .agg xs ys b.len fun i c e h1 h2 => b.get h1 h2⟩
    · cases hr
  | tu vs => cases hp
theorem argR_ok : ∀ {pvs : List (PV SE)} {V V' : SS} {R : Rs} {zs : List SE}, J (evd P ν) R φ V.g V.l E σ → argR V pvs = some (zs, V') → noTu pvs = true →
    ∃ R', Stand P ν R φ V σ R' V' ∧ J (evd P ν) R' φ V'.g V'.l E σ ∧ ∀ xs, All2 (VR (evd P ν) R φ V.l σ) xs pvs → ∃ ys, All2 (fun (z : SE) y => z.den P ν = some y) zs ys ∧ All2 (CanR true R' σ) xs ys
  | [], V, V', R, zs, h, hr, _ => by
    simp only [argR, Option.some.injEq, Prod.mk.injEq] at hr
    obtain ⟨rfl, rfl⟩ := hr
    refine ⟨R, .refl h, h, fun xs hx => ?_⟩
    cases xs with
    | nil => exact ⟨[], trivial, trivial⟩
    | cons => exact hx.elim
  | pv :: pvs, V, V', R, zs, h, hr, ht => by
    have ht' : (∀ vs, pv ≠ .tu vs) ∧ noTu pvs = true := by
      cases pv <;> simp_all [noTu]
    simp only [argR] at hr
    split at hr
    · rename_i f z V1 hr1
      split at hr
      · rename_i zs' V2 hr2
        simp only [Option.some.injEq, Prod.mk.injEq] at hr
        obtain ⟨rfl, rfl⟩ := hr
        obtain ⟨R1, a1, a2, a3⟩ := rdPV_ok h hr1 ht'.1
        obtain ⟨R2, b1, b2, b3⟩ := argR_ok a2 hr2 ht'.2
        refine ⟨R2, a1.trans b1, b2, fun xs hx => ?_⟩
        cases xs with
        | nil => exact hx.elim
        | cons x xs =>
          obtain ⟨y, c1, c2⟩ := a3 x hx.1
          obtain ⟨ys, d1, d2⟩ := b3 xs (hx.2.mono fun _ _ hab => a1.vr hab)
          exact ⟨y :: ys, ⟨c1, d1⟩, ⟨(c2.mono b1.2.2.2.grow).old, d2⟩⟩
      · cases hr
    · cases hr
theorem argR_plain : ∀ {pvs : List (PV SE)} {V' : SS} {zs : List SE}, argR V pvs = some (zs, V') → pvs.all plainPV = true →
    V' = V ∧ ∀ {xs : List IV}, All2 (VR (evd P ν) R φ V.l σ) xs pvs → ∃ ys, All2 (fun (z : SE) y => z.den P ν = some y) zs ys ∧ All2 CanP xs ys
  | [], V', zs, hr, _ => by
    simp only [argR, Option.some.injEq, Prod.mk.injEq] at hr
    obtain ⟨rfl, rfl⟩ := hr
    refine ⟨rfl, fun {xs} hx => ?_⟩
    cases xs with
    | nil => exact ⟨[], trivial, trivial⟩
    | cons => exact hx.elim
  | pv :: pvs, V', zs, hr, hp => by
    simp only [List.all_cons, Bool.and_eq_true] at hp
    simp only [argR] at hr
    split at hr
    · rename_i f z V1 hr1
      obtain ⟨e1, a1⟩ := rdPV_plain (P := P) (ν := ν) (R := R) (φ := φ) (σ := σ) hp.1 hr1
      rw [e1] at hr
      split at hr
      · rename_i zs' V2 hr2
        simp only [Option.some.injEq, Prod.mk.injEq] at hr
        obtain ⟨rfl, rfl⟩ := hr
        obtain ⟨e2, b1⟩ := argR_plain hr2 hp.2
        refine ⟨e2, fun {xs} hx => ?_⟩
        cases xs with
        | nil => exact hx.elim
        | cons x xs =>
          obtain ⟨y, c1, c2⟩ := a1 hx.1
          obtain ⟨ys, d1, d2⟩ := b1 hx.2
          exact ⟨y :: ys, ⟨c1, d1⟩, ⟨c2, d2⟩⟩
      · cases hr
    · cases hr
theorem ofType_ok {t : TypeId} {e : SE} {z : IV} {f : FIR} (hz : e.den P ν = some z) (hp : Pure z) (hs : (needT P t e f).sat P C Q K ν) : f.sat P C Q K ν ∧ VR (evd P ν) R φ L σ z (ofType P t e) ∧ VR1 (evd P ν) R φ L σ z (isAgg P t, cellsP (ofType P t e)) := by
  unfold needT at hs
  unfold ofType
  by_cases ha : isAgg P t = true
  · rw [if_pos ha] at hs
    obtain ⟨⟨y, hy⟩, hk⟩ := hs
    simp only [SE.den, hz, Option.bind_some] at hy
    split at hy
    · rename_i cs
      split at hy
      · rename_i hc
        have hall : All2 (VRc (evd P ν) R φ L σ) cs ((List.range ((sizeOf? P t).getD 0)).map fun j => Cl.v (SE.fld e j)) := by
          refine .mk (by simp [hc.1]) fun i a b h1 h2 => ?_
          have hi := (List.getElem?_eq_some_iff.1 h1).1
          rw [List.getElem?_map, List.getElem?_range (by omega)] at h2
          simp only [Option.map_some, Option.some.injEq] at h2
          subst h2
          have hok : Ev.cellOk a = true := (List.all_eq_true.1 hc.2) a (List.mem_of_getElem? h1)
          have hpa : Pure a := by cases hp with | agg _ hh => exact hh a (List.mem_of_getElem? h1)
          exact ⟨a, by simp [evd, SE.den, hz, h1, okc, hok], .pure a rfl hpa, hok⟩
        simp only [ha, if_true]
        exact ⟨hk, ⟨cs, rfl, hall⟩, by simp only [VR1, if_true, cellsP]; exact ⟨cs, rfl, hall⟩⟩
      · cases hy
    · cases hy
  · rw [if_neg ha] at hs
    obtain ⟨⟨y, hy⟩, hk⟩ := hs
    obtain ⟨h1, h2⟩ := den_ok hy
    rw [hz] at h1; cases h1
    have hv : VRc (evd P ν) R φ L σ z (.v (.ok e)) := ⟨z, hy, .pure z rfl hp, h2⟩
    rw [if_neg ha]
    refine ⟨hk, hv, ?_⟩
    simp only [VR1, cellsP]
    rw [if_neg (by simpa using ha)]
    exact ⟨_, rfl, hv⟩
theorem ofTypes_ok {e : SE} {vs : List IV} {f : FIR} (hz : e.den P ν = some (.tup vs)) (hp : ∀ v ∈ vs, Pure v) : ∀ {ts : List TypeId} {j : Nat}, (needTs P e j ts f).sat P C Q K ν → j + ts.length = vs.length → f.sat P C Q K ν ∧ All2 (VR1 (evd P ν) R φ L σ) (vs.drop j) (ofTypes P e j ts)
  | [], j, hs, hl => by
    simp at hl
    rw [List.drop_of_length_le (by omega)]
    exact ⟨hs, trivial⟩
  | t :: ts, j, hs, hl => by
    simp at hl
    have hj : j < vs.length := by omega
    have hd : (SE.proj e j).den P ν = some vs[j] := by simp [SE.den, hz, hj]
    obtain ⟨h1, _, h3⟩ := ofType_ok (R := R) (φ := φ) (L := L) (σ := σ) hd (hp _ (List.getElem_mem hj)) hs
    obtain ⟨h4, h5⟩ := ofTypes_ok hz hp h1 (by omega)
    refine ⟨h4, ?_⟩
    rw [List.drop_eq_getElem_cons hj]
    exact ⟨h3, h5⟩
theorem contS_ok {fn : Func} {e : SE} {z : IV} (hz : e.den P ν = some z) (hp : Pure z) (ht : fn.resultTypes.size ≠ 1 → isTup fn.resultTypes.size z = true) (hs : (contS P fn V e k).sat P C Q K ν) : ∃ pv, (k pv V).sat P C Q K ν ∧ VR (evd P ν) R φ L σ z pv := by
  unfold contS at hs
  split at hs
  · rename_i t _
    obtain ⟨h1, h2, _⟩ := ofType_ok (R := R) (φ := φ) (L := L) (σ := σ) hz hp hs
    exact ⟨_, h1, h2⟩
  · rename_i hn
    have hsz : fn.resultTypes.size ≠ 1 := by
      intro h
      have : fn.resultTypes.toList.length = 1 := by simpa using h
      obtain ⟨t, ht⟩ := List.length_eq_one_iff.1 this
      exact hn t ht
    have := ht hsz
    unfold isTup at this
    split at this
    · rename_i vs
      have hl : vs.length = fn.resultTypes.size := by simpa using this
      obtain ⟨h1, h2⟩ := ofTypes_ok (R := R) (φ := φ) (L := L) (σ := σ) (j := 0) hz (fun v hv => by cases hp with | tup _ hh => exact hh v hv) hs (by simp [hl])
      exact ⟨_, h1, vs, rfl, by simpa using h2⟩
    · cases this
end Go.Ev
namespace Go.Ev
variable {P : Program} {N : Nat} {σ σ' : St} {R R' : Rs} {φ φ' : Ph} {E : Nat → Env} {ν : List IV} {ro : Nat} {ι : Io} {w : World} {cfg : Cfg} {self : Exec}
variable {C : Cr} {Q : IV → Prop} {K : List (List IV → Prop)} {V : SS} {d f0 : Nat} {o : Oper} {k : PV SE → SS → FIR} {L : List (LO SE)} {Γ : Gm SE}
theorem pts_ok {ys : List IV} {bs : List (Nat × Nat)} (h : All2 (fun y (p : Nat × Nat) => ∃ id cs, φ p.1 = some id ∧ L[p.1]? = some (.var cs) ∧ y = .ptr id 0 0 p.2) ys bs) : All2 (VR (evd P ν) R φ L σ) ys (bs.map fun (p : Nat × Nat) => .one (.pt p.1 0 p.2)) :=
  h.map (f := fun (p : Nat × Nat) => PV.one (Cl.pt p.1 0 p.2)) fun _ _ h => h
theorem xcallee_ok {x : IV} {g : FuncId} {bs : List (Nat × Nat)} {args : List IV} {fn : Func} (hx : VR (evd P ν) R φ L σ x (.one (.fn g bs))) (hfn : P.funcs[g]? = some fn) (hb : fn.body.isSome = true) (hname : (fn.name != "runtime.NumGoroutine") = true) :
    ∃ ys, calleeI P x args = some (.enter g (args ++ ys)) ∧ All2 (VR (evd P ν) R φ L σ) ys (bs.map fun (p : Nat × Nat) => .one (.pt p.1 0 p.2)) := by
  rcases hx with ⟨rfl, rfl⟩ | ⟨ys, rfl, h⟩
  · refine ⟨[], ?_, trivial⟩
    simp only [calleeI, hfn, hb, hname, Array.size_empty, List.append_nil]
    simp
  · refine ⟨ys, ?_, pts_ok h⟩
    simp only [calleeI, hfn, hb, hname, List.nil_append, Bool.and_self, if_true]
theorem canL_of {xs ys : List IV} (h : All2 (CanR true R σ) xs ys) : CanL true σ xs ys := ⟨h.len, fun _ _ _ h1 h2 => (h.get h1 h2).can⟩
def OutC (P : Program) (C : Cr) (Q : IV → Prop) (K : List (List IV → Prop)) (ν : List IV) (E : Nat → Env) (lv : Nat × Nat) (k : PV SE → SS → FIR) (φ : Ph) (σ : St) (res : FuncId → List IV → Prop) : Prop :=
  ∃ g args z R1 pv V1 μ, res g args ∧ (∀ ro, SCall P ro g args σ z σ) ∧ J (evd P (ν ++ μ)) R1 φ V1.g V1.l E σ ∧ VR (evd P (ν ++ μ)) R1 φ V1.l σ z pv ∧ (ν ++ μ).length = V1.n ∧ V1.ln = lv ∧ (k pv V1).sat P C Q K (ν ++ μ)
theorem callC_ok (hC : CrOk P C) (hJ : J (evd P ν) R φ V.g V.l E σ) (hn : ν.length = V.n) {c : Call} {f : Operand} {g : FuncId} (ho : o.op = .call c) (hc : c.callee = .value f) (hf : opdS P d V 0 f = .one (.fn g [])) {zs : List SE} {V' : SS} {fn : Func}
    (hr : argR V (argsS P d V c.args.toList c.argTypes.toList) = some (zs, V')) (hfn : P.funcs[g]? = some fn) (hb : fn.body.isSome = true) (hname : (fn.name != "runtime.NumGoroutine") = true) (ht : noTu (argsS P d V c.args.toList c.argTypes.toList) = true)
    (hs : (FIR.call g (!(argsS P d V c.args.toList c.argTypes.toList).all plainPV) (acs zs) (contS P fn { V' with n := V'.n + 1 } (.var V'.n) k)).sat P C Q K ν) :
    OutC P C Q K ν E V.ln k φ σ (fun g args => evOp P 0 (evalI (E d)) o σ = some (.enter g args)) := by
  obtain ⟨xs, z, h1, h2, h3⟩ := hs
  obtain ⟨hpc, hpz, htu⟩ := (hC _ _ _ _ h2).1 (Array.getElem?_eq_some_iff.1 hfn).1
  have hargs := argsS_ok hJ d c.args.toList c.argTypes.toList
  have hfv := opd_ok hJ d 0 f
  rw [hf] at hfv
  obtain ⟨ys, hcal, hys⟩ := xcallee_ok (args := c.args.toList.map (evalI (E d))) hfv hfn hb hname
  have hys0 : ys = [] := by
    cases ys with
    | nil => rfl
    | cons => exact hys.elim
  subst hys0
  rw [List.append_nil] at hcal
  have hev : evOp P 0 (evalI (E d)) o σ = some (.enter g (c.args.toList.map (evalI (E d)))) := by
    simp only [evOp, ho, hc]; exact hcal
  have htup : fn.resultTypes.size ≠ 1 → isTup fn.resultTypes.size z = true := by
    intro hne
    unfold tupOk at htu
    rw [hfn] at htu
    simp only [Bool.or_eq_true, beq_iff_eq] at htu
    exact htu.resolve_left hne
  have hden : ∀ {us : List IV}, All2 (fun (z : SE) y => z.den P ν = some y) zs us → xs = us := by
    intro us hu
    unfold denL at h1
    rw [acs_den hu] at h1
    cases h1; rfl
  obtain ⟨R1, hst, hJ1, hrd⟩ := argR_ok hJ hr ht
  obtain ⟨us, b1, b2⟩ := hrd _ hargs
  have hxs := hden b1
  subst hxs
  have hscall : ∀ ro, SCall P ro g (c.args.toList.map (evalI (E d))) σ z σ := by
    intro ro
    by_cases hall : (argsS P d V c.args.toList c.argTypes.toList).all plainPV = true
    · rw [hall] at hpc
      obtain ⟨_, hpl⟩ := argR_plain (P := P) (ν := ν) (R := R) (φ := φ) (σ := σ) hr hall
      obtain ⟨us', c1, c2⟩ := hpl hargs
      have := hden c1
      subst this
      exact PCall.callP hpc c2
    · have hf : (argsS P d V c.args.toList c.argTypes.toList).all plainPV = false := by simpa using hall
      rw [hf] at hpc
      exact PCall.callC hpc (canL_of b2)
  have hn1 : ν.length = V'.n := by rw [hn, hst.2.1]
  have hJ2 := hJ1.up (ev' := evd P (ν ++ [z])) (fun e y h => SE.den_app P e h)
  have hvar : (SE.var V'.n).den P (ν ++ [z]) = some z := by simp [SE.den, ← hn1]
  obtain ⟨pv, hk, hv⟩ := contS_ok (R := R1) (φ := φ) (L := V'.l) (σ := σ) hvar hpz htup h3
  exact ⟨g, _, z, R1, pv, { V' with n := V'.n + 1 }, [z], hev, hscall, hJ2, hv, by simp [hn1], hst.2.2.1, hk⟩
theorem put_n (e : Env) (dst : Option Nat) (x : IV) : (e.put dst x).n = e.n := by simp [Env.n_put]
theorem setSlot_ok {V1 : SS} {x : IV} {pv : PV SE} {dst : Option Nat} (hJ : J (evd P ν) R φ V1.g V1.l E σ) (hx : VR (evd P ν) R φ V1.l σ x pv) (hd : ∀ t, dst = some t → t < (E d).n) : J (evd P ν) R φ (V1.setSlot d dst pv).g (V1.setSlot d dst pv).l (setE E d ((E d).put dst x)) σ := by
  cases dst with
  | none => exact hJ.putE (Γ' := V1.g) d none x (fun t h => by cases h) (fun _ => rfl)
  | some t => exact hJ.put d (hd t rfl) hx
theorem delSlot_ok {V1 : SS} {x : IV} {dst : Option Nat} (hJ : J (evd P ν) R φ V1.g V1.l E σ) : J (evd P ν) R φ (V1.delSlot d dst).g (V1.delSlot d dst).l (setE E d ((E d).put dst x)) σ := by
  cases dst with
  | none => exact hJ.putE (Γ' := V1.g) d none x (fun t h => by cases h) (fun _ => rfl)
  | some t => exact hJ.putE (Γ' := gdel d t V1.g) d (some t) x (fun t' h => by cases h; rfl) (fun h => by cases h)
@[simp] theorem setSlot_n (V1 : SS) (dst : Option Nat) (pv : PV SE) : (V1.setSlot d dst pv).n = V1.n := by cases dst <;> rfl
@[simp] theorem setSlot_ln (V1 : SS) (dst : Option Nat) (pv : PV SE) : (V1.setSlot d dst pv).ln = V1.ln := by cases dst <;> rfl
@[simp] theorem setSlot_l (V1 : SS) (dst : Option Nat) (pv : PV SE) : (V1.setSlot d dst pv).l = V1.l := by cases dst <;> rfl
@[simp] theorem delSlot_n (V1 : SS) (dst : Option Nat) : (V1.delSlot d dst).n = V1.n := by cases dst <;> rfl
@[simp] theorem delSlot_ln (V1 : SS) (dst : Option Nat) : (V1.delSlot d dst).ln = V1.ln := by cases dst <;> rfl
theorem J.refine (hJ : J (evd P ν) R φ V.g V.l E σ) {t : Nat} {e : SE} {b : Bool} (hg : gget d t V.g = some (.one (.v e)) ∨ ∃ f, gget d t V.g = some (.one (.w f e))) (he : e.den P ν = some (.bool b)) : (E d).at t = .raw (.bool b) ∧ J (evd P ν) R φ (V.setSlot d (some t) (.one (.v (.b b)))).g V.l E σ := by
  have hat : (E d).at t = .raw (.bool b) := by
    rcases hg with hg | ⟨f, hg⟩
    · obtain ⟨y, h1, h2, _⟩ := hJ.slot d t _ hg
      have h1' : e.den P ν = some y := h1
      rw [he] at h1'; cases h1'
      exact canRaw h2
    · obtain ⟨y, h1, h2, _⟩ := hJ.slot d t _ hg
      have h1' : e.den P ν = some y := h1
      rw [he] at h1'; cases h1'
      exact canRaw h2
  refine ⟨hat, { hJ with slot := fun d' t' pv' hg' => ?_ }⟩
  rcases gget_cons hg' with ⟨rfl, rfl, rfl⟩ | ⟨_, h3⟩
  · exact ⟨.raw (.bool b), rfl, by rw [hat]; exact .raw _, rfl⟩
  · exact hJ.slot d' t' pv' (gget_del V.g h3).2
theorem wantS_ok (hJ : J (evd P ν) R φ V.g V.l E σ) (hnt : (E d).n = V.nt) {ops : Array Oper} :
    (wantS ops d V o = .run → wantedI o ops (E d) = true) ∧ (wantS ops d V o = .skip → wantedI o ops (E d) = false) ∧
    ∀ t e want, wantS ops d V o = .test t e want → (gget d t V.g = some (.one (.v e)) ∨ ∃ f, gget d t V.g = some (.one (.w f e))) ∧ ∀ b, (E d).at t = .raw (.bool b) → wantedI o ops (E d) = (b == want) := by
  unfold wantS wantedI
  cases o.guard with
  | none => simp
  | some p =>
    obtain ⟨j, want⟩ := p
    simp only
    cases hd : (ops[j]?).bind (·.dst) with
    | none => simp
    | some t =>
      simp only
      by_cases hlt : Nat.blt t V.nt = true
      · rw [hnt, hlt]
        simp only [Bool.not_true, if_true]
        cases hg : gget d t V.g with
        | none => simp
        | some pv =>
          have hs := hJ.slot d t pv hg
          cases pv with
          | ag | tu => simp
          | one c =>
            cases c with
            | v e =>
              cases e with
              | b x =>
                obtain ⟨y, h1, h2, _⟩ := hs
                simp only [evd, SE.den, Option.some.injEq] at h1
                subst h1
                rw [canRaw h2]
                simp only
                refine ⟨fun h => ?_, fun h => ?_, fun t e w h => ?_⟩
                · simp only [Bool.false_eq_true, if_false] at h
                  split at h
                  · assumption
                  · cases h
                · simp only [Bool.false_eq_true, if_false] at h
                  split at h
                  · cases h
                  · rename_i hh; simpa using hh
                · simp only [Bool.false_eq_true, if_false] at h
                  split at h <;> cases h
              | _ =>
                refine ⟨fun h => by simp at h, fun h => by simp at h, fun t' e' w' h => ?_⟩
                simp only [Bool.false_eq_true, if_false, Want.test.injEq] at h
                obtain ⟨rfl, rfl, rfl⟩ := h
                exact ⟨.inl hg, fun b hb => by rw [hb]⟩
            | w f e =>
              refine ⟨fun h => by simp at h, fun h => by simp at h, fun t' e' w' h => ?_⟩
              simp only [Bool.false_eq_true, if_false, Want.test.injEq] at h
              obtain ⟨rfl, rfl, rfl⟩ := h
              exact ⟨.inr ⟨f, hg⟩, fun b hb => by rw [hb]⟩
            | _ => simp
      · have hlt' : Nat.blt t V.nt = false := by cases h : Nat.blt t V.nt; rfl; exact absurd h hlt
        rw [hlt']
        simp
end Go.Ev
namespace Go.Ev
variable {P : Program} {N : Nat} {σ σ' : St} {R R' : Rs} {φ φ' : Ph} {E : Nat → Env} {ν : List IV} {ro : Nat} {ι : Io} {w : World} {cfg : Cfg} {self : Exec}
variable {C : Cr} {Q : IV → Prop} {K : List (List IV → Prop)} {V : SS} {d f0 : Nat} {o : Oper} {k : PV SE → SS → FIR} {L : List (LO SE)} {Γ : Gm SE} {rd : Option Nat} {df : List Df}
def exI : Ex2 → Ex
  | .normal => .normal
  | .exit i => .exit i
  | .ret => .ret
structure Fwd (P : Program) (d : Nat) (E : Nat → Env) (K : List (List IV → Prop)) (ν : List IV) (nt : Nat) (V' : SS) (μ : List IV) (K' : List (List IV → Prop)) (R' : Rs) (φ' : Ph) (E' : Nat → Env) (σ' : St) : Prop where
  hK : K <+: K'
  hlv : K'.length = V'.lv
  hnt : V'.nt = nt
  hJ : J (evd P (ν ++ μ)) R' φ' V'.g V'.l E' σ'
  hn : (ν ++ μ).length = V'.n
  hE : ∀ j, j < d → E' j = E j
  hEn : (E' d).n = (E d).n
def KW (P : Program) (C : Cr) (Q : IV → Prop) (d : Nat) (E : Nat → Env) (K : List (List IV → Prop)) (ν : List IV) (nt : Nat) (k : Ex2 → SS → FIR) (CW : Nat → Outs) : Prop :=
  ∀ ex (V' : SS) μ K' R' φ' E' σ', Fwd P d E K ν nt V' μ K' R' φ' E' σ' → (k ex V').sat P C Q K' (ν ++ μ) → ∃ b, ∀ N, b ≤ N → σ'.n ≤ N ∧ CW N (exI ex) (E' d) σ'
def KS (P : Program) (C : Cr) (Q : IV → Prop) (d : Nat) (E : Nat → Env) (K : List (List IV → Prop)) (ν : List IV) (nt : Nat) (k : SS → FIR) (CW : Nat → Env → St → Prop) : Prop :=
  ∀ (V' : SS) μ K' R' φ' E' σ', Fwd P d E K ν nt V' μ K' R' φ' E' σ' → (k V').sat P C Q K' (ν ++ μ) → ∃ b, ∀ N, b ≤ N → σ'.n ≤ N ∧ CW N (E' d) σ'
def SelfW (P : Program) (C : Cr) (Q : IV → Prop) (self : Exec) : Prop :=
  ∀ d f c (V : SS) k ν K R φ E σ CW rd df, (self d f c V k).sat P C Q K ν → J (evd P ν) R φ V.g V.l E σ → ν.length = V.n → K.length = V.lv → (E d).n = V.nt → KW P C Q d E K ν V.nt k CW → ∃ b, ∀ N, b ≤ N → CodeW P N rd c (E d) df σ (CW N)
theorem Fwd.trans {nt : Nat} {V1 V2 : SS} {μ1 μ2 : List IV} {K1 K2 : List (List IV → Prop)} {R1 R2 : Rs} {φ1 φ2 : Ph} {E1 E2 : Nat → Env} {σ1 σ2 : St} (h1 : K <+: K1) (h2 : ∀ j, j < d → E1 j = E j) (h3 : (E1 d).n = (E d).n)
    (h : Fwd P d E1 K1 (ν ++ μ1) nt V2 μ2 K2 R2 φ2 E2 σ2) : Fwd P d E K ν nt V2 (μ1 ++ μ2) K2 R2 φ2 E2 σ2 where
  hK := h1.trans h.hK
  hlv := h.hlv
  hnt := h.hnt
  hJ := by rw [← List.append_assoc]; exact h.hJ
  hn := by rw [← List.append_assoc]; exact h.hn
  hE := fun j hj => (h.hE j hj).trans (h2 j hj)
  hEn := h.hEn.trans h3
theorem KW.fwd {nt : Nat} {kk : Ex2 → SS → FIR} {CW : Nat → Outs} {μ1 : List IV} {K1 : List (List IV → Prop)} {E1 : Nat → Env} (h : KW P C Q d E K ν nt kk CW) (h1 : K <+: K1) (h2 : ∀ j, j < d → E1 j = E j) (h3 : (E1 d).n = (E d).n) : KW P C Q d E1 K1 (ν ++ μ1) nt kk CW :=
  fun ex V' μ K' R' φ' E' σ' hf hs => h ex V' (μ1 ++ μ) K' R' φ' E' σ' (Fwd.trans (V1 := V') (R1 := R') (φ1 := φ') (σ1 := σ') h1 h2 h3 hf) (by rw [← List.append_assoc]; exact hs)
theorem KS.fwd {nt : Nat} {kk : SS → FIR} {CW : Nat → Env → St → Prop} {μ1 : List IV} {K1 : List (List IV → Prop)} {E1 : Nat → Env} (h : KS P C Q d E K ν nt kk CW) (h1 : K <+: K1) (h2 : ∀ j, j < d → E1 j = E j) (h3 : (E1 d).n = (E d).n) : KS P C Q d E1 K1 (ν ++ μ1) nt kk CW :=
  fun V' μ K' R' φ' E' σ' hf hs => h V' (μ1 ++ μ) K' R' φ' E' σ' (Fwd.trans (V1 := V') (R1 := R') (φ1 := φ') (σ1 := σ') h1 h2 h3 hf) (by rw [← List.append_assoc]; exact hs)
theorem Fwd.here (hJ : J (evd P ν) R φ V.g V.l E σ) (hn : ν.length = V.n) (hK : K.length = V.lv) : Fwd P d E K ν V.nt V [] K R φ E σ :=
  ⟨List.prefix_refl _, hK, rfl, by rw [List.append_nil]; exact hJ, by rw [List.append_nil]; exact hn, fun _ _ => rfl, rfl⟩
theorem KS.now {kk : SS → FIR} {CW : Nat → Env → St → Prop} (h : KS P C Q d E K ν V.nt kk CW) (hJ : J (evd P ν) R φ V.g V.l E σ) (hn : ν.length = V.n) (hK : K.length = V.lv) (hs : (kk V).sat P C Q K ν) : ∃ b, ∀ N, b ≤ N → σ.n ≤ N ∧ CW N (E d) σ :=
  h V [] K R φ E σ (.here hJ hn hK) (by rw [List.append_nil]; exact hs)
theorem KW.now {kk : Ex2 → SS → FIR} {CW : Nat → Outs} (h : KW P C Q d E K ν V.nt kk CW) (hJ : J (evd P ν) R φ V.g V.l E σ) (hn : ν.length = V.n) (hK : K.length = V.lv) {ex : Ex2} (hs : (kk ex V).sat P C Q K ν) : ∃ b, ∀ N, b ≤ N → σ.n ≤ N ∧ CW N (exI ex) (E d) σ :=
  h ex V [] K R φ E σ (.here hJ hn hK) (by rw [List.append_nil]; exact hs)
theorem loadPV_ok (hJ : J (evd P ν) R φ V.g V.l E σ) {t : TypeId} {pa pv : PV SE} {x : IV} (hx : VR (evd P ν) R φ V.l σ x pa) (hl : loadPV P t pa V = some pv) :
    ∃ id off ext s ics v, x = .ptr id off 0 ext ∧ sizeOf? P t = some s ∧ σ.at id = some (.cells ics 0 0) ∧ s ≤ ext ∧ partOf P t ics off = some v ∧ VR (evd P ν) R φ V.l σ v pv := by
  unfold loadPV at hl
  split at hl <;> first | (cases hl; done) | skip
  rename_i s b j off ext hsz hag
  split at hl <;> first | (cases hl; done) | skip
  rename_i cs hj
  split at hl <;> first | (cases hl; done) | skip
  rename_i hle
  simp only [Bool.and_eq_true, Nat.ble_eq] at hle
  obtain ⟨id, cs0, h1, h2, rfl⟩ := hx
  obtain ⟨id', ics, h3, h4, h5, h6⟩ := hJ.obj j _ hj
  rw [h1] at h3; cases h3
  have hpv : if isAgg P t = true then pv = .ag ((cs.drop off).take s) else ∃ c, (cs.drop off).take s = [c] ∧ pv = .one c := by
    split at hl
    · rename_i ha; cases hl; rw [if_pos ha]
    · rename_i ha
      rw [if_neg ha]
      split at hl
      · rename_i c hc; cases hl; exact ⟨c, hc, rfl⟩
      · cases hl
  obtain ⟨v, hv, hr⟩ := part_ok hsz hag h6 hle.2 hpv
  exact ⟨id, off, ext, s, ics, v, rfl, hsz, h5, hle.1, hv, hr⟩
def oneR (P : Program) (e : Env) (σ : St) (r : ResultVar) : Option IV :=
  match r with
  | .tmp t => some (e.at t)
  | .cell a t => match e.at a with
    | .ptr id off ep ext => match sizeOf? P t, σ.at id with
      | some s, some (.cells cs cep mn) => if s ≤ ext ∧ mn ≤ ep ∧ ep ≤ cep then partOf P t cs off else none
      | _, _ => none
    | _ => none
theorem resS_ok (hJ : J (evd P ν) R φ V.g V.l E σ) : ∀ {rs : List ResultVar} {pvs : List (PV SE)}, resS P d V rs = some pvs → ∃ vs, rs.mapM (oneR P (E d) σ) = some vs ∧ All2 (VR (evd P ν) R φ V.l σ) vs pvs
  | [], pvs, h => by
    simp only [resS, Option.some.injEq] at h
    subst h
    exact ⟨[], rfl, trivial⟩
  | .tmp t :: rs, pvs, h => by
    simp only [resS] at h
    split at h
    · rename_i pvs' hp
      cases h
      obtain ⟨vs, h1, h2⟩ := resS_ok hJ hp
      refine ⟨(E d).at t :: vs, by simp [List.mapM_cons, oneR, h1], ?_, h2⟩
      exact opd_ok hJ d 0 (.tmp t)
    · cases h
  | .cell a t :: rs, pvs, h => by
    simp only [resS] at h
    split at h
    · rename_i pa hpa
      split at h
      · rename_i pv pvs' hl hp
        cases h
        obtain ⟨vs, h1, h2⟩ := resS_ok hJ hp
        obtain ⟨id, off, ext, s, ics, v, g1, g2, g3, g4, g5, g6⟩ := loadPV_ok hJ (hJ.slot d a pa hpa) hl
        refine ⟨v :: vs, ?_, g6, h2⟩
        have : oneR P (E d) σ (.cell a t) = some v := by simp [oneR, g1, g2, g3, g4, g5]
        simp [List.mapM_cons, this, h1]
      · cases h
    · cases h
def tupV : List IV → IV
  | [v] => v
  | l => .tup l
theorem tuOf_ok {vs : List IV} {pvs : List (PV SE)} (h : All2 (VR (evd P ν) R φ L σ) vs pvs) : VR (evd P ν) R φ L σ (tupV vs) (tuOf pvs) := by
  have conv : ∀ {x : IV} {pv : PV SE}, VR (evd P ν) R φ L σ x pv → VR1 (evd P ν) R φ L σ x (match pv with | .one c => (false, [c]) | .ag cs => (true, cs) | .tu _ => (false, [.un])) := by
    intro x pv hx
    cases pv with
    | one c => exact ⟨c, rfl, hx⟩
    | ag cs => exact hx
    | tu vs => exact ⟨.un, rfl, trivial⟩
  match vs, pvs, h with
  | [], [], _ => trivial
  | [v], [pv], h => exact h.1
  | v :: v' :: vs, pv :: pv' :: pvs, h => exact ⟨_, rfl, h.map fun _ _ hab => conv hab⟩
theorem result_ok {fn : Func} {e : Env} {vs : List IV} (h : fn.results.toList.mapM (oneR P e σ) = some vs) : resultOf P fn e σ = some (tupV vs) := by
  unfold resultOf
  simp only
  have hone : ∀ r, (match r with
      | ResultVar.tmp t => some (e.at t)
      | ResultVar.cell a t => match e.at a with
        | .ptr id off ep ext => match sizeOf? P t, σ.at id with
          | some s, some (.cells cs cep mn) => if s ≤ ext ∧ mn ≤ ep ∧ ep ≤ cep then partOf P t cs off else none
          | _, _ => none
        | _ => none) = oneR P e σ r := fun r => rfl
  generalize hl : fn.results.toList = l at h ⊢
  match l, h with
  | [], h => simp [List.mapM_nil] at h; subst h; rfl
  | [r], h =>
    simp only [List.mapM_cons, List.mapM_nil] at h
    cases ho : oneR P e σ r with
    | none => rw [ho] at h; simp at h
    | some v => rw [ho] at h; simp at h; subst h; exact ho
  | r :: r' :: rs, h =>
    have hlen : ∃ v v' vs', vs = v :: v' :: vs' := by
      simp only [List.mapM_cons] at h
      cases h1 : oneR P e σ r with
      | none => rw [h1] at h; simp at h
      | some v =>
        cases h2 : oneR P e σ r' with
        | none => rw [h1, h2] at h; simp at h
        | some v' =>
          cases h3 : rs.mapM (oneR P e σ) with
          | none => rw [h1, h2, h3] at h; simp at h
          | some vs' => rw [h1, h2, h3] at h; simp at h; exact ⟨v, v', vs', h.symm⟩
    obtain ⟨v, v', vs', rfl⟩ := hlen
    have h' : (r :: r' :: rs).mapM (oneR P e σ) = some (v :: v' :: vs') := h
    have e2 : (match (r :: r' :: rs).mapM (oneR P e σ) with | some vs => some (IV.tup vs) | none => none) = some (tupV (v :: v' :: vs')) := by rw [h']; rfl
    exact e2
end Go.Ev
namespace Go.Ev
variable {P : Program} {N : Nat} {σ σ' : St} {R R' : Rs} {φ φ' : Ph} {E : Nat → Env} {ν : List IV} {ro : Nat} {ι : Io} {w : World} {cfg : Cfg} {self : Exec}
variable {C : Cr} {Q : IV → Prop} {K : List (List IV → Prop)} {V : SS} {d f0 : Nat} {o : Oper} {k : PV SE → SS → FIR} {L : List (LO SE)} {Γ : Gm SE} {rd : Option Nat} {df : List Df}
theorem setE_lt (E : Nat → Env) (d : Nat) (e : Env) {j : Nat} (h : j ≠ d) : setE E d e j = E j := by simp [setE, h]
theorem gget_append {α : Type} {d t : Nat} {pv : PV α} : ∀ {g h : List (Nat × Nat × PV α)}, gget d t (g ++ h) = some pv → gget d t g = some pv ∨ gget d t h = some pv
  | [], h, hg => .inr hg
  | (a, b, q) :: g, h, hg => by
    simp only [List.cons_append, gget] at hg ⊢
    split at hg
    · rename_i hc; rw [if_pos hc]; exact .inl hg
    · rename_i hc; rw [if_neg hc]; exact gget_append hg
theorem gget_setArgs {α : Type} {d d' t : Nat} {pv : PV SE} : ∀ {pvs : List (PV SE)} {j : Nat}, gget d' t (setArgs d j pvs) = some pv → d' = d ∧ j ≤ t ∧ pvs[t - j]? = some pv
  | [], j, h => by cases h
  | q :: pvs, j, h => by
    simp only [setArgs] at h
    rcases gget_cons h with ⟨rfl, rfl, rfl⟩ | ⟨hne, h2⟩
    · simp
    · obtain ⟨rfl, h3, h4⟩ := gget_setArgs (α := α) h2
      refine ⟨rfl, by omega, ?_⟩
      rw [show t - j = (t - (j + 1)) + 1 by omega]
      simpa using h4
theorem gget_dropG {d d' t : Nat} {pv : PV SE} : ∀ {g : List (Nat × Nat × PV SE)}, gget d' t (dropG d g) = some pv → d' ≠ d ∧ gget d' t g = some pv
  | [], h => by cases h
  | (a, b, q) :: g, h => by
    simp only [dropG] at h
    split at h
    · rename_i hc
      have hc' := Nat.eq_of_beq_eq_true hc
      obtain ⟨h1, h2⟩ := gget_dropG h
      refine ⟨h1, ?_⟩
      unfold gget
      rw [if_neg]
      · exact h2
      · simp only [Bool.and_eq_true, Nat.beq_eq]
        rintro ⟨rfl, _⟩; exact h1 hc'
    · rename_i hc
      have hc' : a ≠ d := by intro h; subst h; simp at hc
      rcases gget_cons h with ⟨rfl, rfl, rfl⟩ | ⟨hne, h2⟩
      · exact ⟨hc', by simp [gget]⟩
      · obtain ⟨h3, h4⟩ := gget_dropG h2
        refine ⟨h3, ?_⟩
        unfold gget
        rw [if_neg (by simpa only [Bool.and_eq_true, Nat.beq_eq] using hne)]
        exact h4
theorem foldPut_at : ∀ (args : List IV) (j : Nat) (e : Env) (t : Nat), j + args.length ≤ e.n → ((args.zipIdx j).foldl (fun e (p : IV × Nat) => e.put (some p.2) p.1) e).n = e.n ∧
    (((args.zipIdx j).foldl (fun e (p : IV × Nat) => e.put (some p.2) p.1) e).at t = if j ≤ t ∧ t < j + args.length then (args[t - j]?).getD .undef else e.at t)
  | [], j, e, t, _ => by simp; intro h1 h2; omega
  | a :: args, j, e, t, h => by
    simp only [List.length_cons] at h
    simp only [List.zipIdx_cons, List.foldl_cons]
    obtain ⟨h1, h2⟩ := foldPut_at args (j + 1) (e.put (some j) a) t (by rw [put_n]; omega)
    refine ⟨by rw [h1, put_n], ?_⟩
    rw [h2]
    by_cases hc : j + 1 ≤ t ∧ t < j + 1 + args.length
    · rw [if_pos hc, if_pos ⟨by omega, by simp; omega⟩, show t - j = (t - (j + 1)) + 1 by omega]
      simp
    · rw [if_neg hc]
      by_cases ht : t = j
      · subst ht
        rw [if_pos ⟨Nat.le_refl _, by simp⟩, Env.at_put, if_pos ⟨by omega, rfl⟩]
        simp
      · rw [if_neg (by simp; omega), env_put_other _ _ _ _ (by simpa using fun h => ht h.symm)]
theorem argEnv_at {args : List IV} {n t : Nat} (h : args.length ≤ n) : (argEnv args n).n = n ∧ (t < args.length → (argEnv args n).at t = (args[t]?).getD .undef) := by
  obtain ⟨h1, h2⟩ := foldPut_at args 0 ⟨n, .lf⟩ t (by simpa using h)
  refine ⟨h1, fun ht => ?_⟩
  have := h2
  rw [if_pos ⟨Nat.zero_le _, by omega⟩] at this
  exact this
theorem xenter_ok (hJ : J (evd P ν) R φ V.g V.l E σ) {args : List IV} {pvs : List (PV SE)} {n : Nat} (h : All2 (VR (evd P ν) R φ V.l σ) args pvs) (hl : args.length ≤ n) :
    J (evd P ν) R φ (setArgs (d + 1) 0 pvs ++ dropG (d + 1) V.g) V.l (setE E (d + 1) (argEnv args n)) σ := by
  refine { hJ with slot := fun d' t pv hg => ?_ }
  rcases gget_append hg with hg | hg
  · obtain ⟨rfl, _, h3⟩ := gget_setArgs (α := IV) hg
    have ht : t < args.length := by rw [h.len]; have := (List.getElem?_eq_some_iff.1 h3).1; simpa using this
    rw [setE_same, (argEnv_at hl).2 ht, List.getElem?_eq_getElem ht]
    exact h.get (List.getElem?_eq_getElem ht) (by simpa using h3)
  · obtain ⟨h1, h2⟩ := gget_dropG hg
    rw [setE_lt _ _ _ h1]
    exact hJ.slot d' t pv h2
theorem leave_okJ (hJ : J (evd P ν) R φ V.g V.l E σ) (d : Nat) : J (evd P ν) R φ (dropG d V.g) V.l E σ := hJ.less fun _ _ _ h => (gget_dropG h).2
theorem inlineS_ok (hself : SelfW P C Q self) (hJ : J (evd P ν) R φ V.g V.l E σ) (hn : ν.length = V.n) (hK : K.length = V.lv) (hnt : (E d).n = V.nt) {g : FuncId} {dst : Option Nat} {args : List IV} {pvs : List (PV SE)} (hargs : All2 (VR (evd P ν) R φ V.l σ) args pvs)
    (hs : (inlineS P cfg self d f0 dst g pvs V k).sat P C Q K ν) {RW : Nat → IV → St → Prop}
    (hk : ∀ (pv : PV SE) (V' : SS) μ K' R' φ' E' σ' v, Fwd P d E K ν V.nt V' μ K' R' φ' E' σ' → E' d = E d → VR (evd P (ν ++ μ)) R' φ' V'.l σ' v pv → (k pv V').sat P C Q K' (ν ++ μ) → ∃ b, ∀ N, b ≤ N → σ'.n ≤ N ∧ RW N v σ') :
    ∃ fn, P.funcs[g]? = some fn ∧ fn.body.isSome = true ∧ (fn.name != "runtime.NumGoroutine") = true ∧ ∃ b, ∀ N, b ≤ N → CallW P N g args σ (RW N) := by
  unfold inlineS at hs
  split at hs <;> first | (exact hs.elim) | skip
  rename_i fn hfn
  split at hs <;> first | (exact hs.elim) | skip
  rename_i body hb
  split at hs <;> first | (exact hs.elim) | skip
  split at hs <;> first | (exact hs.elim) | skip
  rename_i hc
  simp only [Bool.and_eq_true, Nat.ble_eq] at hc
  have hl : args.length ≤ fn.ntmps := by rw [hargs.len]; exact hc.1
  refine ⟨fn, hfn, by simp [hb], hc.2, ?_⟩
  have hJ1 := xenter_ok (d := d) hJ hargs hl
  obtain ⟨b, hb'⟩ := hself (d + 1) _ body { V with g := setArgs (d + 1) 0 pvs ++ dropG (d + 1) V.g, nt := fn.ntmps } _ ν K R φ (setE E (d + 1) (argEnv args fn.ntmps)) σ
    (fun N ex e1 σ1 => (ex = .normal ∨ ex = .ret) ∧ σ1.n ≤ N ∧ ∃ v, resultOf P fn e1 σ1 = some v ∧ RW N v σ1) none [] hs hJ1 hn hK (by rw [setE_same, (argEnv_at (t := 0) hl).1]) (by
      intro ex V' μ K' R' φ' E' σ' hf hs'
      have hEd : E' d = E d := by rw [hf.hE d (by omega), setE_lt _ _ _ (by omega)]
      have main : ∀ pvs', resS P (d + 1) V' fn.results.toList = some pvs' → (k (tuOf pvs') { V' with g := dropG (d + 1) V'.g, nt := V.nt }).sat P C Q K' (ν ++ μ) → ∃ b, ∀ N, b ≤ N → σ'.n ≤ N ∧ σ'.n ≤ N ∧ ∃ v, resultOf P fn (E' (d + 1)) σ' = some v ∧ RW N v σ' := by
        intro pvs' hr hs2
        obtain ⟨vs, h1, h2⟩ := resS_ok hf.hJ hr
        have hv := tuOf_ok h2
        obtain ⟨b, hb⟩ := hk (tuOf pvs') { V' with g := dropG (d + 1) V'.g, nt := V.nt } μ K' R' φ' E' σ' (tupV vs)
          ⟨hf.hK, hf.hlv, rfl, leave_okJ hf.hJ (d + 1), hf.hn, fun j hj => by rw [hf.hE j (by omega), setE_lt _ _ _ (by omega)], by rw [hEd]⟩ hEd hv hs2
        exact ⟨b, fun N hN => ⟨(hb N hN).1, (hb N hN).1, tupV vs, result_ok h1, (hb N hN).2⟩⟩
      cases ex with
      | exit i => exact hs'.elim
      | normal =>
        simp only at hs'
        split at hs'
        · rename_i pvs' hr
          obtain ⟨b, hb⟩ := main pvs' hr hs'
          exact ⟨b, fun N hN => ⟨(hb N hN).1, .inl rfl, (hb N hN).2⟩⟩
        · exact hs'.elim
      | ret =>
        simp only at hs'
        split at hs'
        · rename_i pvs' hr
          obtain ⟨b, hb⟩ := main pvs' hr hs'
          exact ⟨b, fun N hN => ⟨(hb N hN).1, .inr rfl, (hb N hN).2⟩⟩
        · exact hs'.elim)
  refine ⟨b, fun N hN => ?_⟩
  have := hb' N hN
  rw [setE_same] at this
  exact CallW.body hfn hb hl this
end Go.Ev
namespace Go.Ev
variable {P : Program} {N : Nat} {σ σ' : St} {R R' : Rs} {φ φ' : Ph} {E : Nat → Env} {ν ν0 vs : List IV} {n : Nat} {args : List SE} {ren : List (Nat × Nat)}
theorem den_inV {ν0 a b : List IV} : ∀ (e : SE), e.inV ν0.length = true → e.den P (ν0 ++ a) = e.den P (ν0 ++ b) := by
  intro e
  induction e with
  | var x =>
    intro h
    simp only [SE.inV] at h
    have hx : x < ν0.length := by simpa using h
    simp [SE.den, List.getElem?_append_left hx]
  | i | k | b | s | raw | an => intro _; rfl
  | ok e ih | agn _ e ih | fld e _ ih | len e ih | slen e ih | tr _ e ih | tp e ih | proj e _ ih | un _ e ih | cv _ _ e ih | rw e ih | rws e ih => intro h; simp only [SE.inV] at h; simp only [SE.den, ih h]
  | idx _ e f ih1 ih2 | ecl _ e f _ ih1 ih2 | ac e f ih1 ih2 | cat _ _ e f ih1 ih2 | bin _ _ e f ih1 ih2 | mx _ e f ih1 ih2 | six e f ih1 ih2 | has _ e f ih1 ih2 =>
    intro h; simp only [SE.inV, Bool.and_eq_true] at h; simp only [SE.den, ih1 h.1, ih2 h.2]
  | sets _ e f g ih1 ih2 ih3 | sub _ e f g ih1 ih2 ih3 | clr _ e f g ih1 ih2 ih3 | ssub e f g ih1 ih2 ih3 | ins _ e f g ih1 ih2 ih3 | get _ e f g ih1 ih2 ih3 =>
    intro h; simp only [SE.inV, Bool.and_eq_true] at h; simp only [SE.den, ih1 h.1.1, ih2 h.1.2, ih3 h.2]
structure Ins (P : Program) (n : Nat) (args : List SE) (ν ν0 vs : List IV) : Prop where
  len : ν0.length = n
  pre : ∃ μ, ν = ν0 ++ μ
  args : All2 (fun (e : SE) y => e.den P ν = some y) args vs
theorem chkSE_ok (hI : Ins P n args ν ν0 vs) {h e : SE} (hc : chkSE n args h e = true) {y : IV} (hy : e.den P ν = some y) : h.den P (ν0 ++ vs) = some y := by
  obtain ⟨hl, ⟨μ, rfl⟩, ha⟩ := hI
  unfold chkSE at hc
  split at hc
  · rename_i x
    split at hc
    · rename_i hx
      have hx' : x < ν0.length := by rw [hl]; simpa using hx
      have := SE.eq_eq hc
      subst this
      simp only [SE.den, List.getElem?_append_left hx'] at hy ⊢
      exact hy
    · rename_i hx
      have hx' : n ≤ x := by simpa using hx
      split at hc
      · rename_i a hax
        have := SE.eq_eq hc
        subst this
        have hlt : x - n < vs.length := by rw [← ha.len]; exact (List.getElem?_eq_some_iff.1 hax).1
        have hv := ha.get hax (List.getElem?_eq_getElem hlt)
        rw [hy] at hv
        simp only [SE.den]
        rw [List.getElem?_append_right (by omega), hl, List.getElem?_eq_getElem hlt]
        exact hv.symm
      · cases hc
  · simp only [Bool.and_eq_true] at hc
    obtain ⟨h1, h2⟩ := hc
    have := SE.eq_eq h2
    subst this
    rw [← hl] at h1
    rw [den_inV (b := μ) h h1]
    exact hy
variable {H V : SS}
def hφ (φ : Ph) (H : SS) (ren : List (Nat × Nat)) : Ph := fun k => if isLive H.l k = true then (getA ren k).bind φ else none
theorem getA_mem {α : Type} {l : List (Nat × α)} {k : Nat} {a : α} (h : getA l k = some a) : (k, a) ∈ l := by
  induction l with
  | nil => cases h
  | cons p l ih =>
    obtain ⟨x, y⟩ := p
    simp only [getA] at h
    split at h
    · rename_i hc; cases h; rw [Nat.eq_of_beq_eq_true hc]; simp
    · exact List.mem_cons_of_mem _ (ih h)
theorem inj_of (h : injB ren = true) {k k' e : Nat} (h1 : getA ren k = some e) (h2 : getA ren k' = some e) : k = k' := by
  unfold injB at h
  rw [List.all_eq_true] at h
  have := h _ (getA_mem h1)
  rw [List.all_eq_true] at this
  have := this _ (getA_mem h2)
  simpa using this
theorem chkL_ok {l : List (LO SE)} : ∀ {os : List (LO SE)} {k : Nat}, chkL n args ren l k os = true → ∀ {j : Nat} {o : LO SE}, os[j]? = some o → o ≠ .dead → ∃ k' o', getA ren (k + j) = some k' ∧ l[k']? = some o' ∧ chkO n args ren o o' = true
  | [], k, _, j, o, h, _ => by simp at h
  | a :: os, k, hc, j, o, h, hd => by
    simp only [chkL, Bool.and_eq_true] at hc
    cases j with
    | zero =>
      simp at h
      subst h
      have hc1 := hc.1
      split at hc1
      · exact absurd rfl hd
      · split at hc1
        · rename_i k' hk
          split at hc1
          · rename_i o' ho; exact ⟨k', o', hk, ho, hc1⟩
          · cases hc1
        · cases hc1
    | succ j =>
      simp at h
      obtain ⟨k', o', h1, h2, h3⟩ := chkL_ok hc.2 h hd
      exact ⟨k', o', by rw [show k + (j + 1) = k + 1 + j by omega]; exact h1, h2, h3⟩
theorem live_get {l : List (LO SE)} {k : Nat} (h : isLive l k = true) : ∃ o, l[k]? = some o ∧ o ≠ .dead := by
  unfold isLive at h
  split at h
  · cases h
  · cases h
  · rename_i h1 h2
    cases hk : l[k]? with
    | none => exact absurd hk h2
    | some o => exact ⟨o, rfl, fun hc => h1 (by rw [hk, hc])⟩
theorem listEq_all2 {α β : Type} {f : α → α → Bool} {r : β → α → Prop} {r' : β → α → Prop} : ∀ {xs : List β} {as bs : List α}, (∀ x a b, a ∈ as → f a b = true → r x b → r' x a) → listEq f as bs = true → All2 r xs bs → All2 r' xs as
  | [], [], [], _, _, _ => trivial
  | x :: xs, a :: as, b :: bs, hf, h, hx => by
    simp only [listEq, Bool.and_eq_true] at h
    exact ⟨hf x a b (by simp) h.1 hx.1, listEq_all2 (fun x a b ha => hf x a b (by simp [ha])) h.2 hx.2⟩
  | [], a :: as, [], _, h, _ => by cases h
  | [], [], b :: bs, _, h, _ => by cases h
  | [], _ :: _, _ :: _, _, _, hx => hx.elim
  | _ :: _, [], [], _, _, hx => hx.elim
  | _ :: _, _ :: _, [], _, h, _ => by cases h
  | _ :: _, [], _ :: _, _, h, _ => by cases h
variable (hI : Ins P n args ν ν0 vs) (hJ : J (evd P ν) R φ V.g V.l E σ) (hL : chkL n args ren V.l 0 H.l = true)
include hI hJ hL
theorem chkC_ok {h e : Cl SE} {x : IV} (hlive : ∀ k ∈ refsC h, isLive H.l k = true) (hc : chkC n args ren h e = true) (hx : VRc (evd P ν) R φ V.l σ x e) : VRc (evd P (ν0 ++ vs)) R (hφ φ H ren) H.l σ x h := by
  have key : ∀ k k', chkK ren k k' = true → isLive H.l k = true → ∃ o o', H.l[k]? = some o ∧ V.l[k']? = some o' ∧ chkO n args ren o o' = true ∧ hφ φ H ren k = φ k' := by
    intro k k' hk hl
    obtain ⟨o, h1, h2⟩ := live_get hl
    obtain ⟨k2, o', h3, h4, h5⟩ := chkL_ok hL h1 h2
    rw [Nat.zero_add] at h3
    unfold chkK at hk
    rw [h3] at hk
    have := Nat.eq_of_beq_eq_true hk
    subst this
    exact ⟨o, o', h1, h4, h5, by simp [hφ, hl, h3]⟩
  cases h with
  | un => trivial
  | v a =>
    cases e <;> simp only [chkC] at hc <;> first | (cases hc; done) | skip
    · obtain ⟨y, h1, h2⟩ := hx; exact ⟨y, chkSE_ok hI hc h1, h2⟩
    · rename_i b s
      obtain ⟨h1, h2⟩ := hx
      refine ⟨.tree s [], chkSE_ok hI hc (by simp [SE.den, h1]), ?_, rfl⟩
      subst h2
      cases b
      · exact .emp s h1
      · exact .nil s h1
  | w f a =>
    cases e <;> simp only [chkC, Bool.and_eq_true] at hc <;> first | (cases hc; done) | skip
    · obtain ⟨hf, hc⟩ := hc
      obtain ⟨y, h1, h2, h3⟩ := hx
      subst hf
      exact ⟨y, chkSE_ok hI hc h1, h2.mono hJ.noR, h3⟩
    · rename_i f' b
      obtain ⟨hf, hc⟩ := hc
      obtain ⟨y, h1, h2, h3⟩ := hx
      exact ⟨y, chkSE_ok hI hc h1, h2.wide (fun h => by subst h; simpa using hf), h3⟩
    · rename_i b s
      obtain ⟨h1, h2⟩ := hx
      refine ⟨.tree s [], chkSE_ok hI hc (by simp [SE.den, h1]), ?_, rfl⟩
      subst h2
      cases b
      · exact .emp s h1
      · exact .nil s h1
  | nl a s =>
    cases e <;> simp only [chkC, Bool.and_eq_true, Nat.beq_eq, beq_iff_eq] at hc <;> first | (cases hc; done) | skip
    obtain ⟨rfl, rfl⟩ := hc
    exact hx
  | pt k o x' =>
    cases e <;> simp only [chkC, Bool.and_eq_true, Nat.beq_eq] at hc <;> first | (cases hc; done) | skip
    obtain ⟨⟨rfl, rfl⟩, hk⟩ := hc
    obtain ⟨id, cs, h1, h2, h3⟩ := hx
    obtain ⟨o1, o2, g1, g2, g3, g4⟩ := key _ _ hk (hlive k (by simp [refsC]))
    rw [h2] at g2; cases g2
    cases o1 <;> simp only [chkO] at g3 <;> first | (cases g3; done) | skip
    exact ⟨id, _, by rw [g4]; exact h1, g1, h3⟩
  | tp a =>
    cases e <;> simp only [chkC] at hc <;> first | (cases hc; done) | skip
    obtain ⟨ds, h1, h2⟩ := hx
    exact ⟨ds, h1, listEq_all2 (fun d a b _ hab ⟨y, h3, h4⟩ => ⟨y, chkSE_ok hI hab h3, h4⟩) hc h2⟩
  | tw f a => cases e <;> simp [chkC] at hc
  | sr k =>
    cases e <;> simp only [chkC] at hc <;> first | (cases hc; done) | skip
    obtain ⟨s, st, cut, fr, z, es, h1, h2, h3⟩ := hx
    obtain ⟨o1, o2, g1, g2, g3, g4⟩ := key _ _ hc (hlive k (by simp [refsC]))
    rw [h1] at g2; cases g2
    cases o1 <;> simp only [chkO, Bool.and_eq_true, Nat.beq_eq, beq_iff_eq] at g3 <;> first | (cases g3; done) | skip
    obtain ⟨⟨⟨⟨rfl, rfl⟩, hcut⟩, hfr⟩, hz⟩ := g3
    refine ⟨_, _, _, _, _, es, g1, chkSE_ok hI hz h2, ?_⟩
    rcases h3 with ⟨a1, a2, a3⟩ | ⟨id, cs, cep, mn, cap, a1, a2, a3, a4, a5, a6⟩
    · exact .inl ⟨by rw [g4]; exact a1, a2, a3⟩
    · exact .inr ⟨id, cs, cep, mn, cap, by rw [g4]; exact a1, a2, a3, a4, fun hn hc' => a5 hn (by subst hc'; simpa using hcut), a6⟩
  | sv k lo => cases e <;> simp [chkC] at hc
  | pr k i off ext => cases e <;> simp [chkC] at hc
  | mp k =>
    cases e <;> simp only [chkC] at hc <;> first | (cases hc; done) | skip
    obtain ⟨id, kt, es, h1, h2, h3⟩ := hx
    obtain ⟨o1, o2, g1, g2, g3, g4⟩ := key _ _ hc (hlive k (by simp [refsC]))
    rw [h2] at g2; cases g2
    cases o1 <;> simp only [chkO] at g3 <;> first | (cases g3; done) | skip
    exact ⟨id, _, _, by rw [g4]; exact h1, g1, h3⟩
  | fn f a =>
    cases e <;> simp only [chkC, Bool.and_eq_true, Nat.beq_eq] at hc <;> first | (cases hc; done) | skip
    obtain ⟨rfl, hl⟩ := hc
    rcases hx with ⟨rfl, h2⟩ | ⟨ys, h1, h2⟩
    · have : a = [] := by cases a with | nil => rfl | cons => cases hl
      subst this
      exact .inl ⟨rfl, h2⟩
    · refine .inr ⟨ys, h1, ?_⟩
      refine listEq_all2 (fun y p q hp hpq ⟨id, cs, h3, h4, h5⟩ => ?_) hl h2
      simp only [Bool.and_eq_true, Nat.beq_eq] at hpq
      obtain ⟨o1, o2, g1, g2, g3, g4⟩ := key _ _ hpq.2 (hlive p.1 (by simp only [refsC]; exact List.mem_map_of_mem hp))
      rw [h4] at g2; cases g2
      cases o1 <;> simp only [chkO] at g3 <;> first | (cases g3; done) | skip
      exact ⟨id, _, by rw [g4]; exact h3, g1, by rw [hpq.1]; exact h5⟩
theorem chkPV_ok {h e : PV SE} {x : IV} (hlive : ∀ k ∈ refsPV h, isLive H.l k = true) (hc : chkPV n args ren h e = true) (hx : VR (evd P ν) R φ V.l σ x e) : VR (evd P (ν0 ++ vs)) R (hφ φ H ren) H.l σ x h := by
  cases h with
  | one c =>
    cases e <;> simp only [chkPV] at hc <;> first | (cases hc; done) | skip
    exact chkC_ok hI hJ hL hlive hc hx
  | ag cs =>
    cases e <;> simp only [chkPV] at hc <;> first | (cases hc; done) | skip
    obtain ⟨xs, h1, h2⟩ := hx
    exact ⟨xs, h1, listEq_all2 (r := VRc (evd P ν) R φ V.l σ) (fun x a b ha hab hx => chkC_ok hI hJ hL (fun k hk => hlive k (List.mem_flatMap.2 ⟨a, ha, hk⟩)) hab hx) hc h2⟩
  | tu us =>
    cases e <;> simp only [chkPV] at hc <;> first | (cases hc; done) | skip
    obtain ⟨xs, h1, h2⟩ := hx
    refine ⟨xs, h1, listEq_all2 (fun x a b ha hab hx => ?_) hc h2⟩
    simp only [Bool.and_eq_true, beq_iff_eq] at hab
    have hla : ∀ c ∈ a.2, ∀ k ∈ refsC c, isLive H.l k = true := fun c hc k hk => hlive k (List.mem_flatMap.2 ⟨a, ha, List.mem_flatMap.2 ⟨c, hc, hk⟩⟩)
    unfold VR1 at hx ⊢
    rw [hab.1]
    split at hx
    · rename_i hb
      rw [if_pos hb]
      obtain ⟨ys, h3, h4⟩ := hx
      exact ⟨ys, h3, listEq_all2 (r := VRc (evd P ν) R φ V.l σ) (fun x c c' hca hcc hx => chkC_ok hI hJ hL (hla c hca) hcc hx) hab.2 h4⟩
    · rename_i hb
      rw [if_neg hb]
      obtain ⟨c, h3, h4⟩ := hx
      have hl2 := hab.2
      rw [h3] at hl2
      obtain ⟨a1, a2⟩ := a
      cases a2 with
      | nil => cases hl2
      | cons c' r =>
        cases r with
        | cons => simp [listEq] at hl2
        | nil =>
          simp only [listEq, Bool.and_true] at hl2
          exact ⟨c', rfl, chkC_ok hI hJ hL (hla c' (by simp)) hl2 h4⟩
omit hI hJ hL in
theorem inst_ok {m : Nat} (hJ : J (evd P ν) R φ V.g V.l E σ) (hl : ν0.length = n) (hp : ∃ μ, ν = ν0 ++ μ) (h : inst n m H V = some (args, ren)) {vs : List IV} (hv : All2 (fun (e : SE) y => e.den P ν = some y) args vs) :
    vs.length = m ∧ J (evd P (ν0 ++ vs)) R (hφ φ H ren) H.g H.l E σ := by
  unfold inst at h
  split at h
  · cases h
  · rename_i hlr
    have hlr' : liveRefs H = true := by simpa using hlr
    split at h <;> first | (cases h; done) | skip
    split at h <;> first | (cases h; done) | skip
    split at h <;> first | (cases h; done) | skip
    split at h <;> first | (cases h; done) | skip
    rename_i hc
    simp only [Option.some.injEq, Prod.mk.injEq] at h
    obtain ⟨e1, e2⟩ := h
    rw [e1, e2] at hc
    simp only [Bool.and_eq_true, Nat.beq_eq] at hc
    obtain ⟨⟨⟨c1, c2⟩, c3⟩, c4⟩ := hc
    have hI : Ins P n args ν ν0 vs := ⟨hl, hp, hv⟩
    unfold liveRefs at hlr'
    simp only [Bool.and_eq_true, List.all_eq_true] at hlr'
    obtain ⟨l1, l2⟩ := hlr'
    have hφ1 : ∀ {k id}, hφ φ H ren k = some id → isLive H.l k = true ∧ ∃ k', getA ren k = some k' ∧ φ k' = some id := by
      intro k id hk
      unfold hφ at hk
      split at hk
      · rename_i hlv
        obtain ⟨k', h1, h2⟩ := Option.bind_eq_some_iff.1 hk
        exact ⟨hlv, k', h1, h2⟩
      · cases hk
    refine ⟨by rw [← hv.len]; exact c4, fun d t pv hg => ?_, fun k o ho => ?_, fun k k' id h1 h2 => ?_, fun k id hk => ?_, hJ.ltR, hJ.fits, hJ.wf, hJ.top⟩
    · have hmem : (d, t, pv) ∈ H.g := by
        have : ∀ {g : List (Nat × Nat × PV SE)}, gget d t g = some pv → (d, t, pv) ∈ g := by
          intro g
          induction g with
          | nil => intro h; cases h
          | cons p g ih =>
            obtain ⟨a, b, q⟩ := p
            intro h
            rcases gget_cons h with ⟨rfl, rfl, rfl⟩ | ⟨_, h2⟩
            · simp
            · exact List.mem_cons_of_mem _ (ih h2)
        exact this hg
      unfold chkG at c1
      rw [List.all_eq_true] at c1
      have := c1 _ hmem
      simp only at this
      split at this
      · rename_i pv' hpv
        exact chkPV_ok hI hJ c2 (fun k hk => l1 _ hmem k hk) this (hJ.slot d t pv' hpv)
      · cases this
    · by_cases hd : o = .dead
      · subst hd; trivial
      · obtain ⟨k', o', h1, h2, h3⟩ := chkL_ok c2 ho hd
        rw [Nat.zero_add] at h1
        have hlv : isLive H.l k = true := by
          unfold isLive
          rw [ho]
          cases o <;> first | rfl | exact absurd rfl hd
        have hφk : hφ φ H ren k = φ k' := by simp [hφ, hlv, h1]
        have hob := hJ.obj k' o' h2
        cases o with
        | dead => exact absurd rfl hd
        | var cs =>
          cases o' <;> simp only [chkO] at h3 <;> first | (cases h3; done) | skip
          obtain ⟨id, ics, g1, g2, g3, g4⟩ := hob
          have hrefs := l2 _ (List.mem_of_getElem? ho)
          simp only at hrefs
          rw [List.all_eq_true] at hrefs
          exact ⟨id, ics, by rw [hφk]; exact g1, g2, g3, listEq_all2 (r := VRc (evd P ν) R φ V.l σ) (fun x a b ha hab hx => chkC_ok hI hJ c2 (fun k hk => hrefs k (List.mem_flatMap.2 ⟨a, ha, hk⟩)) hab hx) h3 g4⟩
        | row s st cut fr z =>
          cases o' <;> simp only [chkO, Bool.and_eq_true, Nat.beq_eq, beq_iff_eq] at h3 <;> first | (cases h3; done) | skip
          obtain ⟨⟨⟨⟨rfl, rfl⟩, hcut⟩, hfr⟩, hz⟩ := h3
          obtain ⟨hs0, es, g1, g2, g3⟩ := hob
          refine ⟨hs0, es, chkSE_ok hI hz g1, g2, ?_⟩
          rcases g3 with ⟨a1, a2⟩ | ⟨id, cs, cep, mn, a1, a2, a3, a4, a5, a6, a7⟩
          · exact .inl ⟨by rw [hφk]; exact a1, a2⟩
          · exact .inr ⟨id, cs, cep, mn, by rw [hφk]; exact a1, a2, a3, a4, a5, a6, fun j x y hx hy => (a7 j x y hx hy).wide (fun h => by subst h; simpa using hfr)⟩
        | mp kt z =>
          cases o' <;> simp only [chkO, Bool.and_eq_true, Nat.beq_eq] at h3 <;> first | (cases h3; done) | skip
          obtain ⟨_, hz⟩ := h3
          obtain ⟨id, es, clock, ds, g1, g2, g3, g4, g5⟩ := hob
          exact ⟨id, es, clock, ds, chkSE_ok hI hz g1, by rw [hφk]; exact g2, g3, g4, g5⟩
    · obtain ⟨_, a, ha1, ha2⟩ := hφ1 h1
      obtain ⟨_, b, hb1, hb2⟩ := hφ1 h2
      have := hJ.inj a b id ha2 hb2
      subst this
      exact inj_of c3 ha1 hb1
    · obtain ⟨hlv, a, ha1, ha2⟩ := hφ1 hk
      obtain ⟨o, ho, _⟩ := live_get hlv
      exact ⟨getElem?_lt ho, (hJ.lt a id ha2).2⟩
end Go.Ev
