/- Lemmas over the model, without conditions of their own: functional programs, loops, and what lies in memory. -/
import Derived.Test.YtggffkaadeagbaaGreatEvO
import Derived.ProofKit
import Derived.OpenShut
set_option linter.all false
namespace Go.Ev
variable {P : Program} {C : Cr} {Q : IV → Prop} {K K' : List (List IV → Prop)} {ν : List IV}
abbrev KLe (K K' : List (List IV → Prop)) : Prop := All2 (fun p p' => ∀ vs, p vs → p' vs) K K'
theorem KLe.get {K K' : List (List IV → Prop)} (h : KLe K K') {j : Nat} {p : List IV → Prop} (hp : K[j]? = some p) : ∃ p', K'[j]? = some p' ∧ ∀ vs, p vs → p' vs := by
  have hj : j < K'.length := by rw [← h.len]; exact (List.getElem?_eq_some_iff.1 hp).1
  exact ⟨_, List.getElem?_eq_getElem hj, All2.get h hp (List.getElem?_eq_getElem hj)⟩
theorem KLe.refl : ∀ (K : List (List IV → Prop)), KLe K K
  | [] => trivial
  | _ :: K => ⟨fun _ h => h, KLe.refl K⟩
theorem KLe.snoc {p p' : List IV → Prop} (h : KLe K K') (hp : ∀ vs, p vs → p' vs) : KLe (K ++ [p]) (K' ++ [p']) :=
  All2.app h (show All2 _ [p] [p'] from ⟨hp, trivial⟩)
theorem FIR.sat_mono : ∀ (f : FIR) {K K' : List (List IV → Prop)} {ν : List IV}, KLe K K' → f.sat P C Q K ν → f.sat P C Q K' ν
  | .fail _, _, _, _, _, h => h.elim
  | .ret _, _, _, _, _, h => h
  | .test _ a b, _, _, _, hK, h => h.imp (fun h => ⟨h.1, a.sat_mono hK h.2⟩) (fun h => ⟨h.1, b.sat_mono hK h.2⟩)
  | .two _ a b, _, _, _, hK, h => by
    obtain ⟨q, es, h1, h2, h3⟩ := h
    exact ⟨q, es, h1, b.sat_mono hK h2, fun h => a.sat_mono hK (h3 h)⟩
  | .bind _ k, _, _, _, hK, h => by
    obtain ⟨z, h1, h2⟩ := h
    exact ⟨z, h1, k.sat_mono hK h2⟩
  | .need _ k, _, _, _, hK, h => ⟨h.1, k.sat_mono hK h.2⟩
  | .call _ _ _ k, _, _, _, hK, h => by
    obtain ⟨xs, z, h1, h2, h3⟩ := h
    exact ⟨xs, z, h1, h2, k.sat_mono hK h3⟩
  | .loop _ b, K, K', ν, hK, h => by
    obtain ⟨vs, h1, m, h2⟩ := h
    refine ⟨vs, h1, m, ?_⟩
    clear h1
    induction m generalizing vs with
    | zero => exact h2
    | succ m ih => exact b.sat_mono (hK.snoc fun vs h => ih vs h) h2
  | .blk a m b, _, _, _, hK, h => a.sat_mono (hK.snoc fun _ h => ⟨h.1, b.sat_mono hK h.2⟩) h
  | .next _ _, _, _, _, hK, h => by
    obtain ⟨vs, p, h1, h2, h3⟩ := h
    obtain ⟨p', g1, g2⟩ := hK.get h2
    exact ⟨vs, p', h1, g1, g2 vs h3⟩
  | .bad .., _, _, _, _, h => h.elim
theorem sat_loopM {A : Type} {init : SE} {body : FIR} (e : A → List IV) (I : A → Prop) (μ : A → Nat) (a0 : A) (hinit : denL P ν init = some (e a0)) (h0 : I a0)
    (h : ∀ a, I a → body.sat P C Q (K ++ [fun vs => ∃ a', vs = e a' ∧ I a' ∧ μ a' < μ a]) (ν ++ e a)) : (FIR.loop init body).sat P C Q K ν := by
  refine ⟨e a0, hinit, μ a0 + 1, ?_⟩
  have key : ∀ m a, I a → μ a < m → (Nat.rec (motive := fun _ => List IV → Prop) (fun _ => False) (fun _ ih vs => body.sat P C Q (K ++ [ih]) (ν ++ vs)) m) (e a) := by
    intro m
    induction m with
    | zero => intro a _ h; omega
    | succ m ih =>
      intro a ha hm
      refine body.sat_mono ((KLe.refl K).snoc ?_) (h a ha)
      rintro vs ⟨a', rfl, h1, h2⟩
      exact ih a' h1 (by omega)
  exact key (μ a0 + 1) a0 h0 (Nat.lt_succ_self _)
theorem sat_loop {A : Type} {init : SE} {body : FIR} (n : Nat) (e : Nat → A → List IV) (I : Nat → A → Prop) (a0 : A) (hinit : denL P ν init = some (e 0 a0)) (h0 : I 0 a0)
    (h : ∀ i a, i ≤ n → I i a → body.sat P C Q (K ++ [fun vs => ∃ a', vs = e (i + 1) a' ∧ i + 1 ≤ n ∧ I (i + 1) a']) (ν ++ e i a)) : (FIR.loop init body).sat P C Q K ν := by
  refine sat_loopM (A := Nat × A) (fun p => e p.1 p.2) (fun p => p.1 ≤ n ∧ I p.1 p.2) (fun p => n - p.1) (0, a0) hinit ⟨Nat.zero_le _, h0⟩ fun ⟨i, a⟩ ⟨hi, hI⟩ => ?_
  refine body.sat_mono ((KLe.refl K).snoc ?_) (h i a hi hI)
  rintro vs ⟨a', rfl, h1, h2⟩
  exact ⟨(i + 1, a'), rfl, ⟨h1, h2⟩, by simp; omega⟩
theorem sat_blk {a b : FIR} {m : Nat} (p : List IV → Prop) (h : a.sat P C Q (K ++ [p]) ν) (hb : ∀ vs, p vs → vs.length = m ∧ b.sat P C Q K (ν ++ vs)) : (FIR.blk a m b).sat P C Q K ν :=
  a.sat_mono ((KLe.refl K).snoc hb) h
@[simp] theorem sat_fail {w : Nat} : (FIR.fail w).sat P C Q K ν ↔ False := Iff.rfl
@[simp] theorem sat_ret {e : SE} : (FIR.ret e).sat P C Q K ν ↔ ∃ z, e.den P ν = some z ∧ Q z := Iff.rfl
@[simp] theorem sat_need {e : SE} {k : FIR} : (FIR.need e k).sat P C Q K ν ↔ (∃ z, e.den P ν = some z) ∧ k.sat P C Q K ν := Iff.rfl
@[simp] theorem sat_bind {e : SE} {k : FIR} : (FIR.bind e k).sat P C Q K ν ↔ ∃ z, e.den P ν = some z ∧ k.sat P C Q K (ν ++ [z]) := Iff.rfl
@[simp] theorem sat_call {f : FuncId} {new : Bool} {e : SE} {k : FIR} : (FIR.call f new e k).sat P C Q K ν ↔ ∃ xs z, denL P ν e = some xs ∧ C f new xs z ∧ k.sat P C Q K (ν ++ [z]) := Iff.rfl
@[simp] theorem sat_test {e : SE} {a b : FIR} : (FIR.test e a b).sat P C Q K ν ↔ (e.den P ν = some (.raw (.bool true)) ∧ a.sat P C Q K ν) ∨ (e.den P ν = some (.raw (.bool false)) ∧ b.sat P C Q K ν) := Iff.rfl
@[simp] theorem sat_two {e : SE} {a b : FIR} : (FIR.two e a b).sat P C Q K ν ↔ ∃ q es, e.den P ν = some (.tree q es) ∧ b.sat P C Q K ν ∧ (es = [] → a.sat P C Q K ν) := Iff.rfl
@[simp] theorem sat_next {lv : Nat} {e : SE} : (FIR.next lv e).sat P C Q K ν ↔ ∃ vs p, denL P ν e = some vs ∧ K[lv]? = some p ∧ p vs := Iff.rfl
@[simp] theorem denL_an : denL P ν .an = some [] := rfl
@[simp] theorem denL_ac' {a r : SE} : denL P ν (.ac a r) = (a.den P ν).bind fun x => (denL P ν r).map fun xs => x :: xs := by
  unfold denL
  simp only [SE.den]
  cases a.den P ν with
  | none => rfl
  | some x =>
    cases r.den P ν with
    | none => rfl
    | some y => cases y <;> rfl
abbrev iB (b : Bool) : IV := .raw (.bool b)
abbrev iI (n : Int) : IV := .raw (.int .i64 n)
abbrev iS (l : List UInt8) : IV := .raw (.string ⟨l.toArray⟩)
abbrev iL (l : List Int) : IV := .tree 1 (l.map iI)
@[simp] theorem okc_raw_int (q : IntKind) (n : Int) : okc (.raw (.int q n)) = some (.raw (.int q n)) := rfl
@[simp] theorem okc_raw_bool (n : Bool) : okc (.raw (.bool n)) = some (.raw (.bool n)) := rfl
@[simp] theorem okc_raw_str (n : ByteArray) : okc (.raw (.string n)) = some (.raw (.string n)) := rfl
@[simp] theorem okc_tree (s : Nat) (es : List IV) : okc (.tree s es) = some (.tree s es) := rfl
@[simp] theorem denLen_tree (s : Nat) (es : List IV) : denLen (.tree s es) = some (.raw (.int .i64 es.length)) := rfl
theorem denIdx_nat {s : Nat} {es : List IV} {i : Nat} {q : IntKind} {x : IV} (h : es[i]? = some x) (hx : (cellsOf x).length = s) : denIdx s (.tree s es) (.raw (.int q (i : Nat))) = some x := by
  simp [denIdx, intI?, h, hx]
@[simp] theorem d_lss (P : Program) (t : TypeId) (a b : Int) : denBin P .lss t (iI a) (iI b) = some (iB (decide (a < b))) := rfl
@[simp] theorem d_gtr (P : Program) (t : TypeId) (a b : Int) : denBin P .gtr t (iI a) (iI b) = some (iB (decide (a > b))) := rfl
@[simp] theorem d_leq (P : Program) (t : TypeId) (a b : Int) : denBin P .leq t (iI a) (iI b) = some (iB (decide (a ≤ b))) := rfl
@[simp] theorem d_geq (P : Program) (t : TypeId) (a b : Int) : denBin P .geq t (iI a) (iI b) = some (iB (decide (a ≥ b))) := rfl
@[simp] theorem d_eql (P : Program) (t : TypeId) (a b : Int) : denBin P .eql t (iI a) (iI b) = some (iB (a == b)) := rfl
@[simp] theorem d_neq (P : Program) (t : TypeId) (a b : Int) : denBin P .neq t (iI a) (iI b) = some (iB (a != b)) := rfl
@[simp] theorem d_add (P : Program) (t : TypeId) (a b : Int) : denBin P .add t (iI a) (iI b) = some (iI (IntKind.i64.wrap (a + b))) := rfl
@[simp] theorem d_sub (P : Program) (t : TypeId) (a b : Int) : denBin P .sub t (iI a) (iI b) = some (iI (IntKind.i64.wrap (a - b))) := rfl
@[simp] theorem d_mul (P : Program) (t : TypeId) (a b : Int) : denBin P .mul t (iI a) (iI b) = some (iI (IntKind.i64.wrap (a * b))) := rfl
@[simp] theorem s_lss (P : Program) (t : TypeId) (a b : List UInt8) : denBin P .lss t (iS a) (iS b) = some (iB (Op.bytesLess a b)) := by
  show some (IV.bool (Op.bytesLess a.toArray.toList b.toArray.toList)) = _
  simp
@[simp] theorem s_gtr (P : Program) (t : TypeId) (a b : List UInt8) : denBin P .gtr t (iS a) (iS b) = some (iB (!(Op.bytesLess a b || a == b))) := by
  show some (IV.bool (!(Op.bytesLess a.toArray.toList b.toArray.toList || a.toArray.toList == b.toArray.toList))) = _
  simp
@[simp] theorem s_neq (P : Program) (t : TypeId) (a b : List UInt8) : denBin P .neq t (iS a) (iS b) = some (iB (!(a == b))) := by
  show some (IV.bool (!(a.toArray.toList == b.toArray.toList))) = _
  simp
theorem b_eql (P : Program) (t : TypeId) (hu : P.underlying t = some .bool) (a b : Bool) : denBin P .eql t (iB a) (iB b) = some (iB (a == b)) := by
  show (pureRun P (do eqGuard .eql t _ _ _ _; Go.binOp .eql t _ _)).map lift = _
  rw [pureRun_bind]
  show (pureRun P (do pure (.bool (← Op.equalIn (9999 + 1) t (.bool a) (.bool b))))).map lift = _
  unfold Op.equalIn
  rw [pureRun_bind, pureRun_bind, Go.Ev.run_underlying hu, Option.bind_some]
  rfl
theorem b_neq (P : Program) (t : TypeId) (hu : P.underlying t = some .bool) (a b : Bool) : denBin P .neq t (iB a) (iB b) = some (iB (!(a == b))) := by
  show (pureRun P (do eqGuard .neq t _ _ _ _; Go.binOp .neq t _ _)).map lift = _
  rw [pureRun_bind]
  show (pureRun P (do pure (.bool (!(← Op.equalIn (9999 + 1) t (.bool a) (.bool b)))))).map lift = _
  unfold Op.equalIn
  rw [pureRun_bind, pureRun_bind, Go.Ev.run_underlying hu, Option.bind_some]
  rfl
@[simp] theorem b_not (P : Program) (a : Bool) : denUn P .not (iB a) = some (iB (!a)) := rfl
theorem wrap_in {a : Int} (h1 : -9223372036854775808 ≤ a) (h2 : a ≤ 9223372036854775807) : IntKind.i64.wrap a = a := by
  simp only [IntKind.wrap, IntKind.bits, IntKind.signed]
  simp
  omega
end Go.Ev
namespace Go.Ev
variable {P : Program} {C : Cr} {Q : IV → Prop} {K K' : List (List IV → Prop)} {ν : List IV}
def Nxt {A : Type} (n : Nat) (e : Nat → A → List IV) (I : Nat → A → Prop) (i : Nat) (vs : List IV) : Prop := ∃ a', vs = e (i + 1) a' ∧ i + 1 ≤ n ∧ I (i + 1) a'
theorem Nxt.mk {A : Type} {n : Nat} {e : Nat → A → List IV} {I : Nat → A → Prop} {i : Nat} {vs : List IV} (a' : A) (h1 : vs = e (i + 1) a') (h2 : i + 1 ≤ n) (h3 : I (i + 1) a') : Nxt n e I i vs := ⟨a', h1, h2, h3⟩
theorem sat_loop2 {A : Type} {init : SE} {body : FIR} (n : Nat) (e : Nat → A → List IV) (I : Nat → A → Prop) (a0 : A) (hinit : denL P ν init = some (e 0 a0)) (h0 : I 0 a0)
    (h : ∀ i a, i ≤ n → I i a → body.sat P C Q (K ++ [Nxt n e I i]) (ν ++ e i a)) : (FIR.loop init body).sat P C Q K ν :=
  sat_loop n e I a0 hinit h0 h
def NxtM {A : Type} (e : A → List IV) (I : A → Prop) (μ : A → Nat) (a : A) (vs : List IV) : Prop := ∃ a', vs = e a' ∧ I a' ∧ μ a' < μ a
theorem NxtM.mk {A : Type} {e : A → List IV} {I : A → Prop} {μ : A → Nat} {a : A} {vs : List IV} (a' : A) (h1 : vs = e a') (h2 : I a') (h3 : μ a' < μ a) : NxtM e I μ a vs := ⟨a', h1, h2, h3⟩
theorem sat_loopM2 {A : Type} {init : SE} {body : FIR} (e : A → List IV) (I : A → Prop) (μ : A → Nat) (a0 : A) (hinit : denL P ν init = some (e a0)) (h0 : I a0)
    (h : ∀ a, I a → body.sat P C Q (K ++ [NxtM e I μ a]) (ν ++ e a)) : (FIR.loop init body).sat P C Q K ν :=
  sat_loopM e I μ a0 hinit h0 h
def Meet (p : List IV → Prop) (vs : List IV) : Prop := p vs
theorem sat_blk2 {a b : FIR} {m : Nat} (p : List IV → Prop) (h : a.sat P C Q (K ++ [Meet p]) ν) (hb : ∀ vs, p vs → vs.length = m ∧ b.sat P C Q K (ν ++ vs)) : (FIR.blk a m b).sat P C Q K ν :=
  sat_blk p h hb
end Go.Ev
namespace Go.Ev
open Go
variable {H : Type} {enc : TypeId × Value → H} {P : Program} {w : World} {sp : Nat → Bool} {held : Bool}
theorem cells_get {a : Addr} {n : Nat} {us : List Value} (h : w.cells? 0 a n = some us) : us.length = n ∧ ∀ j, j < n → w.cell? (a.add j) = us[j]? := by
  unfold World.cells? at h
  rw [if_pos (Nat.zero_le _)] at h
  exact ⟨by simpa using mapM_some_length h, fun j hj => mapM_some_get h j j (by simp [hj])⟩
theorem cellM_cell {b off : Nat} {v : Value} (h : w.cell? ⟨b, off, none⟩ = some v) : cellM (allM w) b off = some v := by
  unfold World.cell? at h
  simp only at h
  split at h
  · rename_i c e f hb
    rw [if_neg (by simp)] at h
    unfold cellM allM
    rw [hb]; exact h
  · cases h
theorem addr_add (b off n : Nat) : (⟨b, off, none⟩ : Addr).add n = ⟨b, off + n, none⟩ := by
  unfold Addr.add
  split
  · rename_i h; subst h; rfl
  · rfl
theorem read_slice {α : Type} (f : α → IV) {s : Nat} (hs : 0 < s) (hcs : ∀ a, (cellsOf (f a)).length = s) (Ok : α → Prop) {t e : TypeId} (ht : P.underlying t = some (.slice e)) (hP : P.cellsOf e = s) {fuel : Nat} {u : Value} {x : DataW H × List MemPlace}
    (hel : ∀ n us x, n < fuel → DataW.trod enc P w 0 sp held n e us = some x → us.length = s → ∃ a, Ok a ∧ RvL (frz (allM w)) (cellsOf (f a)) us)
    (h : DataW.trod enc P w 0 sp held fuel t [u] = some x) : ∃ l : List α, l.length ≤ 9223372036854775807 ∧ (∀ a ∈ l, Ok a) ∧ Rv (frz (allM w)) (.tree s (l.map f)) u := by
  rcases DataW.trod_slice ht h with ⟨h1, _⟩ | ⟨a, len, cap, elems, rest, n, hfu, h1, _, _, hlc, hcm, hlen, hat, _, _⟩
  · obtain rfl := (List.cons.inj h1).1
    exact ⟨[], by simp, by simp, .treeE s none 0 hs (fun _ => rfl)⟩
  · obtain rfl := (List.cons.inj h1).1
    by_cases hl0 : len = 0
    · subst hl0
      exact ⟨[], by simp, by simp, .treeE s (some a) cap hs (by simp)⟩
    · have key : ∀ i : Fin len, ∃ p : List Value × α, w.cells? 0 (a.add (i.1 * s)) s = some p.1 ∧ Ok p.2 ∧ RvL (frz (allM w)) (cellsOf (f p.2)) p.1 := fun i => by
        have hi := hat i.1 i.2
        rw [hP] at hi
        have hie : elems[i.1]? = some elems[i.1] := List.getElem?_eq_getElem (by omega)
        rw [hie] at hi
        obtain ⟨us, hu1, hu2⟩ := Option.bind_eq_some_iff.1 hi
        obtain ⟨b, hb1, hb2⟩ := hel n us _ (by omega) hu2 (cells_get hu1).1
        exact ⟨(us, b), hu1, hb1, hb2⟩
      obtain ⟨g, hg⟩ := Classical.axiomOfChoice key
      have hspot : a.spot = none := by
        obtain ⟨hc0, _, _⟩ := hg ⟨0, by omega⟩
        obtain ⟨hl1, hl2⟩ := cells_get hc0
        have h0 := hl2 0 hs
        rw [List.getElem?_eq_getElem (by omega)] at h0
        have := World.cell?_spot h0
        simpa [Addr.add] using this
      obtain ⟨b, off, spot⟩ := a
      simp only at hspot
      subst hspot
      have hcell : ∀ i (hi : i < len) j, j < s → w.cell? ⟨b, off + (i * s + j), none⟩ = (g ⟨i, hi⟩).1[j]? := fun i hi j hj => by
        have := (cells_get (hg ⟨i, hi⟩).1).2 j hj
        rw [addr_add, addr_add] at this
        rw [← Nat.add_assoc]; exact this
      refine ⟨List.ofFn fun i => (g i).2, by simp; have : maxLen = 9223372036854775807 := rfl; omega, ?_, ?_⟩
      · intro c hc
        obtain ⟨i, rfl⟩ := (List.mem_ofFn (f := fun i => (g i).2)).1 hc
        exact (hg i).2.1
      · have hel : ((List.ofFn fun i => (g i).2).map f).length = len := by simp
        have hR := Rv.tree (ι := frz (allM w)) s ((List.ofFn fun i => (g i).2).map f) b off cap (fun k => (w.cell? ⟨b, off + k, none⟩).getD Go.undef) hs (by rw [hel]; exact hlc) ?_ ?_ ?_
        · rw [hel] at hR; exact hR
        · intro e' he'
          obtain ⟨c, _, rfl⟩ := List.mem_map.1 he'
          exact hcs c
        · intro k hk
          rw [hel] at hk
          have hi : k / s < len := Nat.div_lt_of_lt_mul (by rw [Nat.mul_comm]; exact hk)
          have hj : k % s < s := Nat.mod_lt _ hs
          have hc := hcell (k / s) hi (k % s) hj
          have hk' : k / s * s + k % s = k := by rw [Nat.mul_comm]; exact Nat.div_add_mod k s
          rw [hk'] at hc
          have hl1 := (cells_get (hg ⟨k / s, hi⟩).1).1
          rw [List.getElem?_eq_getElem (by omega)] at hc
          rw [cellM_cell hc, hc]; rfl
        · intro i e' j c he' hc
          rw [List.getElem?_map, List.getElem?_ofFn] at he'
          split at he'
          · rename_i hi
            simp only [Option.map_some, Option.some.injEq] at he'
            subst he'
            have hj : j < s := by have := (List.getElem?_eq_some_iff.1 hc).1; rw [hcs] at this; exact this
            have hcc := hcell i hi j hj
            have hl1 := (cells_get (hg ⟨i, hi⟩).1).1
            rw [List.getElem?_eq_getElem (by omega)] at hcc
            simp only [hcc, Option.getD_some]
            exact (hg ⟨i, hi⟩).2.2.2 j c _ hc (List.getElem?_eq_getElem _)
          · simp at he'
theorem struct_fld {t : TypeId} {fs : Array Field} {cs : List Value} {fuel : Nat} {x : DataW H × List MemPlace} (ht : P.underlying t = some (.struct fs)) (h : DataW.trod enc P w 0 sp held fuel t cs = some x) :
    ∃ n, fuel = n + 1 ∧ ∀ (i : Nat) (ty : TypeId) (off k : Nat), (fs[i]?).map (fun f : Field => (f.type, f.offset)) = some (ty, off) → P.cellsOf ty = k → ∃ y, DataW.trod enc P w 0 sp held n ty ((cs.drop off).take k) = some y := by
  obtain ⟨xs, n, h1, _, _, h4, h5⟩ := DataW.trod_struct ht h
  refine ⟨n, h1, fun i ty off k hi hk => ?_⟩
  obtain ⟨f, hf, hfe⟩ := Option.map_eq_some_iff.1 hi
  simp only [Prod.mk.injEq] at hfe
  obtain ⟨rfl, rfl⟩ := hfe
  have hil : i < xs.length := by
    rw [h4]
    exact (Array.getElem?_eq_some_iff.1 hf).1
  have := h5 i f hf
  rw [List.getElem?_eq_getElem hil, hk] at this
  exact ⟨_, this⟩
end Go.Ev
namespace Go.Ev
variable {P : Program} {C : Cr} {Q : IV → Prop} {K : List (List IV → Prop)} {ν : List IV}
def noTwo : FIR → Bool
  | .two .. => false
  | .test _ a b | .blk a _ b => noTwo a && noTwo b
  | .bind _ k | .need _ k | .call _ _ _ k | .loop _ k => noTwo k
  | _ => true
def ExK (Q : IV → Prop) (K : List (List IV → Prop)) (Kz : IV → List (List IV → Prop)) : Prop :=
  (∀ z, (Kz z).length = K.length) ∧ ∀ (lv : Nat) (p : List IV → Prop) (vs : List IV), K[lv]? = some p → p vs → ∃ z, Q z ∧ ∃ p' : List IV → Prop, (Kz z)[lv]? = some p' ∧ p' vs
theorem ExK.snoc {Kz : IV → List (List IV → Prop)} {p : List IV → Prop} {q : IV → List IV → Prop} (h : ExK Q K Kz) (hp : ∀ vs, p vs → ∃ z, Q z ∧ q z vs) : ExK Q (K ++ [p]) (fun z => Kz z ++ [q z]) := by
  refine ⟨fun z => by simp [h.1 z], fun lv r vs hr hvs => ?_⟩
  by_cases hl : lv < K.length
  · rw [List.getElem?_append_left hl] at hr
    obtain ⟨z, h1, p', h2, h3⟩ := h.2 lv r vs hr hvs
    exact ⟨z, h1, p', by rw [List.getElem?_append_left (by rw [h.1 z]; exact hl)]; exact h2, h3⟩
  · have hlt := (List.getElem?_eq_some_iff.1 hr).1
    simp at hlt
    have : lv = K.length := by omega
    subst this
    simp at hr
    subst hr
    obtain ⟨z, h1, h2⟩ := hp vs hvs
    exact ⟨z, h1, q z, by simp [← h.1 z], h2⟩
theorem sat_ex : ∀ (fir : FIR), noTwo fir = true → ∀ {K : List (List IV → Prop)} {Kz : IV → List (List IV → Prop)} {ν : List IV}, ExK Q K Kz → fir.sat P C Q K ν → ∃ z, Q z ∧ fir.sat P C (· = z) (Kz z) ν
  | .fail _, _, _, _, _, _, h => h.elim
  | .bad .., _, _, _, _, _, h => h.elim
  | .two .., hn, _, _, _, _, _ => by cases hn
  | .ret e, _, _, _, _, _, h => by
    obtain ⟨z, h1, h2⟩ := h
    exact ⟨z, h2, z, h1, rfl⟩
  | .test e a b, hn, _, _, _, hK, h => by
    simp only [noTwo, Bool.and_eq_true] at hn
    rcases h with ⟨h1, h2⟩ | ⟨h1, h2⟩
    · obtain ⟨z, g1, g2⟩ := sat_ex a hn.1 hK h2
      exact ⟨z, g1, .inl ⟨h1, g2⟩⟩
    · obtain ⟨z, g1, g2⟩ := sat_ex b hn.2 hK h2
      exact ⟨z, g1, .inr ⟨h1, g2⟩⟩
  | .bind e k, hn, _, _, _, hK, h => by
    obtain ⟨y, h1, h2⟩ := h
    obtain ⟨z, g1, g2⟩ := sat_ex k hn hK h2
    exact ⟨z, g1, y, h1, g2⟩
  | .need e k, hn, _, _, _, hK, h => by
    obtain ⟨z, g1, g2⟩ := sat_ex k hn hK h.2
    exact ⟨z, g1, h.1, g2⟩
  | .call f new e k, hn, _, _, _, hK, h => by
    obtain ⟨xs, y, h1, h2, h3⟩ := h
    obtain ⟨z, g1, g2⟩ := sat_ex k hn hK h3
    exact ⟨z, g1, xs, y, h1, h2, g2⟩
  | .next lv e, _, K, Kz, _, hK, h => by
    obtain ⟨vs, p, h1, h2, h3⟩ := h
    obtain ⟨z, g1, p', g2, g3⟩ := hK.2 lv p vs h2 h3
    exact ⟨z, g1, vs, p', h1, g2, g3⟩
  | .blk a m b, hn, K, Kz, ν, hK, h => by
    simp only [noTwo, Bool.and_eq_true] at hn
    exact sat_ex a hn.1 (Kz := fun z => Kz z ++ [fun vs => vs.length = m ∧ b.sat P C (· = z) (Kz z) (ν ++ vs)]) (hK.snoc fun vs hvs => by
      obtain ⟨z, g1, g2⟩ := sat_ex b hn.2 hK hvs.2
      exact ⟨z, g1, hvs.1, g2⟩) h
  | .loop i b, hn, K, Kz, ν, hK, h => by
    obtain ⟨vs, h1, m, hm⟩ := h
    have key : ∀ (m : Nat) (vs : List IV), (Nat.rec (motive := fun _ => List IV → Prop) (fun _ => False) (fun _ ih vs => b.sat P C Q (K ++ [ih]) (ν ++ vs)) m) vs →
        ∃ z, Q z ∧ (Nat.rec (motive := fun _ => List IV → Prop) (fun _ => False) (fun _ ih vs => b.sat P C (· = z) (Kz z ++ [ih]) (ν ++ vs)) m) vs := by
      intro m
      induction m with
      | zero => intro vs h; exact h.elim
      | succ m ih =>
        intro vs h
        exact sat_ex b hn (Kz := fun z => Kz z ++ [Nat.rec (motive := fun _ => List IV → Prop) (fun _ => False) (fun _ ih vs => b.sat P C (· = z) (Kz z ++ [ih]) (ν ++ vs)) m]) (hK.snoc ih) h
    obtain ⟨z, g1, g2⟩ := key m vs hm
    exact ⟨z, g1, vs, h1, m, g2⟩
theorem sat_some {fir : FIR} (hn : noTwo fir = true) (h : fir.sat P C Q [] ν) : ∃ z, Q z ∧ fir.sat P C (· = z) [] ν :=
  sat_ex fir hn (Kz := fun _ => []) ⟨fun _ => rfl, fun _ _ _ h => by simp at h⟩ h
end Go.Ev
