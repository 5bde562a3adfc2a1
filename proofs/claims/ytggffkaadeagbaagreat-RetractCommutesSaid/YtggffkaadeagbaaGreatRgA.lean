/- A part of the proof, no condition: the checks of the reference come to an end, names and terms. -/
import Derived.Test.YtggffkaadeagbaaGreatRgF
import Derived.Test.YtggffkaadeagbaaGreatEvP
import Derived.Test.YtggffkaadeagbaaGreatRuH
set_option linter.all false
namespace Go.Proofs.YtggffkaadeagbaaGreat
open Go Go.Ev
def isB (z : IV) : Prop := ∃ b : Bool, z = iB b
def isI (z : IV) : Prop := ∃ n : Int, z = iI n
@[simp] theorem isB_iB (b : Bool) : isB (iB b) := ⟨b, rfl⟩
@[simp] theorem isI_iI (n : Int) : isI (iI n) := ⟨n, rfl⟩
variable {n : Nat} {new : Bool} {f : FuncId} {fir : FIR} {args : List IV} {cfg : Cfg}
theorem CC.tot {Q : IV → Prop} (he : execFn Tryz.prog cfg n new f = fir) (hl : (Tryz.prog.funcs[f]?).map (·.params.size) = some args.length) (ht : ∀ z, Q z → tupOk Tryz.prog f z = true) (hp : ∀ x ∈ args, Pure x) (hz : ∀ z, Q z → Pure z) (hn : noTwo fir = true)
    (hs : fir.sat Tryz.prog CC Q [] args) : ∃ z, Q z ∧ CC f new args z := by
  obtain ⟨z, h1, h2⟩ := sat_some hn hs
  exact ⟨z, h1, CC.of he hl (ht z h1) hp (hz z h1) h2⟩
theorem CC.bool (he : execFn Tryz.prog cfg n new f = fir) (hl : (Tryz.prog.funcs[f]?).map (·.params.size) = some args.length) (ht : ∀ z, tupOk Tryz.prog f z = true) (hp : ∀ x ∈ args, Pure x) (hn : noTwo fir = true)
    (hs : fir.sat Tryz.prog CC isB [] args) : ∃ b, CC f new args (iB b) := by
  obtain ⟨z, ⟨b, rfl⟩, h2⟩ := CC.tot he hl (fun z _ => ht z) hp (by rintro _ ⟨b, rfl⟩; exact .raw _) hn hs
  exact ⟨b, h2⟩
theorem CC.int (he : execFn Tryz.prog cfg n new f = fir) (hl : (Tryz.prog.funcs[f]?).map (·.params.size) = some args.length) (ht : ∀ z, tupOk Tryz.prog f z = true) (hp : ∀ x ∈ args, Pure x) (hn : noTwo fir = true)
    (hs : fir.sat Tryz.prog CC isI [] args) : ∃ b, CC f new args (iI b) := by
  obtain ⟨z, ⟨b, rfl⟩, h2⟩ := CC.tot he hl (fun z _ => ht z) hp (by rintro _ ⟨b, rfl⟩; exact .raw _) hn hs
  exact ⟨b, h2⟩
def isBP (p : Bool → Prop) (z : IV) : Prop := ∃ b : Bool, z = iB b ∧ p b
@[simp] theorem isBP_iB (p : Bool → Prop) (b : Bool) : isBP p (iB b) ↔ p b := ⟨fun ⟨b', h1, h2⟩ => by cases h1; exact h2, fun h => ⟨b, rfl, h⟩⟩
theorem CC.boolP (p : Bool → Prop) (he : execFn Tryz.prog cfg n new f = fir) (hl : (Tryz.prog.funcs[f]?).map (·.params.size) = some args.length) (ht : ∀ z, tupOk Tryz.prog f z = true) (hp : ∀ x ∈ args, Pure x) (hn : noTwo fir = true)
    (hs : fir.sat Tryz.prog CC (isBP p) [] args) : ∃ b, p b ∧ CC f new args (iB b) := by
  obtain ⟨z, ⟨b, rfl, hb⟩, h2⟩ := CC.tot he hl (fun z _ => ht z) hp (by rintro _ ⟨b, rfl, _⟩; exact .raw _) hn hs
  exact ⟨b, hb, h2⟩
abbrev iU' (c : Int) : IV := .raw (.int .u8 c)
@[simp] theorem u_lss (t : TypeId) (a b : Int) : denBin Tryz.prog .lss t (iU' a) (iU' b) = some (iB (decide (a < b))) := rfl
@[simp] theorem u_gtr (t : TypeId) (a b : Int) : denBin Tryz.prog .gtr t (iU' a) (iU' b) = some (iB (decide (a > b))) := rfl
@[simp] theorem u_leq (t : TypeId) (a b : Int) : denBin Tryz.prog .leq t (iU' a) (iU' b) = some (iB (decide (a ≤ b))) := rfl
@[simp] theorem u_geq (t : TypeId) (a b : Int) : denBin Tryz.prog .geq t (iU' a) (iU' b) = some (iB (decide (a ≥ b))) := rfl
@[simp] theorem u_neq (t : TypeId) (a b : Int) : denBin Tryz.prog .neq t (iU' a) (iU' b) = some (iB (a != b)) := rfl
@[simp] theorem s_eql (t : TypeId) (a b : List UInt8) : denBin Tryz.prog .eql t (iS a) (iS b) = some (iB (a == b)) := by
  show some (IV.bool (a.toArray.toList == b.toArray.toList)) = _
  simp
@[simp] theorem d_slen (l : List UInt8) : denSlen (iS l) = some (iI l.length) := by
  simp [denSlen, ByteArray.size]
theorem n148 : (Tryz.prog.funcs[148]?).map (·.params.size) = some 1 := by kernel_rfl
theorem t148 (z : IV) : tupOk Tryz.prog 148 z = true := by kernel_rfl
theorem e148 (c : Int) : ∃ b, CC 148 false [iU' c] (iB b) := by
  refine CC.bool ex148 n148 t148 (by simp) (by rfl) ?_
  simp [fir148, SE.den]
  omega
theorem n198 : (Tryz.prog.funcs[198]?).map (·.params.size) = some 1 := by kernel_rfl
theorem t198 (z : IV) : tupOk Tryz.prog 198 z = true := by kernel_rfl
theorem e198 (c : Int) : ∃ b, CC 198 false [iU' c] (iB b) := by
  refine CC.bool ex198 n198 t198 (by simp) (by rfl) ?_
  simp [fir198, SE.den]
  omega
theorem n149 : (Tryz.prog.funcs[149]?).map (·.params.size) = some 1 := by kernel_rfl
theorem t149 (z : IV) : tupOk Tryz.prog 149 z = true := by kernel_rfl
theorem e149 (c : List UInt8) : ∃ b, CC 149 false [iS c] (iB b) := by
  refine CC.bool ex149 n149 t149 (by simp) (by rfl) ?_
  simp [fir149, SE.den]
  grind
theorem n257 : (Tryz.prog.funcs[257]?).map (·.params.size) = some 1 := by kernel_rfl
theorem t257 (z : IV) : tupOk Tryz.prog 257 z = true := by kernel_rfl
theorem e257 (c : List UInt8) : ∃ b, CC 257 false [iS c] (iB b) := by
  refine CC.bool ex257 n257 t257 (by simp) (by rfl) ?_
  simp [fir257, SE.den]
  grind
@[simp] theorem den_six {e i : SE} {ν : List IV} {l : List UInt8} {k : Nat} {c : UInt8} (he : e.den Tryz.prog ν = some (iS l)) (hi : i.den Tryz.prog ν = some (iI (k : Nat))) (hc : l[k]? = some c) : (SE.six e i).den Tryz.prog ν = some (iU' (c.toNat : Int)) := by
  simp [SE.den, he, hi, hc]
theorem n147 : (Tryz.prog.funcs[147]?).map (·.params.size) = some 1 := by kernel_rfl
theorem t147 (z : IV) : tupOk Tryz.prog 147 z = true := by kernel_rfl
theorem e147 (c : List UInt8) (hc : Sm c) : ∃ b, (b = true → 1 ≤ c.length) ∧ CC 147 false [iS c] (iB b) := by
  refine CC.boolP _ ex147 n147 t147 (by simp) (by rfl) ?_
  simp [fir147, fir147v0, SE.den]
  refine sat_loop c.length (fun i (_ : Unit) => [iI i]) (fun _ _ => True) () ?_ ?_ fun i _ hi _ => ?_
  · simp [SE.den]
  · trivial
  by_cases hlt : i < c.length
  · have hw := wrapi hlt hc
    obtain ⟨b1, h1⟩ := e148 c[i].toNat
    obtain ⟨b2, h2⟩ := e198 c[i].toNat
    simp [SE.den, hlt, hw]
    refine ⟨_, h1, ?_⟩
    cases b1 with
    | true => simp; omega
    | false =>
      simp
      refine ⟨_, h2, ?_⟩
      cases b2 <;> simp <;> omega
  · simp [SE.den, hlt]
    omega
theorem n89 : (Tryz.prog.funcs[89]?).map (·.params.size) = some 1 := by kernel_rfl
theorem t89 (z : IV) : tupOk Tryz.prog 89 z = true := by kernel_rfl
theorem e89 (c : List UInt8) (hc : Sm c) : ∃ b, CC 89 false [iS c] (iB b) := by
  refine CC.bool ex89 n89 t89 (by simp) (by rfl) ?_
  obtain ⟨b1, h0, h1⟩ := e147 c hc
  obtain ⟨b3, h3⟩ := e149 c
  simp [fir89, SE.den]
  refine ⟨_, h1, ?_⟩
  cases b1 with
  | false => simp
  | true =>
    have hl : 0 < c.length := h0 rfl
    obtain ⟨b2, h2⟩ := e148 c[0].toNat
    simp [hl]
    refine ⟨_, h2, ?_⟩
    cases b2 with
    | false => simp
    | true =>
      simp
      exact ⟨_, h3, by simp⟩
end Go.Proofs.YtggffkaadeagbaaGreat
namespace Go.Proofs.YtggffkaadeagbaaGreat
open Go Go.Ev
mutual
def NmT : Tm → Prop
  | .mk _ _ s ts => Sm s ∧ Sm ts ∧ NmTs ts
def NmTs : List Tm → Prop
  | [] => True
  | t :: l => NmT t ∧ NmTs l
end
theorem nmTs_iff : ∀ l : List Tm, NmTs l ↔ ∀ t ∈ l, NmT t
  | [] => by simp [NmTs]
  | t :: l => by simp [NmTs, nmTs_iff l]
theorem nmT_iff (t : Tm) : NmT t ↔ Sm t.s ∧ Sm t.ts ∧ ∀ u ∈ t.ts, NmT u := by cases t; simp [NmT, nmTs_iff, Tm.ts, Tm.s]
theorem NmT.wf : ∀ t : Tm, NmT t → WfT t
  | .mk k n s ts, h => (wfT_iff _).2 ⟨((nmT_iff _).1 h).2.1, fun u hu => NmT.wf u (((nmT_iff _).1 h).2.2 u hu)⟩
  decreasing_by simp [Tm.ts] at hu; have := List.sizeOf_lt_of_mem hu; simp; omega
mutual
def FormT : Tm → Prop
  | .mk k n _ ts => (k = 1 → 0 ≤ n ∧ n ≤ 1048576) ∧ (k = 2 → FormTs ts)
def FormTs : List Tm → Prop
  | [] => True
  | t :: l => FormT t ∧ FormTs l
end
theorem formTs_iff : ∀ l : List Tm, FormTs l ↔ ∀ t ∈ l, FormT t
  | [] => by simp [FormTs]
  | t :: l => by simp [FormTs, formTs_iff l]
theorem formT_iff (t : Tm) : FormT t ↔ (t.k = 1 → 0 ≤ t.n ∧ t.n ≤ 1048576) ∧ (t.k = 2 → ∀ u ∈ t.ts, FormT u) := by cases t; simp [FormT, formTs_iff, Tm.ts, Tm.k, Tm.n]
theorem form_args {t u : Tm} (h : FormT t) (hu : u ∈ argsT t) : FormT u := by
  unfold argsT at hu
  split at hu
  · exact ((formT_iff t).1 h).2 (by assumption) u hu
  · simp at hu
theorem take_step {α : Type} {p : α → Prop} {l : List α} {i : Nat} (h : i < l.length) (h1 : ∀ u ∈ l.take i, p u) (h2 : p l[i]) : ∀ u ∈ l.take (i + 1), p u := by
  intro u hu
  rw [List.take_succ_eq_append_getElem h] at hu
  rcases List.mem_append.1 hu with hu | hu
  · exact h1 u hu
  · simp at hu; subst hu; exact h2
theorem take_all {α : Type} {p : α → Prop} {l : List α} {i : Nat} (h : ¬ i < l.length) (h1 : ∀ u ∈ l.take i, p u) : ∀ u ∈ l, p u := by
  rwa [List.take_of_length_le (by omega)] at h1
theorem n213 : (Tryz.prog.funcs[213]?).map (·.params.size) = some 1 := by kernel_rfl
theorem t213 (z : IV) : tupOk Tryz.prog 213 z = true := by kernel_rfl
theorem f213 (t : Tm) (hs : Sm t.s) (hl : Sm t.ts) (ih : ∀ u ∈ t.ts, ∃ b, (b = true → FormT u) ∧ CC 213 false [encT u] (iB b)) : ∃ b, (b = true → FormT t) ∧ CC 213 false [encT t] (iB b) := by
  refine CC.boolP _ ex213 n213 t213 (by simpa using pure_encT t) (by rfl) ?_
  rw [encT_eq]
  have z0 : t.k = 0 → FormT t := fun h => (formT_iff t).2 ⟨fun h' => by omega, fun h' => by omega⟩
  have z1 : t.k = 1 → 0 ≤ t.n → t.n ≤ 1048576 → FormT t := fun h h1 h2 => (formT_iff t).2 ⟨fun _ => ⟨h1, h2⟩, fun h' => by omega⟩
  have z2 : t.k = 2 → (∀ u ∈ t.ts, FormT u) → FormT t := fun h h1 => (formT_iff t).2 ⟨fun h' => by omega, fun _ => h1⟩
  obtain ⟨b1, h1⟩ := e257 t.s
  obtain ⟨b2, h2⟩ := e89 t.s hs
  have l2 : t.k = 2 → ∀ x y, fir213v0.sat Tryz.prog CC (isBP fun b => b = true → FormT t) [] [.agg [iI t.k, iI t.n, iS t.s, iT t.ts], x, y] := fun hk x y => by
    unfold fir213v0
    refine sat_loop t.ts.length (fun i (_ : Unit) => [iI i]) (fun i _ => ∀ u ∈ t.ts.take i, FormT u) () ?_ ?_ fun i _ hi hI => ?_
    · simp [SE.den]
    · simp
    by_cases hlt : i < t.ts.length
    · have hw := wrapi hlt hl
      obtain ⟨b, hb1, hb⟩ := ih t.ts[i] (List.getElem_mem hlt)
      rw [encT_eq] at hb
      simp only [sat_need, sat_test, sat_bind, sat_call, sat_ret, sat_next]
      simp [SE.den, hlt, hw, ix_T hlt, encT_eq, cellOk]
      refine ⟨_, hb, ?_⟩
      cases b <;> simp
      exact ⟨by omega, take_step hlt hI (hb1 rfl)⟩
    · simp [SE.den, hlt]
      exact z2 hk (take_all hlt hI)
  have l1 : t.k = 2 → ∀ x, fir213v1.sat Tryz.prog CC (isBP fun b => b = true → FormT t) [] [.agg [iI t.k, iI t.n, iS t.s, iT t.ts], x] := fun hk x => by
    unfold fir213v1
    refine sat_loop t.ts.length (fun i (_ : Unit) => [iI i]) (fun i _ => ∀ u ∈ t.ts.take i, FormT u) () ?_ ?_ fun i _ hi hI => ?_
    · simp [SE.den]
    · simp
    by_cases hlt : i < t.ts.length
    · have hw := wrapi hlt hl
      obtain ⟨b, hb1, hb⟩ := ih t.ts[i] (List.getElem_mem hlt)
      rw [encT_eq] at hb
      simp only [sat_need, sat_test, sat_bind, sat_call, sat_ret, sat_next]
      simp [SE.den, hlt, hw, ix_T hlt, encT_eq, cellOk]
      refine ⟨_, hb, ?_⟩
      cases b <;> simp
      exact ⟨by omega, take_step hlt hI (hb1 rfl)⟩
    · simp [SE.den, hlt]
      exact z2 hk (take_all hlt hI)
  have e02 : fir213v2 = fir213v0 := rfl
  have six : t.k = 2 → ∀ x y, 6 < (t.ts.length : Int) ∨ (t.ts.length : Int) ≤ 6 ∧ fir213v0.sat Tryz.prog CC (isBP fun b => b = true → FormT t) [] [.agg [iI t.k, iI t.n, iS t.s, iT t.ts], x, y] := fun hk x y => by
    by_cases h : 6 < (t.ts.length : Int)
    · exact .inl h
    · exact .inr ⟨by omega, l2 hk x y⟩
  simp [fir213, SE.den, e02, cellOk]
  have em := Classical.em (t.s = [])
  by_cases k0 : t.k = 0
  · left; refine ⟨k0, ?_⟩; have := z0 k0; grind
  right; refine ⟨k0, ?_⟩
  by_cases k1 : t.k = 1
  · left; refine ⟨k1, ?_⟩; have := z1 k1; grind
  right; refine ⟨k1, ?_⟩
  by_cases k2 : t.k = 2
  · left
    refine ⟨k2, _, h1, ?_⟩
    by_cases n0 : t.n = 0
    · cases b1 with
      | true =>
        simp [n0]
        by_cases hl2 : (t.ts.length : Int) = 2
        · right; exact ⟨by omega, n0 ▸ l1 k2 _⟩
        · left
          refine ⟨by omega, _, h2, ?_⟩
          cases b2 <;> simp
          exact n0 ▸ six k2 _ _
      | false =>
        simp [n0]
        refine ⟨_, h2, ?_⟩
        cases b2 <;> simp
        exact n0 ▸ six k2 _ _
    · cases b1 <;> simp [n0]
  · right; exact k2
theorem e213 : ∀ t : Tm, NmT t → ∃ b, (b = true → FormT t) ∧ CC 213 false [encT t] (iB b)
  | .mk k n s ts, h => f213 _ ((nmT_iff _).1 h).1 ((nmT_iff _).1 h).2.1 fun u hu => e213 u (((nmT_iff _).1 h).2.2 u hu)
  decreasing_by simp [Tm.ts] at hu; have := List.sizeOf_lt_of_mem hu; simp; omega
theorem n214 : (Tryz.prog.funcs[214]?).map (·.params.size) = some 1 := by kernel_rfl
theorem t214 (z : IV) : tupOk Tryz.prog 214 z = true := by kernel_rfl
theorem mx_int (a b : Int) : ∃ c, maxB Tryz.prog [iI a, iI b] = some (iI c) := by
  exact ⟨if b > a then b else a, rfl⟩
theorem f214 (t : Tm) (hl : Sm t.ts) (ih : ∀ u ∈ t.ts, ∃ b, CC 214 false [encT u] (iI b)) : ∃ b, CC 214 false [encT t] (iI b) := by
  refine CC.int ex214 n214 t214 (by simpa using pure_encT t) (by rfl) ?_
  have h206 := c206 t
  rw [encT_eq] at h206 ⊢
  simp [fir214, fir214v0, SE.den, cellOk]
  refine ⟨_, h206, ?_⟩
  have hal : (argsT t).length ≤ 9223372036854775807 := by unfold argsT; split <;> simp [hl]
  have ha : ∀ u ∈ argsT t, ∃ b, CC 214 false [encT u] (iI b) := fun u hu => by
    unfold argsT at hu
    split at hu
    · exact ih u hu
    · cases hu
  refine ⟨by simp, ?_⟩
  refine sat_loop (argsT t).length (fun i (a : Int) => [iI i, iI a]) (fun _ _ => True) 0 ?_ ?_ fun i a hi _ => ?_
  · simp [SE.den]
  · trivial
  by_cases hlt : i < (argsT t).length
  · have hw := wrapi hlt hal
    obtain ⟨b, hb⟩ := ha (argsT t)[i] (List.getElem_mem hlt)
    obtain ⟨c, hc⟩ := mx_int a b
    rw [encT_eq] at hb
    simp [SE.den, hlt, hw, ix_T hlt, encT_eq, cellOk]
    refine ⟨_, hb, ?_⟩
    simp [SE.den, hc, isRaw1, hw]
    omega
  · simp [SE.den, hlt]
theorem e214 : ∀ t : Tm, WfT t → ∃ b, CC 214 false [encT t] (iI b)
  | .mk k n s ts, h => f214 _ ((wfT_iff _).1 h).1 fun u hu => e214 u (((wfT_iff _).1 h).2 u hu)
  decreasing_by simp [Tm.ts] at hu; have := List.sizeOf_lt_of_mem hu; simp; omega
end Go.Proofs.YtggffkaadeagbaaGreat
