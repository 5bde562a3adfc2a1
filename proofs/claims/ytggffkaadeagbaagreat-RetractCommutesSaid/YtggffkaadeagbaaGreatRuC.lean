/- A part of the proof, no condition: comparisons. -/
import Derived.Test.YtggffkaadeagbaaGreatRuA
set_option linter.all false
namespace Go.Proofs.YtggffkaadeagbaaGreat
open Go Go.Ev
theorem n183 : (Tryz.prog.funcs[183]?).map (·.params.size) = some 2 := by kernel_rfl
theorem t183 (z : IV) : tupOk Tryz.prog 183 z = true := by kernel_rfl
def idxF (n : Int) : List Int → Nat → Int
  | [], _ => -1
  | x :: l, i => if n = x then i else idxF n l (i + 1)
theorem idxF_pos (n : Int) : ∀ (l : List Int) (i : Nat), decide (0 ≤ idxF n l i) = l.contains n
  | [], _ => rfl
  | x :: l, i => by
    by_cases h : n = x
    · simp [idxF, h]
    · have := idxF_pos n l (i + 1)
      simp [idxF, h] at this ⊢
      exact this
theorem c183 (l : List Int) (n : Int) (hl : Sm l) : CC 183 false [iL l, iI n] (iI (idxF n l 0)) := by
  refine CC.of ex183 n183 (t183 _) (by simp) (by simp) ?_
  simp [fir183, SE.den]
  refine sat_loop l.length (fun i (_ : Unit) => [iI i]) (fun i _ => idxF n l 0 = idxF n (l.drop i) i) () ?_ ?_ fun i _ hi hI => ?_
  · simp [SE.den]
  · simp
  by_cases hlt : i < l.length
  · rw [List.drop_eq_getElem_cons hlt] at hI
    have hw := wrapi hlt hl
    simp [SE.den, hlt, hw]
    by_cases h : n = l[i]
    · left; exact ⟨h, by rw [hI]; simp [idxF, h]⟩
    · right; simp [h, hI, idxF]; omega
  · simp [SE.den, hlt]
    rw [hI, List.drop_of_length_le (by omega)]; rfl
theorem n121 : (Tryz.prog.funcs[121]?).map (·.params.size) = some 2 := by kernel_rfl
theorem t121 (z : IV) : tupOk Tryz.prog 121 z = true := by kernel_rfl
theorem c121 (l : List Int) (n : Int) (hl : Sm l) : CC 121 false [iL l, iI n] (iB (l.contains n)) := by
  refine CC.of ex121 n121 (t121 _) (by simp) (by simp) ?_
  simp [fir121, SE.den]
  refine ⟨_, c183 l n hl, ?_⟩
  have := idxF_pos n l 0
  simp at this ⊢
  exact this
theorem n58 : (Tryz.prog.funcs[58]?).map (·.params.size) = some 2 := by kernel_rfl
theorem t58 (z : IV) : tupOk Tryz.prog 58 z = true := by kernel_rfl
theorem c58 (l : List Int) (n : Int) (hl : Sm l) : CC 58 false [iL l, iI n] (iB (l.contains n)) := by
  refine CC.of ex58 n58 (t58 _) (by simp) (by simp) ?_
  simp [fir58, SE.den]
  exact ⟨_, c121 l n hl, by simp⟩
theorem c58n (l : List Int) (n : Int) (hl : Sm l) : CC 58 true [iL l, iI n] (iB (l.contains n)) := by
  refine CC.of exn58 n58 (t58 _) (by simp) (by simp) ?_
  simp [firn58, SE.den, isRaw1]
  exact ⟨_, c121 l n hl, by simp [isRaw1]⟩
theorem n94 : (Tryz.prog.funcs[94]?).map (·.params.size) = some 2 := by kernel_rfl
theorem t94 (z : IV) : tupOk Tryz.prog 94 z = true := by kernel_rfl
theorem n53 : (Tryz.prog.funcs[53]?).map (·.params.size) = some 2 := by kernel_rfl
theorem t53 (z : IV) : tupOk Tryz.prog 53 z = true := by kernel_rfl
theorem c53 (a b : List Int) (hl : Sm a) : CC 53 false [iL a, iL b] (iB (a == b)) := by
  refine CC.of ex53 n53 (t53 _) (by simp) (by simp) ?_
  simp [fir53, SE.den]
  by_cases hab : a.length = b.length
  · right; simp [hab]
    refine sat_loop a.length (fun i (_ : Unit) => [iI i]) (fun i _ => (a = b ↔ a.drop i = b.drop i)) () ?_ ?_ fun i _ hi hI => ?_
    · simp [SE.den]
    · simp
    by_cases hlt : i < a.length
    · have hlb : i < b.length := by omega
      have hI2 : a = b ↔ a[i] = b[i] ∧ a.drop (i + 1) = b.drop (i + 1) := by
        rw [hI, List.drop_eq_getElem_cons hlt, List.drop_eq_getElem_cons hlb, List.cons.injEq]
      have hw := wrapi hlt hl
      simp [SE.den, hlt, hlb, hw]
      by_cases h : a[i] = b[i]
      · right; exact ⟨h, by omega, by rw [hI2]; simp [h]⟩
      · left; exact ⟨h, fun hh => h (hI2.1 hh).1⟩
    · simp [SE.den, hlt]
      rw [List.drop_of_length_le (by omega), List.drop_of_length_le (by omega)] at hI
      exact hI.2 rfl
  · left; exact ⟨by omega, fun h => hab (by rw [h])⟩
theorem n164 : (Tryz.prog.funcs[164]?).map (·.params.size) = some 2 := by kernel_rfl
theorem t164 (z : IV) : tupOk Tryz.prog 164 z = true := by kernel_rfl
theorem c164 (a b : List Int) (hl : Sm a) : CC 164 false [iL a, iL b] (iB (a == b)) := by
  refine CC.of ex164 n164 (t164 _) (by simp) (by simp) ?_
  simp [fir164, SE.den]
  by_cases hab : a.length = b.length
  · right; simp [hab]
    refine sat_loop a.length (fun i (_ : Unit) => [iI i]) (fun i _ => (a = b ↔ a.drop i = b.drop i)) () ?_ ?_ fun i _ hi hI => ?_
    · simp [SE.den]
    · simp
    by_cases hlt : i < a.length
    · have hlb : i < b.length := by omega
      have hI2 : a = b ↔ a[i] = b[i] ∧ a.drop (i + 1) = b.drop (i + 1) := by
        rw [hI, List.drop_eq_getElem_cons hlt, List.drop_eq_getElem_cons hlb, List.cons.injEq]
      have hw := wrapi hlt hl
      simp [SE.den, hlt, hlb, hw]
      by_cases h : a[i] = b[i]
      · right; exact ⟨h, by omega, by rw [hI2]; simp [h]⟩
      · left; exact ⟨h, fun hh => h (hI2.1 hh).1⟩
    · simp [SE.den, hlt]
      rw [List.drop_of_length_le (by omega), List.drop_of_length_le (by omega)] at hI
      exact hI.2 rfl
  · left; exact ⟨by omega, fun h => hab (by rw [h])⟩
end Go.Proofs.YtggffkaadeagbaaGreat
namespace Go.Proofs.YtggffkaadeagbaaGreat
open Go Go.Ev
theorem n186 : (Tryz.prog.funcs[186]?).map (·.params.size) = some 1 := by kernel_rfl
theorem t186 (z : IV) : tupOk Tryz.prog 186 z = true := by kernel_rfl
theorem n123 : (Tryz.prog.funcs[123]?).map (·.params.size) = some 2 := by kernel_rfl
theorem t123 (z : IV) : tupOk Tryz.prog 123 z = true := by kernel_rfl
theorem n250 : (Tryz.prog.funcs[250]?).map (·.params.size) = some 1 := by kernel_rfl
theorem t250 (z : IV) : tupOk Tryz.prog 250 z = true := by kernel_rfl
theorem n130 : (Tryz.prog.funcs[130]?).map (·.params.size) = some 2 := by kernel_rfl
theorem t130 (z : IV) : tupOk Tryz.prog 130 z = true := by kernel_rfl
theorem n129 : (Tryz.prog.funcs[129]?).map (·.params.size) = some 2 := by kernel_rfl
theorem t129 (z : IV) : tupOk Tryz.prog 129 z = true := by kernel_rfl
theorem n131 : (Tryz.prog.funcs[131]?).map (·.params.size) = some 2 := by kernel_rfl
theorem t131 (z : IV) : tupOk Tryz.prog 131 z = true := by kernel_rfl
theorem n191 : (Tryz.prog.funcs[191]?).map (·.params.size) = some 2 := by kernel_rfl
theorem t191 (z : IV) : tupOk Tryz.prog 191 z = true := by kernel_rfl
theorem n71 : (Tryz.prog.funcs[71]?).map (·.params.size) = some 2 := by kernel_rfl
theorem t71 (z : IV) : tupOk Tryz.prog 71 z = true := by kernel_rfl
theorem n64 : (Tryz.prog.funcs[64]?).map (·.params.size) = some 2 := by kernel_rfl
theorem t64 (z : IV) : tupOk Tryz.prog 64 z = true := by kernel_rfl
def Tm.k : Tm → Int | .mk k _ _ _ => k
def Tm.n : Tm → Int | .mk _ n _ _ => n
def Tm.s : Tm → List UInt8 | .mk _ _ s _ => s
def Tm.ts : Tm → List Tm | .mk _ _ _ ts => ts
theorem encT_eq (t : Tm) : encT t = .agg [iI t.k, iI t.n, iS t.s, iT t.ts] := by cases t; exact encT_mk _ _ _ _
def cmpI (a b : Int) : Int := if a < b then -1 else if b < a then 1 else 0
def cmpS (a b : List UInt8) : Int := if Op.bytesLess a b then -1 else if a = b then 0 else 1
def rk (k : Int) : Int := if k = 1 then 0 else if k = 0 then 1 else if k = 2 then 2 else 3
def or2 (x y : Int) : Int := if x = 0 then y else x
mutual
def cmpT : Tm → Tm → Int
  | .mk k n s ts, u => or2 (cmpI (rk k) (rk u.k)) (if rk k = 0 then cmpI n u.n else if rk k = 1 then cmpI n u.n else if rk k = 2 then or2 (cmpI ts.length u.ts.length) (or2 (cmpS s u.s) (cmpL ts u.ts)) else or2 (cmpI k u.k) (or2 (cmpI n u.n) (cmpS s u.s)))
def cmpL : List Tm → List Tm → Int
  | [], _ => 0
  | t :: l, m => match m with
    | [] => 0
    | u :: m => or2 (cmpT t u) (cmpL l m)
end
mutual
def WfT : Tm → Prop
  | .mk _ _ _ ts => Sm ts ∧ WfTs ts
def WfTs : List Tm → Prop
  | [] => True
  | t :: l => WfT t ∧ WfTs l
end
theorem wfTs_iff : ∀ l : List Tm, WfTs l ↔ ∀ t ∈ l, WfT t
  | [] => by simp [WfTs]
  | t :: l => by simp [WfTs, wfTs_iff l]
theorem wfT_iff (t : Tm) : WfT t ↔ Sm t.ts ∧ ∀ u ∈ t.ts, WfT u := by cases t; simp [WfT, wfTs_iff, Tm.ts]
theorem c186 (a : Int) : CC 186 false [iI a] (iB false) := by
  refine CC.of ex186 n186 (t186 _) (by simp) (by simp) ?_
  simp [fir186, SE.den]
theorem c123 (a b : Int) : CC 123 false [iI a, iI b] (iI (cmpI a b)) := by
  refine CC.of ex123 n123 (t123 _) (by simp) (by simp) ?_
  simp [fir123, SE.den]
  refine ⟨_, c186 a, ?_⟩
  simp [SE.den]
  refine ⟨_, c186 b, ?_⟩
  simp [SE.den]
  unfold cmpI
  grind
theorem c130 (a b : Int) : CC 130 false [iI a, iI b] (iI (cmpI a b)) := by
  refine CC.of ex130 n130 (t130 _) (by simp) (by simp) ?_
  simp [fir130, SE.den]
  unfold cmpI
  grind
theorem c129 (a b : List UInt8) : CC 129 false [iS a, iS b] (iI (cmpS a b)) := by
  refine CC.of ex129 n129 (t129 _) (by simp) (by simp) ?_
  simp [fir129, SE.den]
  unfold cmpS
  grind
theorem c250 (t : Tm) : CC 250 false [encT t] (iI (rk t.k)) := by
  refine CC.of ex250 n250 (t250 _) (by simp [pure_encT]) (by simp) ?_
  simp [fir250, SE.den, encT_eq, cellOk]
  unfold rk
  grind
end Go.Proofs.YtggffkaadeagbaaGreat
namespace Go.Proofs.YtggffkaadeagbaaGreat
open Go Go.Ev
theorem cmpT_eq (a b : Tm) : cmpT a b = or2 (cmpI (rk a.k) (rk b.k)) (if rk a.k = 0 then cmpI a.n b.n else if rk a.k = 1 then cmpI a.n b.n else if rk a.k = 2 then or2 (cmpI a.ts.length b.ts.length) (or2 (cmpS a.s b.s) (cmpL a.ts b.ts)) else or2 (cmpI a.k b.k) (or2 (cmpI a.n b.n) (cmpS a.s b.s))) := by
  cases a; cases b; simp only [cmpT, Tm.k, Tm.n, Tm.s, Tm.ts]; first | rfl | congr
theorem cmpI_len {α β : Type} {l : List α} {m : List β} (h : cmpI l.length m.length = 0) : l.length = m.length := by
  unfold cmpI at h
  split at h
  · omega
  · split at h <;> omega
theorem or2_ne {x y : Int} (h : ¬ x = 0) : or2 x y = x := if_neg h
def cmpA (a b : At) : Int := or2 (cmpS a.s b.s) (or2 (cmpI a.ts.length b.ts.length) (cmpL a.ts b.ts))
def WfA (a : At) : Prop := Sm a.ts ∧ ∀ t ∈ a.ts, WfT t
theorem c131 (l m : List Tm) (hlm : l.length = m.length) (hl : Sm l) (hc : ∀ t ∈ l, ∀ u, CC 191 false [encT t, encT u] (iI (cmpT t u))) : CC 131 false [iT l, iT m] (iI (cmpL l m)) := by
  refine CC.of ex131 n131 (t131 _) (by simp) (by simp) ?_
  simp [fir131, SE.den]
  refine sat_loop l.length (fun i (_ : Unit) => [iI i]) (fun i _ => cmpL l m = cmpL (l.drop i) (m.drop i)) () ?_ ?_ fun i _ hi hI => ?_
  · simp [SE.den]
  · simp
  by_cases hlt : i < l.length
  · have hlm' : i < m.length := by omega
    rw [List.drop_eq_getElem_cons hlt, List.drop_eq_getElem_cons hlm', cmpL] at hI
    have hw := wrapi hlt hl
    have h1 : denIdx 4 (iT l) (iI (i : Nat)) = some (encT l[i]) := denIdx_nat (by simp [hlt]) (by rw [encT_eq]; rfl)
    have h2 : denIdx 4 (iT m) (iI (i : Nat)) = some (encT m[i]) := denIdx_nat (by simp [hlm']) (by rw [encT_eq]; rfl)
    have h3 := hc l[i] (List.getElem_mem hlt) m[i]
    rw [encT_eq, encT_eq] at h3
    simp [SE.den, hlt, hlm', hw, h1, h2, encT_eq, cellOk]
    refine ⟨_, h3, ?_⟩
    simp [SE.den]
    by_cases h : cmpT l[i] m[i] = 0
    · right; exact ⟨h, by omega, by rw [hI]; simp [or2, h]⟩
    · left; exact ⟨h, by rw [hI]; simp [or2, h]⟩
  · simp [SE.den, hlt]
    refine ⟨_, c130 _ _, ?_⟩
    simp [SE.den]
    rw [hI, List.drop_of_length_le (by omega), cmpL, hlm]
    simp [cmpI]
theorem f191 (a b : Tm) (ha : WfT a) (hc : ∀ t ∈ a.ts, ∀ u, CC 191 false [encT t, encT u] (iI (cmpT t u))) : CC 191 false [encT a, encT b] (iI (cmpT a b)) := by
  refine CC.of ex191 n191 (t191 _) (by simp [pure_encT]) (by simp) ?_
  have ha5 := c250 a
  have hb5 := c250 b
  rw [encT_eq] at ha5 hb5
  simp [fir191, SE.den, encT_eq, cellOk]
  refine ⟨_, ha5, ?_⟩
  simp [SE.den]
  refine ⟨_, hb5, ?_⟩
  simp [SE.den]
  refine ⟨_, c130 _ _, ?_⟩
  simp [SE.den]
  rw [cmpT_eq]
  by_cases h0 : cmpI (rk a.k) (rk b.k) = 0
  · right
    refine ⟨h0, ?_⟩
    refine ⟨_, ha5, ?_⟩
    simp [SE.den, or2, h0]
    by_cases h1 : rk a.k = 0
    · left
      refine ⟨h1, _, c130 _ _, ?_⟩
      simp [SE.den, h1]
    · right
      refine ⟨h1, ?_⟩
      by_cases h2 : rk a.k = 1
      · left
        refine ⟨h2, _, c130 _ _, ?_⟩
        simp [SE.den, h2]
      · right
        refine ⟨h2, ?_⟩
        by_cases h3 : rk a.k = 2
        · left
          refine ⟨h3, _, c130 _ _, ?_⟩
          simp [SE.den, h3]
          by_cases h4 : cmpI a.ts.length b.ts.length = 0
          · left
            refine ⟨h4, _, c129 _ _, ?_⟩
            simp [SE.den, h4]
            by_cases h5 : cmpS a.s b.s = 0
            · left
              refine ⟨h5, _, c131 _ _ (cmpI_len h4) ((wfT_iff a).1 ha).1 hc, ?_⟩
              simp [SE.den, h5]
            · right; exact ⟨h5, by simp [h5]⟩
          · right; exact ⟨h4, by simp [h4]⟩
        · right
          refine ⟨h3, _, c130 _ _, ?_⟩
          simp [SE.den]
          by_cases h4 : cmpI a.k b.k = 0
          · left
            refine ⟨h4, _, c130 _ _, ?_⟩
            simp [SE.den]
            by_cases h5 : cmpI a.n b.n = 0
            · left
              refine ⟨h5, _, c129 _ _, ?_⟩
              simp [SE.den, h1, h2, h3, h4, h5]
            · right; exact ⟨h5, by simp [h1, h2, h3, h4, h5]⟩
          · right; exact ⟨h4, by simp [h1, h2, h3, h4]⟩
  · left
    exact ⟨h0, by simp [or2, h0]⟩
theorem c191 : ∀ (a : Tm), WfT a → ∀ b : Tm, CC 191 false [encT a, encT b] (iI (cmpT a b))
  | .mk k n s ts, hw, b => f191 _ b hw fun t ht u => c191 t (((wfT_iff _).1 hw).2 t ht) u
  decreasing_by simp [Tm.ts] at ht; have := List.sizeOf_lt_of_mem ht; simp; omega
theorem c131' (l m : List Tm) (hlm : l.length = m.length) (hl : Sm l) (hw : ∀ t ∈ l, WfT t) : CC 131 false [iT l, iT m] (iI (cmpL l m)) :=
  c131 l m hlm hl fun t ht u => c191 t (hw t ht) u
theorem c71 (a b : At) (ha : WfA a) : CC 71 false [encA a, encA b] (iI (cmpA a b)) := by
  refine CC.of ex71 n71 (t71 _) (by simp [pure_encA]) (by simp) ?_
  simp [fir71, SE.den, encA, cellOk]
  refine ⟨_, c129 _ _, ?_⟩
  simp [SE.den]
  by_cases h1 : cmpS a.s b.s = 0
  · left
    refine ⟨h1, _, c130 _ _, ?_⟩
    simp [SE.den]
    by_cases h2 : cmpI a.ts.length b.ts.length = 0
    · left
      refine ⟨h2, _, c131' _ _ (cmpI_len h2) ha.1 ha.2, ?_⟩
      simp [SE.den, cmpA, or2, h1, h2]
    · right; exact ⟨h2, by simp [cmpA, or2, h1, h2]⟩
  · right; exact ⟨h1, by simp [cmpA, or2, h1]⟩
theorem c64 (a b : At) (ha : WfA a) : CC 64 false [encA a, encA b] (iB (cmpA a b == 0)) := by
  refine CC.of ex64 n64 (t64 _) (by simp [pure_encA]) (by simp) ?_
  have h := c71 a b ha
  simp only [encA] at h
  simp [fir64, SE.den, encA, cellOk]
  refine ⟨_, h, ?_⟩
  simp [SE.den]
end Go.Proofs.YtggffkaadeagbaaGreat
namespace Go.Proofs.YtggffkaadeagbaaGreat
open Go Go.Ev
theorem n109 : (Tryz.prog.funcs[109]?).map (·.params.size) = some 2 := by kernel_rfl
theorem t109 (z : IV) : tupOk Tryz.prog 109 z = true := by kernel_rfl
theorem n52 : (Tryz.prog.funcs[52]?).map (·.params.size) = some 2 := by kernel_rfl
theorem t52 (z : IV) : tupOk Tryz.prog 52 z = true := by kernel_rfl
theorem n19 : (Tryz.prog.funcs[19]?).map (·.params.size) = some 2 := by kernel_rfl
theorem t19 (z : IV) : tupOk Tryz.prog 19 z = true := by kernel_rfl
def WfF (f : Fa) : Prop := WfA f.a ∧ Sm f.j
def WfP (x : Ap) : Prop := Sm x.heads ∧ Sm x.gone ∧ Sm x.made ∧ Sm x.just
structure WfM (m : Me) : Prop where
  sf : Sm m.facts
  sp : Sm m.past
  sl : Sm m.log
  f : ∀ x ∈ m.facts, WfF x
  p : ∀ x ∈ m.past, WfF x
  l : ∀ x ∈ m.log, WfP x
theorem ix_F {l : List Fa} {i : Nat} (h : i < l.length) : denIdx 4 (iFs l) (iI (i : Nat)) = some (encF l[i]) := denIdx_nat (by simp [h]) rfl
theorem ix_A {l : List At} {i : Nat} (h : i < l.length) : denIdx 2 (iAs l) (iI (i : Nat)) = some (encA l[i]) := denIdx_nat (by simp [h]) rfl
theorem ix_P {l : List Ap} {i : Nat} (h : i < l.length) : denIdx 6 (iPs l) (iI (i : Nat)) = some (encP l[i]) := denIdx_nat (by simp [h]) rfl
theorem ix_T {l : List Tm} {i : Nat} (h : i < l.length) : denIdx 4 (iT l) (iI (i : Nat)) = some (encT l[i]) := denIdx_nat (by simp [h]) (by rw [encT_eq]; rfl)
def sameF (a b : Fa) : Bool := a.id == b.id && cmpA a.a b.a == 0 && a.j == b.j
def sameFs : List Fa → List Fa → Bool
  | [], [] => true
  | a :: l, b :: m => sameF a b && sameFs l m
  | _, _ => false
theorem sameFs_len : ∀ {l m : List Fa}, sameFs l m = true → l.length = m.length
  | [], [], _ => rfl
  | _ :: _, _ :: _, h => by
    simp only [sameFs, Bool.and_eq_true] at h
    simp [sameFs_len h.2]
  | [], _ :: _, h => by simp [sameFs] at h
  | _ :: _, [], h => by simp [sameFs] at h
def sameP (x y : Ap) : Bool := x.rule == y.rule && x.failed == y.failed && x.heads == y.heads && x.gone == y.gone && x.made == y.made && x.just == y.just
def samePs : List Ap → List Ap → Bool
  | [], [] => true
  | a :: l, b :: m => sameP a b && samePs l m
  | _, _ => false
theorem samePs_len : ∀ {l m : List Ap}, samePs l m = true → l.length = m.length
  | [], [], _ => rfl
  | _ :: _, _ :: _, h => by
    simp only [samePs, Bool.and_eq_true] at h
    simp [samePs_len h.2]
  | [], _ :: _, h => by simp [samePs] at h
  | _ :: _, [], h => by simp [samePs] at h
def sameM (a b : Me) : Bool := a.next == b.next && a.given == b.given && sameFs a.facts b.facts && sameFs a.past b.past && samePs a.log b.log
theorem c109 (a b : Fa) (ha : WfF a) : CC 109 false [encF a, encF b] (iB (sameF a b)) := by
  refine CC.of ex109 n109 (t109 _) (by simp [pure_encF]) (by simp) ?_
  have h := c64 a.a b.a ha.1
  simp only [encA] at h
  simp [fir109, SE.den, encF, cellOk]
  by_cases h1 : a.id = b.id
  · left
    refine ⟨h1, _, h, ?_⟩
    simp [SE.den]
    by_cases h2 : cmpA a.a b.a = 0
    · left
      refine ⟨h2, _, c164 a.j b.j ha.2, ?_⟩
      simp [SE.den, sameF, h1, h2]
    · right; exact ⟨h2, by simp [sameF, h2]⟩
  · right; exact ⟨h1, by simp [sameF, h1]⟩
theorem c52 (l m : List Fa) (hl : Sm l) (hw : ∀ x ∈ l, WfF x) : CC 52 false [iFs l, iFs m] (iB (sameFs l m)) := by
  refine CC.of ex52 n52 (t52 _) (by simp) (by simp) ?_
  simp [fir52, SE.den]
  by_cases hlm : l.length = m.length
  · right
    refine ⟨by omega, ?_⟩
    refine sat_loop l.length (fun i (_ : Unit) => [iI i]) (fun i _ => sameFs l m = sameFs (l.drop i) (m.drop i)) () ?_ ?_ fun i _ hi hI => ?_
    · simp [SE.den]
    · simp
    by_cases hlt : i < l.length
    · have hlm' : i < m.length := by omega
      rw [List.drop_eq_getElem_cons hlt, List.drop_eq_getElem_cons hlm', sameFs] at hI
      have hw' := wrapi hlt hl
      have h3 := c109 l[i] m[i] (hw _ (List.getElem_mem hlt))
      simp only [encF] at h3
      simp [SE.den, hlt, hw', ix_F hlt, ix_F hlm', encF, cellOk]
      refine ⟨_, h3, ?_⟩
      simp [SE.den]
      by_cases h : sameF l[i] m[i] = true
      · right; exact ⟨h, by omega, by rw [hI]; simp [h]⟩
      · left; simp at h; exact ⟨h, by rw [hI]; simp [h]⟩
    · simp [SE.den, hlt]
      rw [hI, List.drop_of_length_le (by omega), List.drop_of_length_le (by omega)]; rfl
  · left
    refine ⟨by omega, ?_⟩
    cases h : sameFs l m
    · rfl
    · exact absurd (sameFs_len h) hlm
theorem c19 (a b : Me) (ha : WfM a) : CC 19 false [encM a, encM b] (iB (sameM a b)) := by
  refine CC.of ex19 n19 (t19 _) (by simp [pure_encM]) (by simp) ?_
  simp [fir19, SE.den, encM, cellOk]
  refine ⟨_, c52 a.facts b.facts ha.sf ha.f, ?_⟩
  simp [SE.den]
  cases h1 : sameFs a.facts b.facts
  · left; simp [sameM, h1]
  right; simp
  refine ⟨_, c52 a.past b.past ha.sp ha.p, ?_⟩
  simp [SE.den]
  cases h2 : sameFs a.past b.past
  · left; simp [sameM, h2]
  right; simp
  by_cases h3 : a.next = b.next
  · right; refine ⟨h3, ?_⟩
    by_cases h4 : a.given = b.given
    · right; refine ⟨h4, ?_⟩
      by_cases h5 : a.log.length = b.log.length
      · right; refine ⟨by omega, ?_⟩
        refine sat_loop a.log.length (fun i (_ : Unit) => [iI i]) (fun i _ => sameM a b = samePs (a.log.drop i) (b.log.drop i)) () ?_ ?_ fun i _ hi hI => ?_
        · simp [SE.den]
        · simp [sameM, h1, h2, h3, h4]
        by_cases hlt : i < a.log.length
        · have hlm' : i < b.log.length := by omega
          rw [List.drop_eq_getElem_cons hlt, List.drop_eq_getElem_cons hlm', samePs] at hI
          have hw' := wrapi hlt ha.sl
          obtain ⟨w1, w2, w3, w4⟩ := ha.l _ (List.getElem_mem hlt)
          simp [SE.den, hlt, hw', ix_P hlt, ix_P hlm', encP, cellOk]
          by_cases g1 : a.log[i].rule = b.log[i].rule
          · right; refine ⟨g1, ?_⟩
            by_cases g2 : a.log[i].failed = b.log[i].failed
            · right; refine ⟨g2, _, c53 _ _ w1, ?_⟩
              simp [SE.den]
              by_cases g3 : a.log[i].heads = b.log[i].heads
              · right; refine ⟨g3, _, c53 _ _ w2, ?_⟩
                simp [SE.den]
                by_cases g4 : a.log[i].gone = b.log[i].gone
                · right; refine ⟨g4, _, c53 _ _ w3, ?_⟩
                  simp [SE.den]
                  by_cases g5 : a.log[i].made = b.log[i].made
                  · right; refine ⟨g5, _, c53 _ _ w4, ?_⟩
                    simp [SE.den]
                    by_cases g6 : a.log[i].just = b.log[i].just
                    · right; exact ⟨g6, by omega, by rw [hI]; simp [sameP, g1, g2, g3, g4, g5, g6]⟩
                    · left; exact ⟨g6, by rw [hI]; simp [sameP, g6]⟩
                  · left; exact ⟨g5, by rw [hI]; simp [sameP, g5]⟩
                · left; exact ⟨g4, by rw [hI]; simp [sameP, g4]⟩
              · left; exact ⟨g3, by rw [hI]; simp [sameP, g3]⟩
            · left; exact ⟨g2, by rw [hI]; simp [sameP, g2]⟩
          · left; exact ⟨g1, by rw [hI]; simp [sameP, g1]⟩
        · simp [SE.den, hlt]
          rw [hI, List.drop_of_length_le (by omega), List.drop_of_length_le (by omega)]; rfl
      · left; refine ⟨by omega, ?_⟩
        cases h : samePs a.log b.log
        · simp [sameM, h]
        · exact absurd (samePs_len h) h5
    · left; exact ⟨h4, by simp [sameM, h4]⟩
  · left; exact ⟨h3, by simp [sameM, h3]⟩
end Go.Proofs.YtggffkaadeagbaaGreat
