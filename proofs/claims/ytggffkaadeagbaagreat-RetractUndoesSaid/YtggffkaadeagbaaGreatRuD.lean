/- Comparisons of terms and constraints. -/
import Derived.Test.YtggffkaadeagbaaGreatRuC
set_option linter.all false
namespace Go.Proofs.YtggffkaadeagbaaGreat
open Go Go.Ev
theorem n186 : (Tryz.prog.funcs[186]?).map (·.params.size) = some 1 := by kernel_rfl
theorem t186 (z : IV) : tupOk Tryz.prog 186 z = true := by kernel_rfl
theorem n189 : (Tryz.prog.funcs[189]?).map (·.params.size) = some 1 := by kernel_rfl
theorem t189 (z : IV) : tupOk Tryz.prog 189 z = true := by kernel_rfl
theorem n123 : (Tryz.prog.funcs[123]?).map (·.params.size) = some 2 := by kernel_rfl
theorem t123 (z : IV) : tupOk Tryz.prog 123 z = true := by kernel_rfl
theorem n127 : (Tryz.prog.funcs[127]?).map (·.params.size) = some 2 := by kernel_rfl
theorem t127 (z : IV) : tupOk Tryz.prog 127 z = true := by kernel_rfl
theorem n126 : (Tryz.prog.funcs[126]?).map (·.params.size) = some 1 := by kernel_rfl
theorem t126 (z : IV) : tupOk Tryz.prog 126 z = true := by kernel_rfl
theorem n249 : (Tryz.prog.funcs[249]?).map (·.params.size) = some 1 := by kernel_rfl
theorem t249 (z : IV) : tupOk Tryz.prog 249 z = true := by kernel_rfl
theorem n190 : (Tryz.prog.funcs[190]?).map (·.params.size) = some 2 := by kernel_rfl
theorem t190 (z : IV) : tupOk Tryz.prog 190 z = true := by kernel_rfl
theorem n128 : (Tryz.prog.funcs[128]?).map (·.params.size) = some 2 := by kernel_rfl
theorem t128 (z : IV) : tupOk Tryz.prog 128 z = true := by kernel_rfl
theorem n66 : (Tryz.prog.funcs[66]?).map (·.params.size) = some 2 := by kernel_rfl
theorem t66 (z : IV) : tupOk Tryz.prog 66 z = true := by kernel_rfl
theorem n133 : (Tryz.prog.funcs[133]?).map (·.params.size) = some 2 := by kernel_rfl
theorem t133 (z : IV) : tupOk Tryz.prog 133 z = true := by kernel_rfl
theorem n250 : (Tryz.prog.funcs[250]?).map (·.params.size) = some 1 := by kernel_rfl
theorem t250 (z : IV) : tupOk Tryz.prog 250 z = true := by kernel_rfl
theorem n130 : (Tryz.prog.funcs[130]?).map (·.params.size) = some 2 := by kernel_rfl
theorem t130 (z : IV) : tupOk Tryz.prog 130 z = true := by kernel_rfl
theorem n129 : (Tryz.prog.funcs[129]?).map (·.params.size) = some 2 := by kernel_rfl
theorem t129 (z : IV) : tupOk Tryz.prog 129 z = true := by kernel_rfl
theorem n131 : (Tryz.prog.funcs[131]?).map (·.params.size) = some 2 := by kernel_rfl
theorem t131 (z : IV) : tupOk Tryz.prog 131 z = true := by kernel_rfl
theorem n191 : (Tryz.prog.funcs[191]?).map (·.params.size) = some 2 := by kernel_rfl
theorem t191 (z : IV) : tupOk Tryz.prog 191 z = true := by kernel_rfl
theorem n71 : (Tryz.prog.funcs[71]?).map (·.params.size) = some 2 := by kernel_rfl
theorem t71 (z : IV) : tupOk Tryz.prog 71 z = true := by kernel_rfl
theorem n64 : (Tryz.prog.funcs[64]?).map (·.params.size) = some 2 := by kernel_rfl
theorem t64 (z : IV) : tupOk Tryz.prog 64 z = true := by kernel_rfl
def Tm.k : Tm → Int | .mk k _ _ _ => k
def Tm.n : Tm → Int | .mk _ n _ _ => n
def Tm.s : Tm → List UInt8 | .mk _ _ s _ => s
def Tm.ts : Tm → List Tm | .mk _ _ _ ts => ts
theorem encT_eq (t : Tm) : encT t = .agg [iI t.k, iI t.n, iS t.s, iT t.ts] := by cases t; exact encT_mk _ _ _ _
def cmpI (a b : Int) : Int := if a < b then -1 else if b < a then 1 else 0
def cmpS (a b : List UInt8) : Int := if Op.bytesLess a b then -1 else if a = b then 0 else 1
def rk (k : Int) : Int := if k = 1 then 0 else if k = 0 then 1 else if k = 2 then 2 else 3
def or2 (x y : Int) : Int := if x = 0 then y else x
mutual
def cmpT : Tm → Tm → Int
  | .mk k n s ts, u => or2 (cmpI (rk k) (rk u.k)) (if rk k = 0 then cmpI n u.n else if rk k = 1 then cmpI n u.n else if rk k = 2 then or2 (cmpI ts.length u.ts.length) (or2 (cmpS s u.s) (cmpL ts u.ts)) else or2 (cmpI k u.k) (or2 (cmpI n u.n) (cmpS s u.s)))
def cmpL : List Tm → List Tm → Int
  | [], _ => 0
  | t :: l, m => match m with
    | [] => 0
    | u :: m => or2 (cmpT t u) (cmpL l m)
end
mutual
def WfT : Tm → Prop
  | .mk _ _ _ ts => Sm ts ∧ WfTs ts
def WfTs : List Tm → Prop
  | [] => True
  | t :: l => WfT t ∧ WfTs l
end
theorem wfTs_iff : ∀ l : List Tm, WfTs l ↔ ∀ t ∈ l, WfT t
  | [] => by simp [WfTs]
  | t :: l => by simp [WfTs, wfTs_iff l]
theorem wfT_iff (t : Tm) : WfT t ↔ Sm t.ts ∧ ∀ u ∈ t.ts, WfT u := by cases t; simp [WfT, wfTs_iff, Tm.ts]

theorem c186 (a : Int) : CC 186 false [iI a] (iB false) := by
  refine CC.of ex186 n186 (t186 _) (by simp) (by simp) ?_
  simp [fir186, SE.den]
theorem c189 (a : List UInt8) : CC 189 false [iS a] (iB false) := by
  refine CC.of ex189 n189 (t189 _) (by simp) (by simp) ?_
  simp [fir189, SE.den]
theorem c123 (a b : Int) : CC 123 false [iI a, iI b] (iI (cmpI a b)) := by
  refine CC.of ex123 n123 (t123 _) (by simp) (by simp) ?_
  simp [fir123, SE.den]
  refine ⟨_, c186 a, ?_⟩
  simp [SE.den]
  refine ⟨_, c186 b, ?_⟩
  simp [SE.den]
  unfold cmpI
  grind
theorem c127 (a b : List UInt8) : CC 127 false [iS a, iS b] (iI (cmpS a b)) := by
  refine CC.of ex127 n127 (t127 _) (by simp) (by simp) ?_
  simp [fir127, SE.den]
  refine ⟨_, c189 a, ?_⟩
  simp [SE.den]
  refine ⟨_, c189 b, ?_⟩
  simp [SE.den]
  unfold cmpS
  grind
theorem c126 (l : List Int) (hl : Sm l) : CC 126 true [iL l] (iI (l.foldr or2 0)) := by
  refine CC.of exn126 n126 (t126 _) (by simp) (by simp) ?_
  simp [firn126, SE.den]
  refine sat_loop l.length (fun i (_ : Unit) => [iI i]) (fun i _ => l.foldr or2 0 = (l.drop i).foldr or2 0) () ?_ ?_ fun i _ hi hI => ?_
  · simp [SE.den]
  · simp
  by_cases hlt : i < l.length
  · rw [List.drop_eq_getElem_cons hlt, List.foldr_cons] at hI
    have hw := wrapi hlt hl
    simp [SE.den, hlt, hw, isRaw1]
    by_cases h : l[i] = 0
    · right; exact ⟨h, by omega, by rw [hI]; simp [or2, h]⟩
    · left; exact ⟨h, by rw [hI]; simp [or2, h]⟩
  · simp [SE.den, hlt, isRaw1]
    rw [hI, List.drop_of_length_le (by omega)]; rfl
theorem c249 (a : Int) : CC 249 false [iI a] (iI (rk a)) := by
  refine CC.of ex249 n249 (t249 _) (by simp) (by simp) ?_
  simp [fir249, SE.den]
  unfold rk
  grind
theorem c130 (a b : Int) : CC 130 false [iI a, iI b] (iI (cmpI a b)) := by
  refine CC.of ex130 n130 (t130 _) (by simp) (by simp) ?_
  simp [fir130, SE.den]
  unfold cmpI
  grind
theorem c129 (a b : List UInt8) : CC 129 false [iS a, iS b] (iI (cmpS a b)) := by
  refine CC.of ex129 n129 (t129 _) (by simp) (by simp) ?_
  simp [fir129, SE.den]
  unfold cmpS
  grind
theorem c250 (t : Tm) : CC 250 false [encT t] (iI (rk t.k)) := by
  refine CC.of ex250 n250 (t250 _) (by simp [pure_encT]) (by simp) ?_
  simp [fir250, SE.den, encT_eq, cellOk]
  unfold rk
  grind
theorem c128 (l m : List Tm) (hlm : l.length = m.length) (hl : Sm l) (hc : ∀ t ∈ l, ∀ u, CC 190 false [encT t, encT u] (iI (cmpT t u))) : CC 128 false [iT l, iT m] (iI (cmpL l m)) := by
  refine CC.of ex128 n128 (t128 _) (by simp) (by simp) ?_
  simp [fir128, SE.den]
  refine sat_loop l.length (fun i (_ : Unit) => [iI i]) (fun i _ => cmpL l m = cmpL (l.drop i) (m.drop i)) () ?_ ?_ fun i _ hi hI => ?_
  · simp [SE.den]
  · simp
  by_cases hlt : i < l.length
  · have hlm' : i < m.length := by omega
    rw [List.drop_eq_getElem_cons hlt, List.drop_eq_getElem_cons hlm', cmpL] at hI
    have hw := wrapi hlt hl
    have h1 : denIdx 4 (iT l) (iI (i : Nat)) = some (encT l[i]) := denIdx_nat (by simp [hlt]) (by rw [encT_eq]; rfl)
    have h2 : denIdx 4 (iT m) (iI (i : Nat)) = some (encT m[i]) := denIdx_nat (by simp [hlm']) (by rw [encT_eq]; rfl)
    have h3 := hc l[i] (List.getElem_mem hlt) m[i]
    rw [encT_eq, encT_eq] at h3
    simp [SE.den, hlt, hw, h1, h2, encT_eq, cellOk]
    refine ⟨_, h3, ?_⟩
    simp [SE.den, hw]
    by_cases h : cmpT l[i] m[i] = 0
    · right; exact ⟨h, by omega, by rw [hI]; simp [or2, h]⟩
    · left; exact ⟨h, by rw [hI]; simp [or2, h]⟩
  · simp [SE.den, hlt]
    rw [hI, List.drop_of_length_le (by omega)]; rfl
end Go.Proofs.YtggffkaadeagbaaGreat
