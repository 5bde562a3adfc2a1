/- A part of the proof, no condition: lists of facts, the bounds, sorting. -/
import Derived.Test.YtggffkaadeagbaaGreatRuC
import Derived.Test.YtggffkaadeagbaaGreatEvP
set_option linter.all false
namespace Go.Proofs.YtggffkaadeagbaaGreat
open Go Go.Ev
def freeF (l : List Fa) (n : Int) : List Fa := l.filter fun f => !decide (n ∈ f.j)
def backM (m : Me) (n : Int) : List Int := (m.log.filter fun x => decide (n ∈ x.just)).flatMap (·.gone)
structure SmM (m : Me) : Prop where
  w : WfM m
  f : m.facts.length ≤ 9
  p : m.past.length ≤ 9
  l : m.log.length ≤ 12
  g : ∀ x ∈ m.log, x.gone.length ≤ 8
theorem iy_F {l : List Fa} {i : Nat} (h : i < l.length) : denIdx 4 (iFs l) (iI (i : Nat)) = some (.agg [iI l[i].id, iS l[i].a.s, iT l[i].a.ts, iL l[i].j]) := ix_F h
theorem iy_P {l : List Ap} {i : Nat} (h : i < l.length) : denIdx 6 (iPs l) (iI (i : Nat)) = some (.agg [iI l[i].rule, iL l[i].heads, iL l[i].gone, iL l[i].made, iB l[i].failed, iL l[i].just]) := ix_P h
theorem elemsOk_of {α : Type} {s : Nat} {enc : α → IV} (h : ∀ a, ∃ cs, enc a = .agg cs ∧ cs.length = s ∧ cs.all cellOk = true) (l : List α) : elemsOk s (l.map enc) = true := by
  unfold elemsOk
  rw [List.all_eq_true]
  intro e he
  obtain ⟨x, _, rfl⟩ := List.mem_map.1 he
  obtain ⟨cs, h1, h2, h3⟩ := h x
  rw [h1]
  simp only [cellsOf, Bool.and_eq_true, beq_iff_eq]
  exact ⟨h2, h3⟩
theorem cat_F {a b : List Fa} (h : a.length + b.length ≤ 1000) : denCat 4 72 (iFs a) (iFs b) = some (iFs (a ++ b)) := by
  have h2 := elemsOk_of (s := 4) (enc := encF) (fun x => ⟨_, rfl, rfl, rfl⟩) b
  simp [denCat, h2]
  omega
theorem cat_P {a b : List Ap} (h : a.length + b.length ≤ 1000) : denCat 6 112 (iPs a) (iPs b) = some (iPs (a ++ b)) := by
  have h2 := elemsOk_of (s := 6) (enc := encP) (fun x => ⟨_, rfl, rfl, rfl⟩) b
  simp [denCat, h2]
  omega
theorem cat_F1 {a : List Fa} (x : Fa) (h : a.length ≤ 900) : denCat 4 72 (iFs a) (.tree 4 [.agg [iI x.id, iS x.a.s, iT x.a.ts, iL x.j]]) = some (iFs (a ++ [x])) := cat_F (b := [x]) (by simp; omega)
theorem cat_P1 {a : List Ap} (x : Ap) (h : a.length ≤ 900) : denCat 6 112 (iPs a) (.tree 6 [.agg [iI x.rule, iL x.heads, iL x.gone, iL x.made, iB x.failed, iL x.just]]) = some (iPs (a ++ [x])) := cat_P (b := [x]) (by simp; omega)
def firn94 : FIR :=
 (.need (.ok (.var 0))
 (.need (.ok (.var 1))
 (.loop (.ac (.i 0) .an)
 (.need (.len (.ok (.var 0)))
 (.need (.ok (.bin .lss 3 (.var 2) (.len (.ok (.var 0)))))
 (.test (.ok (.bin .lss 3 (.var 2) (.len (.ok (.var 0)))))
 (.bind (.idx 1 (.ok (.var 0)) (.var 2))
 (.need (.ok (.var 3))
 (.need (.ok (.bin .eql 3 (.ok (.var 3)) (.ok (.var 1))))
 (.test (.ok (.bin .eql 3 (.ok (.var 3)) (.ok (.var 1))))
 (.ret (.rw (.b true)))
 (.need (.ok (.bin .add 3 (.var 2) (.i 1)))
 (.next 0 (.ac (.ok (.bin .add 3 (.var 2) (.i 1))) .an)))))))
 (.ret (.rw (.b false)))))))))
def cfgn94 : Cfg := ⟨pures, joins, stops, [⟨0, 94, 2, [(0, (5, 0))], [], [], []⟩], []⟩
theorem exn94 : execFn Tryz.prog cfgn94 400 true 94 = firn94 := by kernel_rfl
theorem c94n (l : List Int) (n : Int) (hl : Sm l) : CC 94 true [iL l, iI n] (iB (l.contains n)) := by
  refine CC.of exn94 n94 (t94 _) (by simp) (by simp) ?_
  simp [firn94, SE.den]
  refine sat_loop l.length (fun i (_ : Unit) => [iI i]) (fun i _ => (n ∈ l ↔ n ∈ l.drop i)) () ?_ ?_ fun i _ hi hI => ?_
  · simp [SE.den]
  · simp
  by_cases hlt : i < l.length
  · rw [List.drop_eq_getElem_cons hlt, List.mem_cons] at hI
    have hw := wrapi hlt hl
    simp [SE.den, hlt, hw, isRaw1]
    grind
  · simp [SE.den, hlt, isRaw1]
    rw [hI, List.drop_of_length_le (by omega)]; simp
end Go.Proofs.YtggffkaadeagbaaGreat
namespace Go.Proofs.YtggffkaadeagbaaGreat
open Go Go.Ev
variable {Q : IV → Prop} {k0 k1 k2 k3 k4 k5 : List IV → Prop}
end Go.Proofs.YtggffkaadeagbaaGreat
namespace Go.Proofs.YtggffkaadeagbaaGreat
open Go Go.Ev
theorem n206 : (Tryz.prog.funcs[206]?).map (·.params.size) = some 1 := by kernel_rfl
theorem t206 (z : IV) : tupOk Tryz.prog 206 z = true := by kernel_rfl
theorem n158 : (Tryz.prog.funcs[158]?).map (·.params.size) = some 1 := by kernel_rfl
theorem t158 (z : IV) : tupOk Tryz.prog 158 z = true := by kernel_rfl
theorem n102 : (Tryz.prog.funcs[102]?).map (·.params.size) = some 1 := by kernel_rfl
theorem t102 (z : IV) : tupOk Tryz.prog 102 z = true := by kernel_rfl
theorem n44 : (Tryz.prog.funcs[44]?).map (·.params.size) = some 1 := by kernel_rfl
theorem t44 (z : IV) : tupOk Tryz.prog 44 z = true := by kernel_rfl
theorem n31 : (Tryz.prog.funcs[31]?).map (·.params.size) = some 1 := by kernel_rfl
theorem t31 (z : IV) : tupOk Tryz.prog 31 z = true := by kernel_rfl
theorem n30 : (Tryz.prog.funcs[30]?).map (·.params.size) = some 1 := by kernel_rfl
theorem t30 (z : IV) : tupOk Tryz.prog 30 z = true := by kernel_rfl
theorem n10 : (Tryz.prog.funcs[10]?).map (·.params.size) = some 2 := by kernel_rfl
theorem t10 (z : IV) : tupOk Tryz.prog 10 z = true := by kernel_rfl
def argsT (t : Tm) : List Tm := if t.k = 2 then t.ts else []
theorem c206 (t : Tm) : CC 206 false [encT t] (iT (argsT t)) := by
  refine CC.of ex206 n206 (t206 _) (by simp [pure_encT]) (by simp) ?_
  simp [fir206, SE.den, encT_eq, cellOk, argsT]
  by_cases h : t.k = 2
  · left; simp [h]
  · right; simp [h]
mutual
def sizeT : Tm → Int
  | .mk k _ _ ts => if k = 2 then sizeL 1 ts else 1
def sizeL : Int → List Tm → Int
  | acc, [] => acc
  | acc, t :: l => sizeL (IntKind.i64.wrap (acc + sizeT t)) l
end
theorem sizeT_eq (t : Tm) : sizeT t = sizeL 1 (argsT t) := by
  obtain ⟨k, n, s, ts⟩ := t
  show sizeT (.mk k n s ts) = sizeL 1 (if k = 2 then ts else [])
  by_cases hk : k = 2 <;> simp [sizeT, hk, sizeL]
theorem argsT_mem {t u : Tm} (h : u ∈ argsT t) : u ∈ t.ts := by
  unfold argsT at h
  split at h
  · exact h
  · simp at h
theorem f158 (t : Tm) (hl : Sm t.ts) (hc : ∀ u ∈ t.ts, CC 158 false [encT u] (iI (sizeT u))) : CC 158 false [encT t] (iI (sizeT t)) := by
  refine CC.of ex158 n158 (t158 _) (by simp [pure_encT]) (by simp) ?_
  have h := c206 t
  rw [encT_eq] at h
  simp [fir158, SE.den, encT_eq, cellOk]
  refine ⟨_, h, ?_⟩
  simp [SE.den]
  have hal : (argsT t).length ≤ 9223372036854775807 := by unfold argsT; split <;> simp_all
  refine sat_loop (argsT t).length (fun i (a : Int) => [iI i, iI a]) (fun i a => sizeT t = sizeL a ((argsT t).drop i)) 1 ?_ ?_ fun i a hi hI => ?_
  · simp [SE.den]
  · simp [sizeT_eq]
  by_cases hlt : i < (argsT t).length
  · rw [List.drop_eq_getElem_cons hlt, sizeL] at hI
    have hw := wrapi hlt hal
    have hm : (argsT t)[i] ∈ t.ts := argsT_mem (List.getElem_mem hlt)
    have h3 := hc _ hm
    rw [encT_eq] at h3
    simp [SE.den, hlt, hw, ix_T hlt, encT_eq, cellOk]
    refine ⟨_, h3, ?_⟩
    simp [SE.den, hw]
    exact ⟨by omega, hI⟩
  · simp [SE.den, hlt]
    rw [hI, List.drop_of_length_le (by omega), sizeL]
theorem c158 : ∀ t : Tm, WfT t → CC 158 false [encT t] (iI (sizeT t))
  | .mk k n s ts, hw => f158 _ ((wfT_iff _).1 hw).1 fun u hu => c158 u (((wfT_iff _).1 hw).2 u hu)
  decreasing_by simp [Tm.ts] at hu; have := List.sizeOf_lt_of_mem hu; simp; omega
def tinyL : Int → List Tm → Bool
  | _, [] => true
  | acc, t :: l => if 60 < IntKind.i64.wrap (acc + sizeT t) then false else tinyL (IntKind.i64.wrap (acc + sizeT t)) l
def tinyB (l : List Tm) : Bool := if 8 < l.length then false else tinyL 0 l
theorem c102 (l : List Tm) (hw : ∀ t ∈ l, WfT t) : CC 102 false [iT l] (iB (tinyB l)) := by
  refine CC.of ex102 n102 (t102 _) (by simp) (by simp) ?_
  simp [fir102, SE.den]
  by_cases h8 : 8 < l.length
  · left; exact ⟨by omega, by simp [tinyB, h8]⟩
  right; refine ⟨by omega, ?_⟩
  refine sat_loop l.length (fun i (a : Int) => [iI i, iI a]) (fun i a => tinyB l = tinyL a (l.drop i)) 0 ?_ ?_ fun i a hi hI => ?_
  · simp [SE.den]
  · simp [tinyB, h8]
  by_cases hlt : i < l.length
  · rw [List.drop_eq_getElem_cons hlt, tinyL] at hI
    have hwr := wrapi hlt (by omega)
    have h3 := c158 l[i] (hw _ (List.getElem_mem hlt))
    rw [encT_eq] at h3
    simp [SE.den, hlt, hwr, ix_T hlt, encT_eq, cellOk]
    refine ⟨_, h3, ?_⟩
    simp [SE.den, hwr]
    by_cases hs : 60 < IntKind.i64.wrap (a + sizeT l[i])
    · left; exact ⟨hs, by rw [hI, if_pos hs]⟩
    · right; exact ⟨by omega, by omega, by rw [hI, if_neg hs]⟩
  · simp [SE.den, hlt]
    rw [hI, List.drop_of_length_le (by omega), tinyL]
def atomsB (l : List At) : Bool := l.all fun a => tinyB a.ts
theorem c44n (l : List At) (hl : Sm l) (hw : ∀ a ∈ l, WfA a) : CC 44 true [iAs l] (iB (atomsB l)) := by
  refine CC.of exn44 n44 (t44 _) (by simp) (by simp) ?_
  simp [firn44, SE.den]
  refine sat_loop l.length (fun i (_ : Unit) => [iI i]) (fun i _ => atomsB l = atomsB (l.drop i)) () ?_ ?_ fun i _ hi hI => ?_
  · simp [SE.den]
  · simp
  by_cases hlt : i < l.length
  · rw [List.drop_eq_getElem_cons hlt, atomsB, atomsB, List.all_cons] at hI
    have hwr := wrapi hlt hl
    simp [SE.den, hlt, hwr, ix_A hlt, encA, cellOk, isRaw1]
    refine ⟨_, c102 l[i].ts (hw _ (List.getElem_mem hlt)).2, ?_⟩
    simp [SE.den, hwr, isRaw1]
    cases ht : tinyB l[i].ts
    · left; refine ⟨rfl, ?_⟩; rw [atomsB, hI, ht]; simp
    · right; refine ⟨rfl, by omega, ?_⟩; rw [atomsB, hI, ht]; simp [atomsB]
  · simp [SE.den, hlt, isRaw1]
    rw [hI, List.drop_of_length_le (by omega)]; simp [atomsB]
def factB (f : Fa) : Bool := decide (f.j.length ≤ 20) && atomsB [f.a]
def factsB (l : List Fa) : Bool := decide (l.length ≤ 9) && l.all factB
theorem c31 (l : List Fa) (hw : ∀ f ∈ l, WfF f) : CC 31 false [iFs l] (iB (factsB l)) := by
  refine CC.of ex31 n31 (t31 _) (by simp) (by simp) ?_
  simp [fir31, SE.den]
  by_cases h9 : 9 < l.length
  · left; exact ⟨by omega, by simp [factsB]; omega⟩
  right; refine ⟨by omega, ?_⟩
  refine sat_loop l.length (fun i (_ : Unit) => [iI i]) (fun i _ => factsB l = (l.drop i).all factB) () ?_ ?_ fun i _ hi hI => ?_
  · simp [SE.den]
  · simp [factsB]; omega
  by_cases hlt : i < l.length
  · rw [List.drop_eq_getElem_cons hlt, List.all_cons] at hI
    have hwr := wrapi hlt (by omega)
    have hwf := hw _ (List.getElem_mem hlt)
    simp [SE.den, hlt, hwr, ix_F hlt, encF, cellOk, cellsOf]
    by_cases h20 : 20 < l[i].j.length
    · left; refine ⟨by omega, ?_⟩
      rw [hI, factB]; simp; intro h; omega
    right; refine ⟨by omega, ?_⟩
    have h3 := c44n [l[i].a] (by simp) (by simpa using hwf.1)
    simp only [iAs, List.map_cons, List.map_nil, encA] at h3
    refine ⟨_, h3, ?_⟩
    simp [SE.den, hwr]
    cases ht : atomsB [l[i].a]
    · left; refine ⟨rfl, ?_⟩; rw [hI, factB, ht]; simp
    · right; refine ⟨rfl, by omega, ?_⟩; rw [hI, factB, ht]; simp; omega
  · simp [SE.den, hlt]
    rw [hI, List.drop_of_length_le (by omega)]; simp
def logB (x : Ap) : Bool := decide (x.heads.length ≤ 8) && (decide (x.gone.length ≤ 8) && (decide (x.made.length ≤ 20) && decide (x.just.length ≤ 20)))
def smallB (m : Me) : Bool := factsB m.facts && (factsB m.past && (decide (m.log.length ≤ 12) && m.log.all logB))
theorem small_bounds {m : Me} (hm : WfM m) (h : smallB m = true) : m.facts.length ≤ 9 ∧ m.past.length ≤ 9 ∧ m.log.length ≤ 12 ∧ ∀ x ∈ m.log, x.gone.length ≤ 8 := by
  simp only [smallB, factsB, Bool.and_eq_true, decide_eq_true_eq, List.all_eq_true, logB] at h
  exact ⟨h.1.1, h.2.1.1, h.2.2.1, fun x hx => (h.2.2.2 x hx).2.1⟩
end Go.Proofs.YtggffkaadeagbaaGreat
namespace Go.Proofs.YtggffkaadeagbaaGreat
open Go Go.Ev
variable {Q : IV → Prop} {k0 k1 k2 k3 k4 k5 : List IV → Prop}
def insL {α : Type} (lt : α → α → Bool) (b : α) : List α → List α
  | [] => [b]
  | x :: l => if lt b x then b :: x :: l else x :: insL lt b l
def ltA (a b : At) : Bool := decide (cmpA a b < 0)
theorem insL_len {α : Type} (lt : α → α → Bool) (b : α) : ∀ l : List α, (insL lt b l).length = l.length + 1
  | [] => rfl
  | x :: l => by
    unfold insL
    split
    · simp
    · simp [insL_len lt b l]
theorem iy_A {l : List At} {i : Nat} (h : i < l.length) : denIdx 2 (iAs l) (iI (i : Nat)) = some (.agg [iS l[i].s, iT l[i].ts]) := ix_A h
theorem iz_F {l : List Fa} {i : Nat} (h : i < l.length) : denIdx 4 (iFs l) (iI (i : Nat)) = some (.agg [iI l[i].id, iS l[i].a.s, iT l[i].a.ts, iL l[i].j]) := ix_F h
theorem cat_A {a b : List At} (h : a.length + b.length ≤ 1000) : denCat 2 40 (iAs a) (iAs b) = some (iAs (a ++ b)) := by
  have h2 : elemsOk 2 (b.map encA) = true := by
    unfold elemsOk
    rw [List.all_eq_true]
    intro e he
    obtain ⟨x, _, rfl⟩ := List.mem_map.1 he
    rfl
  simp [denCat, h2]
  omega
end Go.Proofs.YtggffkaadeagbaaGreat
namespace Go.Proofs.YtggffkaadeagbaaGreat
open Go Go.Ev
section sorting
variable {α : Type} {lt : α → α → Bool}
def mrg (lt : α → α → Bool) : List α → List α → List α
  | out, [] => out
  | out, b :: l => mrg lt (insL lt b out) l
theorem mrg_app (o A B : List α) : mrg lt o (A ++ B) = mrg lt (mrg lt o A) B := by
  induction A generalizing o with
  | nil => rfl
  | cons a A ih => exact ih _
theorem mrg_snoc (o A : List α) (x : α) : mrg lt o (A ++ [x]) = insL lt x (mrg lt o A) := by rw [mrg_app]; rfl
theorem mrg_len (o A : List α) : (mrg lt o A).length = o.length + A.length := by
  induction A generalizing o with
  | nil => rfl
  | cons a A ih => rw [mrg, ih, insL_len]; simp; omega
structure Ord (lt : α → α → Bool) : Prop where
  h1 : ∀ x y z, lt x y = true → lt z y = false → lt x z = true
  h2 : ∀ x y, lt x y = true → lt y x = false
abbrev Srt (lt : α → α → Bool) (p : List α) : Prop := p.Pairwise fun a b => lt b a = false
theorem insL_cons (x a : α) (l : List α) : insL lt x (a :: l) = if lt x a then x :: a :: l else a :: insL lt x l := rfl
theorem mem_insL {b x : α} : ∀ {l : List α}, b ∈ insL lt x l ↔ b = x ∨ b ∈ l
  | [] => by simp [insL]
  | a :: l => by
    rw [insL_cons]
    split
    · simp
    · simp [mem_insL (l := l)]; grind
theorem srt_insL (hO : Ord lt) (x : α) : ∀ {p : List α}, Srt lt p → Srt lt (insL lt x p)
  | [], _ => by simp [insL, Srt]
  | a :: l, h => by
    have h' := List.pairwise_cons.1 h
    rw [insL_cons]
    split
    · rename_i hxa
      refine List.pairwise_cons.2 ⟨fun b hb => ?_, h⟩
      rcases List.mem_cons.1 hb with rfl | hb
      · exact hO.h2 _ _ hxa
      · exact hO.h2 _ _ (hO.h1 x a b hxa (h'.1 b hb))
    · rename_i hxa
      refine List.pairwise_cons.2 ⟨fun b hb => ?_, srt_insL hO x h'.2⟩
      rcases mem_insL.1 hb with rfl | hb
      · simpa using hxa
      · exact h'.1 b hb
theorem srt_mrg (hO : Ord lt) : ∀ (A : List α) {o : List α}, Srt lt o → Srt lt (mrg lt o A)
  | [], _, h => h
  | a :: A, _, h => srt_mrg hO A (srt_insL hO a h)
theorem insL_app {x : α} : ∀ {A B : List α}, (∀ a ∈ A, lt x a = false) → (∀ b ∈ B, lt x b = true) → insL lt x (A ++ B) = A ++ x :: B
  | [], [], _, _ => rfl
  | [], b :: B, _, hB => by simp [insL, hB b (by simp)]
  | a :: A, B, hA, hB => by
    have := insL_app (A := A) (B := B) (fun a ha => hA a (by simp [ha])) hB
    simp [insL, hA a (by simp), this]
theorem ins_exit (hO : Ord lt) {p : List α} {x : α} {j : Nat} (hs : Srt lt p) (hj : j ≤ p.length) (hB : ∀ b ∈ p.drop j, lt x b = true) (hA : ∀ i, j = i + 1 → ∀ a, p[i]? = some a → lt x a = false) :
    p.take j ++ x :: p.drop j = insL lt x p := by
  have h := insL_app (lt := lt) (x := x) (A := p.take j) (B := p.drop j) ?_ hB
  · rw [List.take_append_drop] at h; exact h.symm
  · intro a ha
    cases j with
    | zero => simp at ha
    | succ i =>
      obtain ⟨q, hq, rfl⟩ := List.mem_iff_getElem.1 ha
      simp at hq
      have hi : i < p.length := by omega
      have hx := hA i rfl p[i] (List.getElem?_eq_getElem hi)
      rw [List.getElem_take]
      by_cases hqi : q = i
      · subst hqi; exact hx
      · have hlt : q < i := by omega
        have hpw := List.pairwise_iff_getElem.1 hs q i (by omega) hi hlt
        cases hxa : lt x p[q] with
        | false => rfl
        | true => rw [hO.h1 x _ _ hxa hpw] at hx; cases hx
end sorting
def ltF (a b : Fa) : Bool := decide (a.id < b.id)
theorem ordF : Ord ltF := ⟨fun x y z h1 h2 => by simp [ltF] at *; omega, fun x y h => by simp [ltF] at *; omega⟩
end Go.Proofs.YtggffkaadeagbaaGreat
