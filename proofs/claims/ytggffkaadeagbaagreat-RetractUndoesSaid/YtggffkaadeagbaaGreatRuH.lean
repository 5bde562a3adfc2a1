/- The reference's Retract with what it calls in place. -/
import Derived.Test.YtggffkaadeagbaaGreatRuG
set_option linter.all false
namespace Go.Proofs.YtggffkaadeagbaaGreat
open Go Go.Ev
def pures2 : List Nat := [58, 75, 67, 109, 94, 53, 52, 26, 28, 25, 19, 121, 78, 183, 123, 127, 126, 186, 189, 190, 128, 249, 66, 133, 191, 71, 64, 164, 250, 130, 129, 131, 158, 206, 102, 44, 79, 30, 31, 10, 23, 61, 22, 24, 27, 29, 15, 9]
def joins2 : List Nat := [48, 60, 63, 65, 118, 124, 132, 174, 197, 216, 252, 263, 334]
def stops2 : List Nat := [185, 188, 254]
def fir25v0 : FIR :=
 (.loop (.ac (.i 0) (.ac (.b false) (.ac (.tr 4 .an) .an)))
 (.need (.len (.var 13))
 (.need (.ok (.bin .lss 3 (.var 14) (.len (.var 13))))
 (.test (.ok (.bin .lss 3 (.var 14) (.len (.var 13))))
 (.need (.ok (.un .not (.var 15)))
 (.test (.ok (.un .not (.var 15)))
 (.need (.idx 4 (.var 11) (.var 12))
 (.need (.idx 4 (.var 13) (.var 14))
 (.need (.ok (.bin .lss 3 (.ecl 4 (.var 11) (.var 12) 0) (.ecl 4 (.var 13) (.var 14) 0)))
 (.test (.ok (.bin .lss 3 (.ecl 4 (.var 11) (.var 12) 0) (.ecl 4 (.var 13) (.var 14) 0)))
 (.need (.idx 4 (.var 11) (.var 12))
 (.bind (.cat 4 72 (.var 16) (.tr 4 (.ac (.ac (.ecl 4 (.var 11) (.var 12) 0) (.ac (.ecl 4 (.var 11) (.var 12) 1) (.ac (.ecl 4 (.var 11) (.var 12) 2) (.ac (.ecl 4 (.var 11) (.var 12) 3) .an)))) .an)))
 (.need (.idx 4 (.var 13) (.var 14))
 (.bind (.cat 4 72 (.var 17) (.tr 4 (.ac (.ac (.ecl 4 (.var 13) (.var 14) 0) (.ac (.ecl 4 (.var 13) (.var 14) 1) (.ac (.ecl 4 (.var 13) (.var 14) 2) (.ac (.ecl 4 (.var 13) (.var 14) 3) .an)))) .an)))
 (.need (.ok (.bin .add 3 (.var 14) (.i 1)))
 (.next 4 (.ac (.ok (.bin .add 3 (.var 14) (.i 1))) (.ac (.b true) (.ac (.var 18) .an)))))))))
 (.need (.idx 4 (.var 13) (.var 14))
 (.bind (.cat 4 72 (.var 16) (.tr 4 (.ac (.ac (.ecl 4 (.var 13) (.var 14) 0) (.ac (.ecl 4 (.var 13) (.var 14) 1) (.ac (.ecl 4 (.var 13) (.var 14) 2) (.ac (.ecl 4 (.var 13) (.var 14) 3) .an)))) .an)))
 (.need (.ok (.bin .add 3 (.var 14) (.i 1)))
 (.next 4 (.ac (.ok (.bin .add 3 (.var 14) (.i 1))) (.ac (.var 15) (.ac (.var 17) .an)))))))))))
 (.need (.idx 4 (.var 13) (.var 14))
 (.bind (.cat 4 72 (.var 16) (.tr 4 (.ac (.ac (.ecl 4 (.var 13) (.var 14) 0) (.ac (.ecl 4 (.var 13) (.var 14) 1) (.ac (.ecl 4 (.var 13) (.var 14) 2) (.ac (.ecl 4 (.var 13) (.var 14) 3) .an)))) .an)))
 (.need (.ok (.bin .add 3 (.var 14) (.i 1)))
 (.next 4 (.ac (.ok (.bin .add 3 (.var 14) (.i 1))) (.ac (.var 15) (.ac (.var 17) .an)))))))))
 (.need (.ok (.un .not (.var 15)))
 (.test (.ok (.un .not (.var 15)))
 (.need (.idx 4 (.var 11) (.var 12))
 (.bind (.cat 4 72 (.var 16) (.tr 4 (.ac (.ac (.ecl 4 (.var 11) (.var 12) 0) (.ac (.ecl 4 (.var 11) (.var 12) 1) (.ac (.ecl 4 (.var 11) (.var 12) 2) (.ac (.ecl 4 (.var 11) (.var 12) 3) .an)))) .an)))
 (.need (.ok (.bin .add 3 (.var 12) (.i 1)))
 (.next 3 (.ac (.ok (.bin .add 3 (.var 12) (.i 1))) (.ac (.var 17) .an))))))
 (.need (.ok (.bin .add 3 (.var 12) (.i 1)))
 (.next 3 (.ac (.ok (.bin .add 3 (.var 12) (.i 1))) (.ac (.var 16) .an))))))))))
def fir25v1 : FIR :=
 (.loop (.ac (.i 0) (.ac (.b false) (.ac (.tr 4 .an) .an)))
 (.need (.len (.var 16))
 (.need (.ok (.bin .lss 3 (.var 18) (.len (.var 16))))
 (.test (.ok (.bin .lss 3 (.var 18) (.len (.var 16))))
 (.need (.ok (.un .not (.var 19)))
 (.test (.ok (.un .not (.var 19)))
 (.need (.idx 4 (.var 15) (.var 17))
 (.bind (.idx 4 (.var 16) (.var 18))
 (.need (.agn 4 (.var 21))
 (.need (.ok (.bin .lss 3 (.ecl 4 (.var 15) (.var 17) 0) (.fld (.var 21) 0)))
 (.test (.ok (.bin .lss 3 (.ecl 4 (.var 15) (.var 17) 0) (.fld (.var 21) 0)))
 (.need (.idx 4 (.var 15) (.var 17))
 (.bind (.cat 4 72 (.var 20) (.tr 4 (.ac (.ac (.ecl 4 (.var 15) (.var 17) 0) (.ac (.ecl 4 (.var 15) (.var 17) 1) (.ac (.ecl 4 (.var 15) (.var 17) 2) (.ac (.ecl 4 (.var 15) (.var 17) 3) .an)))) .an)))
 (.bind (.idx 4 (.var 16) (.var 18))
 (.need (.agn 4 (.var 23))
 (.bind (.cat 4 72 (.var 22) (.tr 4 (.ac (.ac (.fld (.var 23) 0) (.ac (.fld (.var 23) 1) (.ac (.fld (.var 23) 2) (.ac (.fld (.var 23) 3) .an)))) .an)))
 (.need (.ok (.bin .add 3 (.var 18) (.i 1)))
 (.next 6 (.ac (.ok (.bin .add 3 (.var 18) (.i 1))) (.ac (.b true) (.ac (.var 24) .an))))))))))
 (.bind (.idx 4 (.var 16) (.var 18))
 (.need (.agn 4 (.var 22))
 (.bind (.cat 4 72 (.var 20) (.tr 4 (.ac (.ac (.fld (.var 22) 0) (.ac (.fld (.var 22) 1) (.ac (.fld (.var 22) 2) (.ac (.fld (.var 22) 3) .an)))) .an)))
 (.need (.ok (.bin .add 3 (.var 18) (.i 1)))
 (.next 6 (.ac (.ok (.bin .add 3 (.var 18) (.i 1))) (.ac (.var 19) (.ac (.var 23) .an)))))))))))))
 (.bind (.idx 4 (.var 16) (.var 18))
 (.need (.agn 4 (.var 21))
 (.bind (.cat 4 72 (.var 20) (.tr 4 (.ac (.ac (.fld (.var 21) 0) (.ac (.fld (.var 21) 1) (.ac (.fld (.var 21) 2) (.ac (.fld (.var 21) 3) .an)))) .an)))
 (.need (.ok (.bin .add 3 (.var 18) (.i 1)))
 (.next 6 (.ac (.ok (.bin .add 3 (.var 18) (.i 1))) (.ac (.var 19) (.ac (.var 22) .an))))))))))
 (.need (.ok (.un .not (.var 19)))
 (.test (.ok (.un .not (.var 19)))
 (.need (.idx 4 (.var 15) (.var 17))
 (.bind (.cat 4 72 (.var 20) (.tr 4 (.ac (.ac (.ecl 4 (.var 15) (.var 17) 0) (.ac (.ecl 4 (.var 15) (.var 17) 1) (.ac (.ecl 4 (.var 15) (.var 17) 2) (.ac (.ecl 4 (.var 15) (.var 17) 3) .an)))) .an)))
 (.need (.ok (.bin .add 3 (.var 17) (.i 1)))
 (.next 5 (.ac (.var 21) (.ac (.ok (.bin .add 3 (.var 17) (.i 1))) .an))))))
 (.need (.ok (.bin .add 3 (.var 17) (.i 1)))
 (.next 5 (.ac (.var 20) (.ac (.ok (.bin .add 3 (.var 17) (.i 1))) .an))))))))))
def fir25v2 : FIR :=
 (.loop (.ac (.i 0) (.ac (.tr 4 .an) .an))
 (.need (.len (.var 9))
 (.need (.ok (.bin .lss 3 (.var 18) (.len (.var 9))))
 (.test (.ok (.bin .lss 3 (.var 18) (.len (.var 9))))
 (.need (.idx 4 (.var 9) (.var 18))
 (.call 67 true (.ac (.ecl 4 (.var 9) (.var 18) 3) (.ac (.ok (.var 1)) .an))
 (.need (.ok (.var 20))
 (.need (.ok (.un .not (.ok (.var 20))))
 (.test (.ok (.un .not (.ok (.var 20))))
 (.need (.idx 4 (.var 9) (.var 18))
 (.bind (.cat 4 72 (.var 19) (.tr 4 (.ac (.ac (.ecl 4 (.var 9) (.var 18) 0) (.ac (.ecl 4 (.var 9) (.var 18) 1) (.ac (.ecl 4 (.var 9) (.var 18) 2) (.ac (.ecl 4 (.var 9) (.var 18) 3) .an)))) .an)))
 (.need (.ok (.bin .add 3 (.var 18) (.i 1)))
 (.next 6 (.ac (.ok (.bin .add 3 (.var 18) (.i 1))) (.ac (.var 21) .an))))))
 (.need (.ok (.bin .add 3 (.var 18) (.i 1)))
 (.next 6 (.ac (.ok (.bin .add 3 (.var 18) (.i 1))) (.ac (.var 19) .an)))))))))
 (.ret (.tp (.ac (.ac (.var 16) (.ac (.var 19) (.ac (.var 4) (.ac (.fld (.var 0) 3) (.ac (.fld (.var 0) 4) .an))))) (.ac (.i 0) .an))))))))
def fir25v3 : FIR :=
 (.loop (.ac (.var 13) (.ac (.i 0) .an))
 (.need (.len (.var 15))
 (.need (.ok (.bin .lss 3 (.var 17) (.len (.var 15))))
 (.test (.ok (.bin .lss 3 (.var 17) (.len (.var 15))))
 fir25v1
 fir25v2))))
def fir25v4 : FIR :=
 (.loop (.ac (.i 0) (.ac (.tr 4 .an) .an))
 (.need (.len (.var 8))
 (.need (.ok (.bin .lss 3 (.var 14) (.len (.var 8))))
 (.test (.ok (.bin .lss 3 (.var 14) (.len (.var 8))))
 (.need (.idx 4 (.var 8) (.var 14))
 (.call 67 true (.ac (.ecl 4 (.var 8) (.var 14) 3) (.ac (.ok (.var 1)) .an))
 (.need (.ok (.var 16))
 (.need (.ok (.un .not (.ok (.var 16))))
 (.test (.ok (.un .not (.ok (.var 16))))
 (.need (.idx 4 (.var 8) (.var 14))
 (.bind (.cat 4 72 (.var 15) (.tr 4 (.ac (.ac (.ecl 4 (.var 8) (.var 14) 0) (.ac (.ecl 4 (.var 8) (.var 14) 1) (.ac (.ecl 4 (.var 8) (.var 14) 2) (.ac (.ecl 4 (.var 8) (.var 14) 3) .an)))) .an)))
 (.need (.ok (.bin .add 3 (.var 14) (.i 1)))
 (.next 4 (.ac (.ok (.bin .add 3 (.var 14) (.i 1))) (.ac (.var 17) .an))))))
 (.need (.ok (.bin .add 3 (.var 14) (.i 1)))
 (.next 4 (.ac (.ok (.bin .add 3 (.var 14) (.i 1))) (.ac (.var 15) .an)))))))))
 fir25v3))))
def fir25v5 : FIR :=
 (.loop (.ac (.i 0) (.ac (.tr 4 .an) .an))
 (.need (.len (.var 11))
 (.need (.ok (.bin .lss 3 (.var 12) (.len (.var 11))))
 (.test (.ok (.bin .lss 3 (.var 12) (.len (.var 11))))
 fir25v0
 fir25v4))))
def fir25v6 : FIR :=
 (.loop (.ac (.i 0) (.ac (.tr 4 .an) .an))
 (.need (.len (.fld (.var 0) 0))
 (.need (.ok (.bin .lss 3 (.var 10) (.len (.fld (.var 0) 0))))
 (.test (.ok (.bin .lss 3 (.var 10) (.len (.fld (.var 0) 0))))
 (.bind (.idx 4 (.fld (.var 0) 0) (.var 10))
 (.need (.agn 4 (.var 12))
 (.call 67 false (.ac (.fld (.var 12) 3) (.ac (.ok (.var 1)) .an))
 (.need (.ok (.var 13))
 (.need (.ok (.un .not (.ok (.var 13))))
 (.test (.ok (.un .not (.ok (.var 13))))
 (.bind (.idx 4 (.fld (.var 0) 0) (.var 10))
 (.need (.agn 4 (.var 14))
 (.bind (.cat 4 72 (.var 11) (.tr 4 (.ac (.ac (.fld (.var 14) 0) (.ac (.fld (.var 14) 1) (.ac (.fld (.var 14) 2) (.ac (.fld (.var 14) 3) .an)))) .an)))
 (.need (.ok (.bin .add 3 (.var 10) (.i 1)))
 (.next 2 (.ac (.ok (.bin .add 3 (.var 10) (.i 1))) (.ac (.var 15) .an)))))))
 (.need (.ok (.bin .add 3 (.var 10) (.i 1)))
 (.next 2 (.ac (.ok (.bin .add 3 (.var 10) (.i 1))) (.ac (.var 11) .an))))))))))
 fir25v5))))
def fir25v7 : FIR :=
 (.loop (.ac (.var 3) (.ac (.var 3) (.ac (.i 0) (.ac (.tr 4 .an) (.ac (.tr 4 .an) .an)))))
 (.need (.len (.fld (.var 0) 1))
 (.need (.ok (.bin .lss 3 (.var 7) (.len (.fld (.var 0) 1))))
 (.test (.ok (.bin .lss 3 (.var 7) (.len (.fld (.var 0) 1))))
 (.bind (.idx 4 (.fld (.var 0) 1) (.var 7))
 (.need (.agn 4 (.var 10))
 (.call 94 true (.ac (.var 5) (.ac (.fld (.var 10) 0) .an))
 (.need (.ok (.var 11))
 (.test (.ok (.var 11))
 (.bind (.idx 4 (.fld (.var 0) 1) (.var 7))
 (.need (.agn 4 (.var 12))
 (.bind (.cat 4 72 (.var 8) (.tr 4 (.ac (.ac (.fld (.var 12) 0) (.ac (.fld (.var 12) 1) (.ac (.fld (.var 12) 2) (.ac (.fld (.var 12) 3) .an)))) .an)))
 (.need (.ok (.bin .add 3 (.var 7) (.i 1)))
 (.next 1 (.ac (.var 5) (.ac (.var 6) (.ac (.ok (.bin .add 3 (.var 7) (.i 1))) (.ac (.var 13) (.ac (.var 9) .an))))))))))
 (.bind (.idx 4 (.fld (.var 0) 1) (.var 7))
 (.need (.agn 4 (.var 12))
 (.bind (.cat 4 72 (.var 9) (.tr 4 (.ac (.ac (.fld (.var 12) 0) (.ac (.fld (.var 12) 1) (.ac (.fld (.var 12) 2) (.ac (.fld (.var 12) 3) .an)))) .an)))
 (.need (.ok (.bin .add 3 (.var 7) (.i 1)))
 (.next 1 (.ac (.var 5) (.ac (.var 6) (.ac (.ok (.bin .add 3 (.var 7) (.i 1))) (.ac (.var 8) (.ac (.var 13) .an)))))))))))))))
 fir25v6))))
def fir25v8 : FIR :=
 (.loop (.ac (.i 0) (.ac (.tr 1 .an) (.ac (.tr 6 .an) .an)))
 (.need (.len (.fld (.var 0) 2))
 (.need (.ok (.bin .lss 3 (.var 2) (.len (.fld (.var 0) 2))))
 (.test (.ok (.bin .lss 3 (.var 2) (.len (.fld (.var 0) 2))))
 (.bind (.idx 6 (.fld (.var 0) 2) (.var 2))
 (.need (.agn 6 (.var 5))
 (.call 67 false (.ac (.fld (.var 5) 5) (.ac (.ok (.var 1)) .an))
 (.need (.ok (.var 6))
 (.test (.ok (.var 6))
 (.bind (.idx 6 (.fld (.var 0) 2) (.var 2))
 (.need (.agn 6 (.var 7))
 (.need (.rws (.fld (.var 7) 2))
 (.bind (.cat 1 8 (.var 3) (.fld (.var 7) 2))
 (.need (.ok (.bin .add 3 (.var 2) (.i 1)))
 (.next 0 (.ac (.ok (.bin .add 3 (.var 2) (.i 1))) (.ac (.var 8) (.ac (.var 4) .an)))))))))
 (.bind (.idx 6 (.fld (.var 0) 2) (.var 2))
 (.need (.agn 6 (.var 7))
 (.bind (.cat 6 112 (.var 4) (.tr 6 (.ac (.ac (.fld (.var 7) 0) (.ac (.fld (.var 7) 1) (.ac (.fld (.var 7) 2) (.ac (.fld (.var 7) 3) (.ac (.fld (.var 7) 4) (.ac (.fld (.var 7) 5) .an)))))) .an)))
 (.need (.ok (.bin .add 3 (.var 2) (.i 1)))
 (.next 0 (.ac (.ok (.bin .add 3 (.var 2) (.i 1))) (.ac (.var 3) (.ac (.var 8) .an)))))))))))))
 fir25v7))))
/-- constraintref50.Retract -/
def fir25i : FIR :=
 (.need (.agn 5 (.var 0))
 (.need (.ok (.var 1))
 (.need (.ok (.bin .lss 3 (.ok (.var 1)) (.i 1)))
 (.test (.ok (.bin .lss 3 (.ok (.var 1)) (.i 1)))
 (.ret (.tp (.ac (.ac (.tr 4 .an) (.ac (.tr 4 .an) (.ac (.tr 6 .an) (.ac (.i 0) (.ac (.i 0) .an))))) (.ac (.i 13) .an))))
 (.need (.ok (.bin .gtr 3 (.ok (.var 1)) (.fld (.var 0) 4)))
 (.test (.ok (.bin .gtr 3 (.ok (.var 1)) (.fld (.var 0) 4)))
 (.ret (.tp (.ac (.ac (.tr 4 .an) (.ac (.tr 4 .an) (.ac (.tr 6 .an) (.ac (.i 0) (.ac (.i 0) .an))))) (.ac (.i 13) .an))))
 fir25v8))))))
def cfg25i : Cfg := ⟨pures2, joins2, stops2, [⟨1, 25067, 8, [(1, (7, 0)), (1, (8, 0)), (1, (9, 0))], [(9, 3), (9, 0)], [], []⟩, ⟨1, 25063, 8, [(1, (7, 0)), (1, (8, 0)), (1, (9, 0))], [(8, 3), (8, 0)], [], []⟩, ⟨1, 25071, 3, [(1, (5, 0)), (1, (6, 0))], [(9, 3), (9, 0)], [], []⟩, ⟨1, 25067, 3, [(1, (6, 0))], [], [], [(1, (5, 2))]⟩, ⟨1, 25066, 3, [(1, (5, 0)), (1, (6, 0))], [(8, 3), (8, 0)], [], []⟩, ⟨1, 25063, 3, [(1, (5, 0)), (1, (6, 0))], [(7, 3), (7, 0)], [], []⟩, ⟨1, 25062, 3, [(1, (5, 0)), (1, (6, 0))], [(6, 3), (6, 0)], [], []⟩, ⟨1, 25056, 4, [(1, (7, 0)), (1, (6, 0)), (1, (8, 0))], [(5, 3), (5, 0), (4, 3), (4, 0)], [], [(0, (54, 2)), (1, (1, 2))]⟩, ⟨0, 25, 6, [(0, (7, 0)), (0, (6, 0)), (0, (8, 0))], [(3, 3), (3, 0), (2, 0)], [], []⟩]⟩
theorem ex25i : execFn Tryz.prog cfg25i 400 false 25 = fir25i := by kernel_rfl
def insF (b : Fa) : List Fa → List Fa
  | [] => [b]
  | x :: l => if b.id < x.id then b :: x :: l else x :: insF b l
def mergeF : List Fa → List Fa → List Fa
  | out, [] => out
  | out, b :: l => mergeF (insF b out) l
def freeF (l : List Fa) (n : Int) : List Fa := l.filter fun f => !decide (n ∈ f.j)
def backM (m : Me) (n : Int) : List Int := (m.log.filter fun x => decide (n ∈ x.just)).flatMap (·.gone)
def retM (m : Me) (n : Int) : Me × Int :=
  if n < 1 ∨ m.given < n then (⟨[], [], [], 0, 0⟩, 13) else
  (⟨mergeF (mergeF [] (freeF m.facts n)) (freeF (m.past.filter fun f => decide (f.id ∈ backM m n)) n), freeF (m.past.filter fun f => !decide (f.id ∈ backM m n)) n, m.log.filter (fun x => !decide (n ∈ x.just)), m.next, m.given⟩, 0)
structure SmM (m : Me) : Prop where
  w : WfM m
  f : m.facts.length ≤ 9
  p : m.past.length ≤ 9
  l : m.log.length ≤ 12
  g : ∀ x ∈ m.log, x.gone.length ≤ 8
theorem iy_F {l : List Fa} {i : Nat} (h : i < l.length) : denIdx 4 (iFs l) (iI (i : Nat)) = some (.agg [iI l[i].id, iS l[i].a.s, iT l[i].a.ts, iL l[i].j]) := ix_F h
theorem iy_P {l : List Ap} {i : Nat} (h : i < l.length) : denIdx 6 (iPs l) (iI (i : Nat)) = some (.agg [iI l[i].rule, iL l[i].heads, iL l[i].gone, iL l[i].made, iB l[i].failed, iL l[i].just]) := ix_P h
theorem elemsOk_of {α : Type} {s : Nat} {enc : α → IV} (h : ∀ a, ∃ cs, enc a = .agg cs ∧ cs.length = s ∧ cs.all cellOk = true) (l : List α) : elemsOk s (l.map enc) = true := by
  unfold elemsOk
  rw [List.all_eq_true]
  intro e he
  obtain ⟨x, _, rfl⟩ := List.mem_map.1 he
  obtain ⟨cs, h1, h2, h3⟩ := h x
  rw [h1]
  simp only [cellsOf, Bool.and_eq_true, beq_iff_eq]
  exact ⟨h2, h3⟩
theorem cat_F {a b : List Fa} (h : a.length + b.length ≤ 1000) : denCat 4 72 (iFs a) (iFs b) = some (iFs (a ++ b)) := by
  have h2 := elemsOk_of (s := 4) (enc := encF) (fun x => ⟨_, rfl, rfl, rfl⟩) b
  simp [denCat, h2]
  omega
theorem cat_P {a b : List Ap} (h : a.length + b.length ≤ 1000) : denCat 6 112 (iPs a) (iPs b) = some (iPs (a ++ b)) := by
  have h2 := elemsOk_of (s := 6) (enc := encP) (fun x => ⟨_, rfl, rfl, rfl⟩) b
  simp [denCat, h2]
  omega
theorem cat_F1 {a : List Fa} (x : Fa) (h : a.length ≤ 900) : denCat 4 72 (iFs a) (.tree 4 [.agg [iI x.id, iS x.a.s, iT x.a.ts, iL x.j]]) = some (iFs (a ++ [x])) := cat_F (b := [x]) (by simp; omega)
theorem cat_P1 {a : List Ap} (x : Ap) (h : a.length ≤ 900) : denCat 6 112 (iPs a) (.tree 6 [.agg [iI x.rule, iL x.heads, iL x.gone, iL x.made, iB x.failed, iL x.just]]) = some (iPs (a ++ [x])) := cat_P (b := [x]) (by simp; omega)
theorem cat_L {a b : List Int} (h : a.length + b.length ≤ 1000) : denCat 1 8 (iL a) (iL b) = some (iL (a ++ b)) := by
  have h2 : elemsOk 1 (b.map iI) = true := by
    unfold elemsOk
    rw [List.all_eq_true]
    intro e he
    obtain ⟨x, _, rfl⟩ := List.mem_map.1 he
    rfl
  simp [denCat, h2]
  omega
theorem rws_L (l : List Int) : (l.map iI).all (fun e => (cellsOf e).all isRaw1) = true := by
  rw [List.all_eq_true]
  intro e he
  obtain ⟨x, _, rfl⟩ := List.mem_map.1 he
  rfl
/-- constraintref49.Has -/
def firn67 : FIR :=
 (.need (.ok (.var 0))
 (.need (.ok (.var 1))
 (.loop (.ac (.i 0) .an)
 (.need (.len (.ok (.var 0)))
 (.need (.ok (.bin .lss 3 (.var 2) (.len (.ok (.var 0)))))
 (.test (.ok (.bin .lss 3 (.var 2) (.len (.ok (.var 0)))))
 (.bind (.idx 1 (.ok (.var 0)) (.var 2))
 (.need (.ok (.var 3))
 (.need (.ok (.bin .eql 3 (.ok (.var 3)) (.ok (.var 1))))
 (.test (.ok (.bin .eql 3 (.ok (.var 3)) (.ok (.var 1))))
 (.ret (.rw (.b true)))
 (.need (.ok (.bin .add 3 (.var 2) (.i 1)))
 (.next 0 (.ac (.ok (.bin .add 3 (.var 2) (.i 1))) .an)))))))
 (.ret (.rw (.b false)))))))))
def cfgn67 : Cfg := ⟨pures, joins, stops, [⟨0, 67, 2, [(0, (5, 0))], [], [], []⟩]⟩
theorem exn67 : execFn Tryz.prog cfgn67 400 true 67 = firn67 := by kernel_rfl
/-- constraintref50.inside -/
def firn94 : FIR :=
 (.need (.ok (.var 0))
 (.need (.ok (.var 1))
 (.loop (.ac (.i 0) .an)
 (.need (.len (.ok (.var 0)))
 (.need (.ok (.bin .lss 3 (.var 2) (.len (.ok (.var 0)))))
 (.test (.ok (.bin .lss 3 (.var 2) (.len (.ok (.var 0)))))
 (.bind (.idx 1 (.ok (.var 0)) (.var 2))
 (.need (.ok (.var 3))
 (.need (.ok (.bin .eql 3 (.ok (.var 3)) (.ok (.var 1))))
 (.test (.ok (.bin .eql 3 (.ok (.var 3)) (.ok (.var 1))))
 (.ret (.rw (.b true)))
 (.need (.ok (.bin .add 3 (.var 2) (.i 1)))
 (.next 0 (.ac (.ok (.bin .add 3 (.var 2) (.i 1))) .an)))))))
 (.ret (.rw (.b false)))))))))
def cfgn94 : Cfg := ⟨pures, joins, stops, [⟨0, 94, 2, [(0, (5, 0))], [], [], []⟩]⟩
theorem exn94 : execFn Tryz.prog cfgn94 400 true 94 = firn94 := by kernel_rfl

theorem c67n (l : List Int) (n : Int) (hl : Sm l) : CC 67 true [iL l, iI n] (iB (l.contains n)) := by
  refine CC.of exn67 n67 (t67 _) (by simp) (by simp) ?_
  simp [firn67, SE.den]
  refine sat_loop l.length (fun i (_ : Unit) => [iI i]) (fun i _ => (n ∈ l ↔ n ∈ l.drop i)) () ?_ ?_ fun i _ hi hI => ?_
  · simp [SE.den]
  · simp
  by_cases hlt : i < l.length
  · rw [List.drop_eq_getElem_cons hlt, List.mem_cons] at hI
    have hw := wrapi hlt hl
    simp [SE.den, hlt, hw, isRaw1]
    grind
  · simp [SE.den, hlt, isRaw1]
    rw [hI, List.drop_of_length_le (by omega)]; simp
theorem c94n (l : List Int) (n : Int) (hl : Sm l) : CC 94 true [iL l, iI n] (iB (l.contains n)) := by
  refine CC.of exn94 n94 (t94 _) (by simp) (by simp) ?_
  simp [firn94, SE.den]
  refine sat_loop l.length (fun i (_ : Unit) => [iI i]) (fun i _ => (n ∈ l ↔ n ∈ l.drop i)) () ?_ ?_ fun i _ hi hI => ?_
  · simp [SE.den]
  · simp
  by_cases hlt : i < l.length
  · rw [List.drop_eq_getElem_cons hlt, List.mem_cons] at hI
    have hw := wrapi hlt hl
    simp [SE.den, hlt, hw, isRaw1]
    grind
  · simp [SE.den, hlt, isRaw1]
    rw [hI, List.drop_of_length_le (by omega)]; simp
end Go.Proofs.YtggffkaadeagbaaGreat
