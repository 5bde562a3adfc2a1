/- A part of the proof, no condition: the checks of the reference come to an end, entries of a log. -/
import Derived.Test.YtggffkaadeagbaaGreatRgL
import Derived.Test.YtggffkaadeagbaaGreatRgK
set_option linter.all false
namespace Go.Proofs.YtggffkaadeagbaaGreat
open Go Go.Ev
def puresO : List Nat := [123, 127, 126, 186, 189, 44, 79, 30, 102, 9, 10, 23, 31, 15, 257, 149, 89, 148, 198, 147, 199, 50, 191, 71, 214, 93, 163, 49, 152, 64, 164, 158, 95, 108, 206, 250, 213, 130, 131, 107, 129, 155, 34, 90, 51, 202, 153, 201, 200, 151, 203, 150, 204, 154, 91, 41, 67, 101, 99, 109, 12, 26, 28, 25, 14, 19, 100, 40, 39, 70, 69, 35, 53, 52, 68, 42, 58, 75, 24, 27, 22, 29, 61, 190, 66, 133, 128, 249, 121, 78, 183]
def joinsO : List Nat := [48, 92, 94, 118, 205, 216]
def stopsO : List Nat := [185, 188, 254]
def rows0O : List Nat := [155]
def firn101v0 : FIR :=
 (.loop (.ac (.i 0) .an)
 (.need (.len (.var 5))
 (.need (.ok (.bin .lss 3 (.var 6) (.len (.var 5))))
 (.test (.ok (.bin .lss 3 (.var 6) (.len (.var 5))))
 (.need (.idx 1 (.var 5) (.var 6))
 (.need (.ok (.bin .lss 3 (.ecl 1 (.var 5) (.var 6) 0) (.ecl 1 (.var 2) (.var 4) 0)))
 (.test (.ok (.bin .lss 3 (.ecl 1 (.var 5) (.var 6) 0) (.ecl 1 (.var 2) (.var 4) 0)))
 (.need (.ok (.bin .add 3 (.var 6) (.i 1)))
 (.next 2 (.ac (.ok (.bin .add 3 (.var 6) (.i 1))) .an)))
 (.need (.len (.var 5))
 (.need (.ok (.bin .lss 3 (.var 6) (.len (.var 5))))
 (.test (.ok (.bin .lss 3 (.var 6) (.len (.var 5))))
 (.need (.idx 1 (.var 5) (.var 6))
 (.need (.ok (.bin .eql 3 (.ecl 1 (.var 5) (.var 6) 0) (.ecl 1 (.var 2) (.var 4) 0)))
 (.test (.ok (.bin .eql 3 (.ecl 1 (.var 5) (.var 6) 0) (.ecl 1 (.var 2) (.var 4) 0)))
 (.need (.ok (.bin .add 3 (.var 4) (.i 1)))
 (.next 1 (.ac (.ok (.bin .add 3 (.var 4) (.i 1))) (.ac (.var 5) .an))))
 (.bind (.sub 1 (.var 5) (.i 0) (.var 6))
 (.bind (.cat 1 8 (.tr 1 .an) (.var 7))
 (.bind (.cat 1 8 (.var 8) (.tr 1 (.ac (.ecl 1 (.var 2) (.var 4) 0) .an)))
 (.bind (.sub 1 (.var 5) (.var 6) (.len (.var 5)))
 (.bind (.cat 1 8 (.var 9) (.var 10))
 (.need (.ok (.bin .add 3 (.var 4) (.i 1)))
 (.next 1 (.ac (.ok (.bin .add 3 (.var 4) (.i 1))) (.ac (.var 11) .an))))))))))))
 (.bind (.sub 1 (.var 5) (.i 0) (.var 6))
 (.bind (.cat 1 8 (.tr 1 .an) (.var 7))
 (.bind (.cat 1 8 (.var 8) (.tr 1 (.ac (.ecl 1 (.var 2) (.var 4) 0) .an)))
 (.bind (.sub 1 (.var 5) (.var 6) (.len (.var 5)))
 (.bind (.cat 1 8 (.var 9) (.var 10))
 (.need (.ok (.bin .add 3 (.var 4) (.i 1)))
 (.next 1 (.ac (.ok (.bin .add 3 (.var 4) (.i 1))) (.ac (.var 11) .an)))))))))))))))
 (.need (.len (.var 5))
 (.need (.ok (.bin .lss 3 (.var 6) (.len (.var 5))))
 (.test (.ok (.bin .lss 3 (.var 6) (.len (.var 5))))
 (.need (.idx 1 (.var 5) (.var 6))
 (.need (.ok (.bin .eql 3 (.ecl 1 (.var 5) (.var 6) 0) (.ecl 1 (.var 2) (.var 4) 0)))
 (.test (.ok (.bin .eql 3 (.ecl 1 (.var 5) (.var 6) 0) (.ecl 1 (.var 2) (.var 4) 0)))
 (.need (.ok (.bin .add 3 (.var 4) (.i 1)))
 (.next 1 (.ac (.ok (.bin .add 3 (.var 4) (.i 1))) (.ac (.var 5) .an))))
 (.bind (.sub 1 (.var 5) (.i 0) (.var 6))
 (.bind (.cat 1 8 (.tr 1 .an) (.var 7))
 (.bind (.cat 1 8 (.var 8) (.tr 1 (.ac (.ecl 1 (.var 2) (.var 4) 0) .an)))
 (.bind (.sub 1 (.var 5) (.var 6) (.len (.var 5)))
 (.bind (.cat 1 8 (.var 9) (.var 10))
 (.need (.ok (.bin .add 3 (.var 4) (.i 1)))
 (.next 1 (.ac (.ok (.bin .add 3 (.var 4) (.i 1))) (.ac (.var 11) .an))))))))))))
 (.bind (.sub 1 (.var 5) (.i 0) (.var 6))
 (.bind (.cat 1 8 (.tr 1 .an) (.var 7))
 (.bind (.cat 1 8 (.var 8) (.tr 1 (.ac (.ecl 1 (.var 2) (.var 4) 0) .an)))
 (.bind (.sub 1 (.var 5) (.var 6) (.len (.var 5)))
 (.bind (.cat 1 8 (.var 9) (.var 10))
 (.need (.ok (.bin .add 3 (.var 4) (.i 1)))
 (.next 1 (.ac (.ok (.bin .add 3 (.var 4) (.i 1))) (.ac (.var 11) .an))))))))))))))))
def firn101v1 : FIR :=
 (.loop (.ac (.i 0) .an)
 (.need (.len (.var 8))
 (.need (.ok (.bin .lss 3 (.var 10) (.len (.var 8))))
 (.test (.ok (.bin .lss 3 (.var 10) (.len (.var 8))))
 (.need (.idx 1 (.var 8) (.var 10))
 (.need (.ok (.bin .lss 3 (.ecl 1 (.var 8) (.var 10) 0) (.ok (.var 9))))
 (.test (.ok (.bin .lss 3 (.ecl 1 (.var 8) (.var 10) 0) (.ok (.var 9))))
 (.need (.ok (.bin .add 3 (.var 10) (.i 1)))
 (.next 3 (.ac (.ok (.bin .add 3 (.var 10) (.i 1))) .an)))
 (.need (.len (.var 8))
 (.need (.ok (.bin .lss 3 (.var 10) (.len (.var 8))))
 (.test (.ok (.bin .lss 3 (.var 10) (.len (.var 8))))
 (.need (.idx 1 (.var 8) (.var 10))
 (.need (.ok (.bin .eql 3 (.ecl 1 (.var 8) (.var 10) 0) (.ok (.var 9))))
 (.test (.ok (.bin .eql 3 (.ecl 1 (.var 8) (.var 10) 0) (.ok (.var 9))))
 (.need (.ok (.bin .add 3 (.var 6) (.i 1)))
 (.next 2 (.ac (.ok (.bin .add 3 (.var 6) (.i 1))) (.ac (.var 7) (.ac (.var 8) .an)))))
 (.bind (.sub 1 (.var 8) (.i 0) (.var 10))
 (.bind (.cat 1 8 (.tr 1 .an) (.var 11))
 (.need (.rw (.ok (.var 9)))
 (.bind (.cat 1 8 (.var 12) (.tr 1 (.ac (.ok (.var 9)) .an)))
 (.bind (.sub 1 (.var 8) (.var 10) (.len (.var 8)))
 (.bind (.cat 1 8 (.var 13) (.var 14))
 (.need (.ok (.bin .add 3 (.var 6) (.i 1)))
 (.next 2 (.ac (.ok (.bin .add 3 (.var 6) (.i 1))) (.ac (.var 7) (.ac (.var 15) .an))))))))))))))
 (.bind (.sub 1 (.var 8) (.i 0) (.var 10))
 (.bind (.cat 1 8 (.tr 1 .an) (.var 11))
 (.need (.rw (.ok (.var 9)))
 (.bind (.cat 1 8 (.var 12) (.tr 1 (.ac (.ok (.var 9)) .an)))
 (.bind (.sub 1 (.var 8) (.var 10) (.len (.var 8)))
 (.bind (.cat 1 8 (.var 13) (.var 14))
 (.need (.ok (.bin .add 3 (.var 6) (.i 1)))
 (.next 2 (.ac (.ok (.bin .add 3 (.var 6) (.i 1))) (.ac (.var 7) (.ac (.var 15) .an)))))))))))))))))
 (.need (.len (.var 8))
 (.need (.ok (.bin .lss 3 (.var 10) (.len (.var 8))))
 (.test (.ok (.bin .lss 3 (.var 10) (.len (.var 8))))
 (.need (.idx 1 (.var 8) (.var 10))
 (.need (.ok (.bin .eql 3 (.ecl 1 (.var 8) (.var 10) 0) (.ok (.var 9))))
 (.test (.ok (.bin .eql 3 (.ecl 1 (.var 8) (.var 10) 0) (.ok (.var 9))))
 (.need (.ok (.bin .add 3 (.var 6) (.i 1)))
 (.next 2 (.ac (.ok (.bin .add 3 (.var 6) (.i 1))) (.ac (.var 7) (.ac (.var 8) .an)))))
 (.bind (.sub 1 (.var 8) (.i 0) (.var 10))
 (.bind (.cat 1 8 (.tr 1 .an) (.var 11))
 (.need (.rw (.ok (.var 9)))
 (.bind (.cat 1 8 (.var 12) (.tr 1 (.ac (.ok (.var 9)) .an)))
 (.bind (.sub 1 (.var 8) (.var 10) (.len (.var 8)))
 (.bind (.cat 1 8 (.var 13) (.var 14))
 (.need (.ok (.bin .add 3 (.var 6) (.i 1)))
 (.next 2 (.ac (.ok (.bin .add 3 (.var 6) (.i 1))) (.ac (.var 7) (.ac (.var 15) .an))))))))))))))
 (.bind (.sub 1 (.var 8) (.i 0) (.var 10))
 (.bind (.cat 1 8 (.tr 1 .an) (.var 11))
 (.need (.rw (.ok (.var 9)))
 (.bind (.cat 1 8 (.var 12) (.tr 1 (.ac (.ok (.var 9)) .an)))
 (.bind (.sub 1 (.var 8) (.var 10) (.len (.var 8)))
 (.bind (.cat 1 8 (.var 13) (.var 14))
 (.need (.ok (.bin .add 3 (.var 6) (.i 1)))
 (.next 2 (.ac (.ok (.bin .add 3 (.var 6) (.i 1))) (.ac (.var 7) (.ac (.var 15) .an))))))))))))))))))
def firn101v2 : FIR :=
 (.loop (.ac (.i 0) (.ac (.var 2) (.ac (.var 5) .an)))
 (.need (.len (.fld (.var 3) 3))
 (.need (.ok (.bin .lss 3 (.var 6) (.len (.fld (.var 3) 3))))
 (.test (.ok (.bin .lss 3 (.var 6) (.len (.fld (.var 3) 3))))
 (.bind (.idx 1 (.fld (.var 3) 3) (.var 6))
 (.need (.ok (.var 9))
 firn101v1))
 (.need (.ok (.bin .add 3 (.var 1) (.i 1)))
 (.next 0 (.ac (.ok (.bin .add 3 (.var 1) (.i 1))) (.ac (.var 8) .an))))))))
def firn101v3 : FIR :=
 (.loop (.ac (.i 0) (.ac (.tr 1 .an) .an))
 (.need (.len (.var 2))
 (.need (.ok (.bin .lss 3 (.var 4) (.len (.var 2))))
 (.test (.ok (.bin .lss 3 (.var 4) (.len (.var 2))))
 (.need (.idx 1 (.var 2) (.var 4))
 firn101v0)
 firn101v2))))
def firn101v4 : FIR :=
 (.loop (.ac (.i 0) (.ac (.tr 1 .an) .an))
 (.need (.len (.ok (.var 0)))
 (.need (.ok (.bin .lss 3 (.var 1) (.len (.ok (.var 0)))))
 (.test (.ok (.bin .lss 3 (.var 1) (.len (.ok (.var 0)))))
 (.bind (.idx 4 (.ok (.var 0)) (.var 1))
 (.need (.agn 4 (.var 3))
 firn101v3))
 (.ret (.var 2))))))
def firn101 : FIR :=
 (.need (.ok (.var 0))
 firn101v4)
def cfgn101 : Cfg := ⟨puresO, joinsO, stopsO, [⟨0, 101, 3, [(0, (3, 0)), (0, (4, 0))], [(0, 0)], [], []⟩, ⟨1, 101018, 7, [(1, (7, 0))], [(1, 0), (0, 0)], [], []⟩, ⟨2, 101018020, 2, [(2, (5, 0))], [], [(1, 17)], []⟩, ⟨2, 101018032, 2, [(2, (5, 0))], [], [], []⟩, ⟨1, 101018, 3, [(1, (5, 0)), (1, (6, 0))], [(1, 0)], [], []⟩, ⟨1, 101018, 1000031, [], [], [(1, 5), (1, 26)], []⟩, ⟨1, 101018, 1000019, [], [], [(1, 5), (1, 14)], []⟩], rows0O⟩
theorem exn101 : execFn Tryz.prog cfgn101 400 true 101 = firn101 := by kernel_rfl
end Go.Proofs.YtggffkaadeagbaaGreat
namespace Go.Proofs.YtggffkaadeagbaaGreat
open Go Go.Ev
theorem sub_L0 {L : List Int} {k : Nat} (h : k ≤ L.length) : denSub 1 (iL L) (iI 0) (iI (k : Nat)) = some (iL (L.take k)) := by
  simp [denSub, intI?, h, List.map_take]
theorem sub_L1 {L : List Int} {k : Nat} (h : k ≤ L.length) : denSub 1 (iL L) (iI (k : Nat)) (iI (L.length : Nat)) = some (iL (L.drop k)) := by
  simp [denSub, intI?, h, List.map_drop]
  rw [List.take_of_length_le (by simp)]
section
variable {Q : IV → Prop} {k0 k1 k2 : List IV → Prop}
theorem s101v0 {x0 x1 x3 : IV} {a o : List Int} {i : Nat} (hi : i < a.length) (ha : a.length ≤ 1000000) (ho : o.length ≤ 1000000) (h : ∀ o' : List Int, o'.length ≤ o.length + 1 → k1 [iI (i + 1 : Nat), iL o']) :
    firn101v0.sat Tryz.prog CC Q [k0, k1] [x0, x1, iL a, x3, iI i, iL o] := by
  have hwi := wrapi hi (by omega)
  refine sat_loop2 o.length (fun k (_ : Unit) => [iI k]) (fun _ _ => True) () ?_ trivial fun k _ hk _ => ?_
  · simp [SE.den]
  have hs0 := sub_L0 (L := o) (k := k) hk
  have hs1 := sub_L1 (L := o) (k := k) hk
  have l0 : (o.take k).length ≤ o.length := by simp; omega
  have l1 : (o.take k).length + (o.drop k).length = o.length := by simp; omega
  generalize o.take k = tk at hs0 l0 l1
  generalize o.drop k = dk at hs1 l1
  have hc0 := cat_Lb (a := []) (b := tk) (by simp; omega)
  have hc1 := cat_Lb (a := tk) (b := [a[i]]) (by simp; omega)
  have hl2 : (tk ++ [a[i]]).length = tk.length + 1 := by simp
  generalize tk ++ [a[i]] = u1 at hc1 hl2
  have hc2 := cat_Lb (a := u1) (b := dk) (by omega)
  have hl3 : (u1 ++ dk).length = u1.length + dk.length := by simp
  generalize u1 ++ dk = u2 at hc2 hl3
  have hfin : k1 [iI (i + 1 : Nat), iL u2] := h _ (by omega)
  have hsame := h o (by omega)
  have hai := ix_L hi
  simp only [iL, List.map_nil, List.map_cons, List.nil_append] at hs0 hs1 hc0 hc1 hc2 hfin hai hsame
  by_cases hlt : k < o.length
  · have hw := wrapi hlt (by omega)
    have hok := ix_L hlt
    simp only [iL] at hok
    simp [SE.den, hlt, hw, hwi, hok, hai, cellsOf, hs0, hs1, hc0, hc1, hc2, isRaw1]
    by_cases z : o[k] < a[i]
    · left; exact ⟨z, .mk () rfl (by omega) trivial⟩
    right; refine ⟨by omega, ?_⟩
    by_cases z2 : o[k] = a[i]
    · left; exact ⟨z2, hsame⟩
    · right; exact ⟨z2, hfin⟩
  · simp [SE.den, hlt, hwi, hai, cellsOf, hs0, hs1, hc0, hc1, hc2, isRaw1]
    exact hfin
theorem s101v1 {x0 x1 x2 x3 x4 x5 x7 : IV} {o : List Int} {n : Int} {i m : Nat} (hi : i < m) (ha : m ≤ 1000000) (ho : o.length ≤ 1000000) (h : ∀ o' : List Int, o'.length ≤ o.length + 1 → k2 [iI (i + 1 : Nat), x7, iL o']) :
    firn101v1.sat Tryz.prog CC Q [k0, k1, k2] [x0, x1, x2, x3, x4, x5, iI i, x7, iL o, iI n] := by
  have hwi := wrapi hi (by omega)
  refine sat_loop2 o.length (fun k (_ : Unit) => [iI k]) (fun _ _ => True) () ?_ trivial fun k _ hk _ => ?_
  · simp [SE.den]
  have hs0 := sub_L0 (L := o) (k := k) hk
  have hs1 := sub_L1 (L := o) (k := k) hk
  have l0 : (o.take k).length ≤ o.length := by simp; omega
  have l1 : (o.take k).length + (o.drop k).length = o.length := by simp; omega
  generalize o.take k = tk at hs0 l0 l1
  generalize o.drop k = dk at hs1 l1
  have hc0 := cat_Lb (a := []) (b := tk) (by simp; omega)
  have hc1 := cat_Lb (a := tk) (b := [n]) (by simp; omega)
  have hl2 : (tk ++ [n]).length = tk.length + 1 := by simp
  generalize tk ++ [n] = u1 at hc1 hl2
  have hc2 := cat_Lb (a := u1) (b := dk) (by omega)
  have hl3 : (u1 ++ dk).length = u1.length + dk.length := by simp
  generalize u1 ++ dk = u2 at hc2 hl3
  have hfin : k2 [iI (i + 1 : Nat), x7, iL u2] := h _ (by omega)
  have hsame := h o (by omega)
  simp only [iL, List.map_nil, List.map_cons, List.nil_append] at hs0 hs1 hc0 hc1 hc2 hfin hsame
  by_cases hlt : k < o.length
  · have hw := wrapi hlt (by omega)
    have hok := ix_L hlt
    simp only [iL] at hok
    simp [SE.den, hlt, hw, hwi, hok, cellsOf, hs0, hs1, hc0, hc1, hc2, isRaw1]
    by_cases z : o[k] < n
    · left; exact ⟨z, .mk () rfl (by omega) trivial⟩
    right; refine ⟨by omega, ?_⟩
    by_cases z2 : o[k] = n
    · left; exact ⟨z2, hsame⟩
    · right; exact ⟨z2, hfin⟩
  · simp [SE.den, hlt, hwi, cellsOf, hs0, hs1, hc0, hc1, hc2, isRaw1]
    exact hfin
end
theorem n101 : (Tryz.prog.funcs[101]?).map (·.params.size) = some 1 := by kernel_rfl
theorem t101 (z : IV) : tupOk Tryz.prog 101 z = true := by kernel_rfl
theorem e101n (l : List Fa) (hl : l.length ≤ 100) (hj : ∀ f ∈ l, f.j.length ≤ 20) : ∃ v : List Int, v.length ≤ 2000 ∧ CC 101 true [iFs l] (iL v) := by
  refine CC.totL (fun v => v.length ≤ 2000) exn101 n101 t101 (by simp) (by rfl) ?_
  simp [firn101, SE.den, cellOk]
  unfold firn101v4
  refine sat_loop2 l.length (fun i (a : List Int) => [iI i, iL a]) (fun i a => a.length ≤ 20 * i) [] ?_ (by simp) fun i a hi hI => ?_
  · simp [SE.den]
  by_cases hlt : i < l.length
  · have hw := wrapi hlt (by omega)
    have hjl := hj _ (List.getElem_mem hlt)
    simp [SE.den, hlt, iz_F hlt, cellOk]
    unfold firn101v3
    refine sat_loop2 a.length (fun i (o : List Int) => [iI i, iL o]) (fun i o => o.length ≤ i) [] ?_ (by simp) fun i1 o hi1 hI1 => ?_
    · simp [SE.den]
    by_cases hlt1 : i1 < a.length
    · simp [SE.den, hlt1, ix_L hlt1]
      exact s101v0 hlt1 (by omega) (by omega) fun o' ho' => .mk o' rfl (by omega) (by omega)
    simp [SE.den, hlt1]
    unfold firn101v2
    refine sat_loop2 l[i].j.length (fun i (o : List Int) => [iI i, iL a, iL o]) (fun i o' => o'.length ≤ o.length + i) o ?_ (by simp) fun i2 o2 hi2 hI2 => ?_
    · simp [SE.den]
    by_cases hlt2 : i2 < l[i].j.length
    · simp [SE.den, hlt2, ix_L hlt2]
      exact s101v1 hlt2 (by omega) (by omega) fun o' ho' => .mk o' rfl (by omega) (by omega)
    · simp [SE.den, hlt2, hw]
      exact .mk o2 (by simp) (by omega) (by omega)
  · simp [SE.den, hlt]
    omega
end Go.Proofs.YtggffkaadeagbaaGreat
namespace Go.Proofs.YtggffkaadeagbaaGreat
open Go Go.Ev
theorem e53n (a b : List Int) (hl : Sm a) : ∃ r, CC 53 true [iL a, iL b] (iB r) := by
  refine CC.bool exn53 n53 t53 (by simp) (by rfl) ?_
  simp [firn53, SE.den, cellOk, isRaw1]
  by_cases z : (a.length : Int) = b.length
  rotate_left
  · left; omega
  right; refine ⟨by omega, ?_⟩
  unfold firn53v0
  refine sat_loop2 a.length (fun i (_ : Unit) => [iI i]) (fun _ _ => True) () ?_ trivial fun i _ hi _ => ?_
  · simp [SE.den]
  by_cases hlt : i < a.length
  · have hw := wrapi hlt hl
    have hlt2 : i < b.length := by omega
    simp [SE.den, hlt, hw, ix_L hlt, ix_L hlt2, isRaw1]
    by_cases z : a[i] = b[i]
    · right; exact ⟨z, .mk () rfl (by omega) trivial⟩
    · left; exact z
  · simp [SE.den, hlt, isRaw1]
theorem sub_Lm {L : List Int} {k : Nat} (h : k ≤ L.length) : denSub 1 (iL L) (iI (k : Nat)) (iI (L.length : Nat)) = some (iL (L.drop k)) := sub_L1 h
structure SmX (x : Ap) : Prop where
  h : x.heads.length ≤ 8
  g : x.gone.length ≤ 8
  m : x.made.length ≤ 20
  j : x.just.length ≤ 20
structure SmL (m : Me) : Prop where
  w : WfM m
  f : m.facts.length ≤ 9
  p : m.past.length ≤ 9
  l : m.log.length ≤ 12
  x : ∀ x ∈ m.log, SmX x
  j : ∀ f ∈ m.facts ++ m.past, f.j.length ≤ 20
theorem n40 : (Tryz.prog.funcs[40]?).map (·.params.size) = some 3 := by kernel_rfl
theorem t40 (z : IV) : tupOk Tryz.prog 40 z = true := by kernel_rfl
section
variable {k0 k1 k2 : List IV → Prop}
theorem s40v0 {x0 x3 x4 x5 x6 x7 x8 x9 x10 : IV} (m : Me) (hm : SmL m) (x : Ap) (hx : SmX x) :
    fir40v0.sat Tryz.prog CC isB [k0, k1] [x0, encM m, encP x, x3, x4, x5, x6, x7, x8, x9, x10] := by
  refine sat_loop2 x.made.length (fun i (_ : Unit) => [iI i]) (fun _ _ => True) () ?_ trivial fun i _ hi _ => ?_
  · simp [SE.den]
  have hxm := hx.m
  by_cases hlt : i < x.made.length
  · have hw := wrapi hlt (by omega)
    have h100 := c100 m x.made[i] hm.w
    simp only [encM] at h100
    cases he : eitherF m x.made[i] with
    | none =>
      rw [he] at h100
      simp only [encO, encF] at h100
      simp [SE.den, encM, encP, hlt, ix_L hlt, cellOk]
      refine ⟨_, h100, ?_⟩
      simp [cellOk]
    | some f =>
      rw [he] at h100
      simp only [encO, encF] at h100
      have hj := hm.j f (eitherF_mem he)
      have h53 := c53 f.j x.just (by unfold Sm; omega)
      simp [SE.den, encM, encP, hlt, ix_L hlt, cellOk]
      refine ⟨_, h100, ?_⟩
      simp [cellOk]
      refine ⟨_, h53, ?_⟩
      cases hb : (f.j == x.just) <;> simp [hw]
      exact .mk () rfl (by omega) trivial
  · simp [SE.den, encP, hlt]
theorem s40v1 {x0 x3 x4 x5 x6 x7 x8 x9 : IV} (m : Me) (hm : SmL m) (x : Ap) (hx : SmX x) :
    fir40v1.sat Tryz.prog CC isB [k0] [x0, encM m, encP x, x3, x4, x5, x6, x7, x8, x9] := by
  refine sat_loop2 x.gone.length (fun i (_ : Unit) => [iI i]) (fun _ _ => True) () ?_ trivial fun i _ hi _ => ?_
  · simp [SE.den]
  have hxm := hx.g
  by_cases hlt : i < x.gone.length
  · have hw := wrapi hlt (by omega)
    have h41 := c41 m.past x.gone[i] hm.w.sp
    cases he : findF m.past x.gone[i] with
    | none =>
      rw [he] at h41
      simp only [encO, encF] at h41
      simp [SE.den, encM, encP, hlt, ix_L hlt, cellOk]
      refine ⟨_, h41, ?_⟩
      simp [cellOk]
    | some f =>
      rw [he] at h41
      simp only [encO, encF] at h41
      simp [SE.den, encM, encP, hlt, ix_L hlt, cellOk]
      refine ⟨_, h41, ?_⟩
      simp [cellOk, hw]
      exact .mk () rfl (by omega) trivial
  · have := s40v0 (k0 := k0) (k1 := Nxt x.gone.length (fun i (_ : Unit) => [iI i]) (fun _ _ => True) i) (x0 := x0) (x3 := x3) (x4 := x4) (x5 := x5) (x6 := x6) (x7 := x7) (x8 := x8) (x9 := x9) (x10 := iI i) m hm x hx
    simp [SE.den, encP, hlt]
    exact this
theorem s40v2 {x0 x3 x4 x5 : IV} (m : Me) (hm : SmL m) (x : Ap) (hx : SmX x) :
    fir40v2.sat Tryz.prog CC isB [] [x0, encM m, encP x, x3, x4, x5] := by
  refine sat_loop2 x.heads.length (fun i (a : List Fa) => [iI i, iFs a]) (fun i a => a.length ≤ i ∧ ∀ f ∈ a, f.j.length ≤ 20) [] ?_ (by simp) fun i a hi hI => ?_
  · simp [SE.den]
  obtain ⟨hI1, hI2⟩ := hI
  have hxm := hx.h
  by_cases hlt : i < x.heads.length
  · have hw := wrapi hlt (by omega)
    have h100 := c100 m x.heads[i] hm.w
    simp only [encM] at h100
    cases he : eitherF m x.heads[i] with
    | none =>
      rw [he] at h100
      simp only [encO, encF] at h100
      simp [SE.den, encM, encP, hlt, ix_L hlt, cellOk]
      refine ⟨_, h100, ?_⟩
      simp [cellOk]
    | some f =>
      rw [he] at h100
      simp only [encO, encF] at h100
      have hj := hm.j f (eitherF_mem he)
      have hsub := sub_L0 (L := x.heads) (k := i) (by omega)
      have h94 := c94n (x.heads.take i) x.heads[i] (by unfold Sm; simp; omega)
      have hcat := cat_F1 (a := a) f (by omega)
      generalize x.heads.take i = tk at hsub h94
      generalize tk.contains x.heads[i] = bb at h94
      have hcl : (a ++ [f]).length ≤ i + 1 := by simp; omega
      have hcj : ∀ g ∈ a ++ [f], g.j.length ≤ 20 := fun g hg => by
        rcases List.mem_append.1 hg with hg | hg
        · exact hI2 g hg
        · simp at hg; subst hg; exact hj
      generalize a ++ [f] = a' at hcat hcl hcj
      simp only [iL, iFs] at hsub hcat
      simp [SE.den, encM, encP, hlt, ix_L hlt, cellOk]
      refine ⟨_, h100, ?_⟩
      simp [cellOk, hsub]
      refine ⟨_, h94, ?_⟩
      cases bb <;> simp [hw, hcat, cellsOf]
      exact .mk a' (by simp) (by omega) ⟨hcl, hcj⟩
  · obtain ⟨v, hv, h101⟩ := e101n a (by omega) hI2
    have hxj := hx.j
    have h53 := c53 x.just v (by unfold Sm; omega)
    have h1 := s40v1 (k0 := Nxt x.heads.length (fun i (a : List Fa) => [iI i, iFs a]) (fun i a => a.length ≤ i ∧ ∀ f ∈ a, f.j.length ≤ 20) i) (x0 := x0) (x3 := x3) (x4 := x4) (x5 := x5) (x6 := iI i) (x7 := iFs a) (x8 := iL v) (x9 := iB (x.just == v)) m hm x hx
    simp [SE.den, encP, hlt]
    refine ⟨_, h101, ?_⟩
    simp
    refine ⟨_, h53, ?_⟩
    generalize (x.just == v) = bb at h1
    cases bb <;> simp
    exact h1
end
theorem e40 (p : Pg) (hp : SmP p) (m : Me) (hm : SmL m) (x : Ap) (hx : SmX x) : ∃ b, CC 40 false [encPg p, encM m, encP x] (iB b) := by
  refine CC.bool ex40 n40 t40 (by intro y hy; simp at hy; rcases hy with rfl | rfl | rfl; exact pure_encPg p; exact pure_encM m; exact pure_encP x) (by rfl) ?_
  have e52 : fir40v5 = fir40v2 := rfl
  have h2 : ∀ x0 x3 x4 x5, fir40v2.sat Tryz.prog CC isB [] [x0, encM m, encP x, x3, x4, x5] := fun _ _ _ _ => s40v2 m hm x hx
  obtain ⟨ds, rs⟩ := p
  obtain ⟨hd, hr, dn, hsr, hnr⟩ := hp
  have hxh := hx.h; have hxg := hx.g; have hxm := hx.m
  obtain ⟨rule, heads, gone, made, failed, just⟩ := x
  simp only [encM, encP] at *
  show fir40.sat _ _ _ _ [.agg [iDs ds, iRs rs], _, _]
  simp [fir40, SE.den, cellOk, e52]
  by_cases z0 : rule < 0
  · left; exact z0
  right; refine ⟨by omega, ?_⟩
  by_cases z1 : (rs.length : Int) ≤ rule
  · left; exact z1
  right; refine ⟨by omega, ?_⟩
  obtain ⟨k, rfl⟩ : ∃ k : Nat, rule = (k : Int) := ⟨rule.toNat, by omega⟩
  have hk : k < rs.length := by omega
  have hsk := (hsr _ (List.getElem_mem hk)).h
  have hix := ix_R hk
  simp only [iRs] at hix
  have hwl : IntKind.i64.wrap ((rs[k].keep.length : Int) + (rs[k].remove.length : Int)) = rs[k].keep.length + rs[k].remove.length := wrap_in (by omega) (by omega)
  simp [hix, cellOk, hwl]
  by_cases z2 : (heads.length : Int) = rs[k].keep.length + rs[k].remove.length
  rotate_left
  · left; exact z2
  right; refine ⟨z2, ?_⟩
  have hsub := sub_Lm (L := heads) (k := rs[k].keep.length) (by omega)
  obtain ⟨b53, h53⟩ := e53n gone (heads.drop rs[k].keep.length) (by unfold Sm; omega)
  generalize heads.drop rs[k].keep.length = dk at hsub h53
  simp only [iL] at hsub
  simp [hsub]
  refine ⟨_, h53, ?_⟩
  cases b53 <;> simp
  cases failed <;> simp
  · by_cases z4 : 12 < made.length
    · left; omega
    · right; exact ⟨by omega, h2 _ _ _ _⟩
  · by_cases z3 : 0 < made.length
    · left; exact z3
    right
    refine ⟨by simpa using z3, ?_⟩
    right; exact ⟨by omega, h2 _ _ _ _⟩
end Go.Proofs.YtggffkaadeagbaaGreat
