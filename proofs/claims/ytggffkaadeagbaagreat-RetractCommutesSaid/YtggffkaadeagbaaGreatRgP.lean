/- A part of the proof, no condition: Right of the reference, and the bounds of the law. -/
import Derived.Test.YtggffkaadeagbaaGreatRgO
set_option linter.all false
namespace Go.Proofs.YtggffkaadeagbaaGreat
open Go Go.Ev
theorem n14 : (Tryz.prog.funcs[14]?).map (·.params.size) = some 2 := by kernel_rfl
theorem t14 (z : IV) : tupOk Tryz.prog 14 z = true := by kernel_rfl
theorem findF_none {l : List Fa} {id : Int} (h : findF l id = none) : ∀ f ∈ l, f.id ≠ id := by
  intro f hf he
  have := List.find?_eq_none.1 h f hf
  simp [he] at this
theorem e14 (p : Pg) (hp : SmP p) (m : Me) (hm : SmL m) (hn : ∀ f ∈ m.facts ++ m.past, NmF f) : ∃ b, (b = true → OkM m ∧ m.given ≤ 64) ∧ CC 14 false [encPg p, encM m] (iB b) := by
  refine CC.boolP _ ex14 n14 t14 (by intro y hy; simp at hy; rcases hy with rfl | rfl; exact pure_encPg p; exact pure_encM m) (by rfl) ?_
  have hf := hm.f; have hpl := hm.p; have hl := hm.l
  obtain ⟨n12, _, h12⟩ := e12 p hp
  obtain ⟨b39, hb39, h39⟩ := e39 p (by have := hp.d; unfold Sm; omega) m m.facts (by unfold Sm; omega) fun f hf => hn f (List.mem_append_left _ hf)
  obtain ⟨c39, hc39, g39⟩ := e39 p (by have := hp.d; unfold Sm; omega) m m.past (by unfold Sm; omega) fun f hf => hn f (List.mem_append_right _ hf)
  have h40 := fun x hx => e40 p hp m hm x (hm.x x hx)
  have h42 := fun id made => e42 m.log id made (by unfold Sm; omega) hm.w.l
  have h41 := fun id => c41 m.past id (by unfold Sm; omega)
  have hok : (∀ f ∈ m.facts, findF m.past f.id = none) → SrtF m.facts → SrtF m.past → OkM m := fun h1 h2 h3 => ⟨h2, h3, fun a ha b hb he => findF_none (h1 a ha) b hb he.symm⟩
  obtain ⟨ds, rs⟩ := p
  obtain ⟨mf, mp, ml, mn, mg⟩ := m
  simp only [encPg, encM] at *
  show fir14.sat _ _ _ _ [.agg [iDs ds, iRs rs], _]
  have hwl : IntKind.i64.wrap ((mf.length : Int) + (mp.length : Int)) = mf.length + mp.length := wrap_in (by omega) (by omega)
  simp [fir14, SE.den, cellOk, bn31]
  refine ⟨_, h12, ?_⟩
  simp [bn31]
  by_cases z0 : n12 = 0
  rotate_left
  · left; exact z0
  right; refine ⟨z0, ?_⟩
  by_cases z1 : mn < 1
  · left; exact z1
  right; refine ⟨by omega, ?_⟩
  by_cases z2 : 2147483648 < mn
  · left; exact z2
  right; refine ⟨by omega, ?_⟩
  by_cases z3 : mg < 0
  · left; exact z3
  right; refine ⟨by omega, ?_⟩
  by_cases z4 : 64 < mg
  · left; exact z4
  right; refine ⟨by omega, ?_⟩
  right; refine ⟨by omega, ?_⟩
  simp [hwl]
  right; refine ⟨by omega, ?_⟩
  refine ⟨_, h39, ?_⟩
  cases b39 <;> simp
  refine ⟨_, g39, ?_⟩
  cases c39 <;> simp
  unfold fir14v2
  refine sat_loop2 ml.length (fun i (_ : Unit) => [iI i]) (fun _ _ => True) () ?_ trivial fun i _ hi _ => ?_
  · simp [SE.den]
  by_cases hlt : i < ml.length
  · have hw := wrapi hlt (by omega)
    obtain ⟨b, hb⟩ := h40 _ (List.getElem_mem hlt)
    simp only [encP] at hb
    simp [SE.den, hlt, hw, iy_P hlt, cellOk]
    refine ⟨_, hb, ?_⟩
    cases b <;> simp
    exact .mk () rfl (by omega) trivial
  simp [SE.den, hlt]
  unfold fir14v1
  refine sat_loop2 mf.length (fun i (_ : Unit) => [iI i]) (fun i _ => ∀ f ∈ mf.take i, findF mp f.id = none) () ?_ (by simp) fun i1 _ hi1 hI => ?_
  · simp [SE.den]
  by_cases hlt1 : i1 < mf.length
  · have hw := wrapi hlt1 (by omega)
    obtain ⟨n, hn42⟩ := h42 mf[i1].id true
    have h41' := h41 mf[i1].id
    cases he : findF mp mf[i1].id with
    | some f =>
      rw [he] at h41'
      simp only [encO, encF] at h41'
      simp [SE.den, hlt1, iz_F hlt1, cellOk]
      refine ⟨_, h41', ?_⟩
      simp [cellOk]
    | none =>
      rw [he] at h41'
      simp only [encO, encF] at h41'
      simp [SE.den, hlt1, iz_F hlt1, cellOk]
      refine ⟨_, h41', ?_⟩
      simp [cellOk, hw]
      refine ⟨_, hn42, ?_⟩
      simp
      by_cases z : 1 < n
      · left; exact z
      · right; exact ⟨by omega, .mk () rfl (by omega) (take_step hlt1 hI he)⟩
  simp [SE.den, hlt1]
  unfold fir14v0
  refine sat_loop2 mp.length (fun i (_ : Unit) => [iI i]) (fun _ _ => True) () ?_ trivial fun i0 _ hi0 _ => ?_
  · simp [SE.den]
  by_cases hlt0 : i0 < mp.length
  · have hw := wrapi hlt0 (by omega)
    obtain ⟨n, hn42⟩ := h42 mp[i0].id false
    obtain ⟨n2, hm42⟩ := h42 mp[i0].id true
    simp [SE.den, hlt0, iz_F hlt0, cellOk]
    refine ⟨_, hn42, ?_⟩
    simp [hw]
    by_cases z : n = 1
    rotate_left
    · left; exact z
    right; refine ⟨z, _, hm42, ?_⟩
    simp
    by_cases z : 1 < n2
    · left; exact z
    · right; exact ⟨by omega, .mk () rfl (by omega) trivial⟩
  · simp [SE.den, hlt0]
    exact ⟨hok (take_all hlt1 hI) (hb39 rfl) (hc39 rfl), by omega⟩
end Go.Proofs.YtggffkaadeagbaaGreat
namespace Go.Proofs.YtggffkaadeagbaaGreat
open Go Go.Ev
def puresC : List Nat := [123, 127, 126, 186, 189, 44, 79, 30, 102, 9, 10, 23, 31, 15, 257, 149, 89, 148, 198, 147, 199, 50, 191, 71, 214, 93, 163, 49, 152, 64, 164, 158, 95, 108, 206, 250, 213, 130, 131, 107, 129, 155, 34, 90, 51, 202, 153, 201, 200, 151, 203, 150, 204, 154, 91, 41, 67, 101, 99, 109, 157, 210, 12, 26, 28, 25, 14, 19, 100, 40, 39, 70, 69, 35, 53, 52, 68, 42, 58, 75, 24, 27, 22, 29, 61, 190, 66, 133, 128, 249, 121, 78, 183]
def joinsC : List Nat := [48, 60, 63, 65, 118, 124, 132, 174, 197, 216, 252, 263, 334]
def stopsC : List Nat := [185, 188, 254]
def rows0C : List Nat := [155]
def fir7 : FIR :=
 (.need (.agn 2 (.var 0))
 (.need (.agn 5 (.var 1))
 (.need (.agn 2 (.var 2))
 (.call 10 false (.ac (.ac (.fld (.var 0) 0) (.ac (.fld (.var 0) 1) .an)) (.ac (.ac (.fld (.var 1) 0) (.ac (.fld (.var 1) 1) (.ac (.fld (.var 1) 2) (.ac (.fld (.var 1) 3) (.ac (.fld (.var 1) 4) .an))))) .an))
 (.need (.ok (.var 3))
 (.need (.ok (.un .not (.ok (.var 3))))
 (.test (.ok (.un .not (.ok (.var 3))))
 (.ret (.b true))
 (.call 14 false (.ac (.ac (.fld (.var 0) 0) (.ac (.fld (.var 0) 1) .an)) (.ac (.ac (.fld (.var 1) 0) (.ac (.fld (.var 1) 1) (.ac (.fld (.var 1) 2) (.ac (.fld (.var 1) 3) (.ac (.fld (.var 1) 4) .an))))) .an))
 (.need (.ok (.var 4))
 (.need (.ok (.un .not (.ok (.var 4))))
 (.test (.ok (.un .not (.ok (.var 4))))
 (.ret (.b true))
 (.need (.ok (.bin .lss 3 (.fld (.var 1) 4) (.i 1)))
 (.test (.ok (.bin .lss 3 (.fld (.var 1) 4) (.i 1)))
 (.ret (.b true))
 (.need (.ok (.cv 3 42 (.fld (.var 1) 4)))
 (.need (.ok (.bin .rem 42 (.fld (.var 2) 0) (.ok (.cv 3 42 (.fld (.var 1) 4)))))
 (.need (.ok (.cv 42 3 (.ok (.bin .rem 42 (.fld (.var 2) 0) (.ok (.cv 3 42 (.fld (.var 1) 4)))))))
 (.need (.ok (.bin .add 3 (.i 1) (.ok (.cv 42 3 (.ok (.bin .rem 42 (.fld (.var 2) 0) (.ok (.cv 3 42 (.fld (.var 1) 4)))))))))
 (.need (.ok (.cv 3 42 (.fld (.var 1) 4)))
 (.need (.ok (.bin .rem 42 (.fld (.var 2) 1) (.ok (.cv 3 42 (.fld (.var 1) 4)))))
 (.need (.ok (.cv 42 3 (.ok (.bin .rem 42 (.fld (.var 2) 1) (.ok (.cv 3 42 (.fld (.var 1) 4)))))))
 (.need (.ok (.bin .add 3 (.i 1) (.ok (.cv 42 3 (.ok (.bin .rem 42 (.fld (.var 2) 1) (.ok (.cv 3 42 (.fld (.var 1) 4)))))))))
 (.call 22 false (.ac (.ac (.fld (.var 1) 0) (.ac (.fld (.var 1) 1) (.ac (.fld (.var 1) 2) (.ac (.fld (.var 1) 3) (.ac (.fld (.var 1) 4) .an))))) (.ac (.ok (.bin .add 3 (.i 1) (.ok (.cv 42 3 (.ok (.bin .rem 42 (.fld (.var 2) 0) (.ok (.cv 3 42 (.fld (.var 1) 4))))))))) .an))
 (.need (.agn 5 (.proj (.var 5) 0))
 (.need (.ok (.proj (.var 5) 1))
 (.call 22 false (.ac (.ac (.fld (.proj (.var 5) 0) 0) (.ac (.fld (.proj (.var 5) 0) 1) (.ac (.fld (.proj (.var 5) 0) 2) (.ac (.fld (.proj (.var 5) 0) 3) (.ac (.fld (.proj (.var 5) 0) 4) .an))))) (.ac (.ok (.bin .add 3 (.i 1) (.ok (.cv 42 3 (.ok (.bin .rem 42 (.fld (.var 2) 1) (.ok (.cv 3 42 (.fld (.var 1) 4))))))))) .an))
 (.need (.agn 5 (.proj (.var 6) 0))
 (.need (.ok (.proj (.var 6) 1))
 (.call 22 false (.ac (.ac (.fld (.var 1) 0) (.ac (.fld (.var 1) 1) (.ac (.fld (.var 1) 2) (.ac (.fld (.var 1) 3) (.ac (.fld (.var 1) 4) .an))))) (.ac (.ok (.bin .add 3 (.i 1) (.ok (.cv 42 3 (.ok (.bin .rem 42 (.fld (.var 2) 1) (.ok (.cv 3 42 (.fld (.var 1) 4))))))))) .an))
 (.need (.agn 5 (.proj (.var 7) 0))
 (.need (.ok (.proj (.var 7) 1))
 (.call 22 false (.ac (.ac (.fld (.proj (.var 7) 0) 0) (.ac (.fld (.proj (.var 7) 0) 1) (.ac (.fld (.proj (.var 7) 0) 2) (.ac (.fld (.proj (.var 7) 0) 3) (.ac (.fld (.proj (.var 7) 0) 4) .an))))) (.ac (.ok (.bin .add 3 (.i 1) (.ok (.cv 42 3 (.ok (.bin .rem 42 (.fld (.var 2) 0) (.ok (.cv 3 42 (.fld (.var 1) 4))))))))) .an))
 (.need (.agn 5 (.proj (.var 8) 0))
 (.need (.ok (.proj (.var 8) 1))
 (.need (.ok (.bin .add 3 (.ok (.proj (.var 5) 1)) (.ok (.proj (.var 6) 1))))
 (.need (.ok (.bin .add 3 (.ok (.bin .add 3 (.ok (.proj (.var 5) 1)) (.ok (.proj (.var 6) 1)))) (.ok (.proj (.var 7) 1))))
 (.need (.ok (.bin .add 3 (.ok (.bin .add 3 (.ok (.bin .add 3 (.ok (.proj (.var 5) 1)) (.ok (.proj (.var 6) 1)))) (.ok (.proj (.var 7) 1)))) (.ok (.proj (.var 8) 1))))
 (.need (.ok (.bin .eql 3 (.ok (.bin .add 3 (.ok (.bin .add 3 (.ok (.bin .add 3 (.ok (.proj (.var 5) 1)) (.ok (.proj (.var 6) 1)))) (.ok (.proj (.var 7) 1)))) (.ok (.proj (.var 8) 1)))) (.i 0)))
 (.test (.ok (.bin .eql 3 (.ok (.bin .add 3 (.ok (.bin .add 3 (.ok (.bin .add 3 (.ok (.proj (.var 5) 1)) (.ok (.proj (.var 6) 1)))) (.ok (.proj (.var 7) 1)))) (.ok (.proj (.var 8) 1)))) (.i 0)))
 (.call 19 false (.ac (.ac (.fld (.proj (.var 6) 0) 0) (.ac (.fld (.proj (.var 6) 0) 1) (.ac (.fld (.proj (.var 6) 0) 2) (.ac (.fld (.proj (.var 6) 0) 3) (.ac (.fld (.proj (.var 6) 0) 4) .an))))) (.ac (.ac (.fld (.proj (.var 8) 0) 0) (.ac (.fld (.proj (.var 8) 0) 1) (.ac (.fld (.proj (.var 8) 0) 2) (.ac (.fld (.proj (.var 8) 0) 3) (.ac (.fld (.proj (.var 8) 0) 4) .an))))) .an))
 (.need (.ok (.var 9))
 (.test (.ok (.var 9))
 (.call 15 false .an
 (.need (.ok (.var 10))
 (.ret (.ok (.var 10)))))
 (.ret (.b false)))))
 (.ret (.b false))))))))))))))))))))))))))))))))))))))))
def cfg7 : Cfg := ⟨puresC, joinsC, stopsC, [], rows0C⟩
theorem ex7 : execFn Tryz.prog cfg7 400 false 7 = fir7 := by kernel_rfl
def fir79v0 : FIR :=
 (.loop (.ac (.i 0) .an)
 (.need (.len (.ok (.var 0)))
 (.need (.ok (.bin .lss 3 (.var 2) (.len (.ok (.var 0)))))
 (.test (.ok (.bin .lss 3 (.var 2) (.len (.ok (.var 0)))))
 (.bind (.idx 3 (.ok (.var 0)) (.var 2))
 (.need (.agn 3 (.var 3))
 (.call 102 false (.ac (.fld (.var 3) 2) .an)
 (.need (.ok (.var 4))
 (.need (.ok (.un .not (.ok (.var 4))))
 (.test (.ok (.un .not (.ok (.var 4))))
 (.ret (.b false))
 (.need (.ok (.bin .add 3 (.var 2) (.i 1)))
 (.next 0 (.ac (.ok (.bin .add 3 (.var 2) (.i 1))) .an)))))))))
 (.ret (.b true))))))
def fir79 : FIR :=
 (.need (.ok (.var 0))
 (.need (.ok (.var 1))
 (.need (.len (.ok (.var 0)))
 (.need (.ok (.bin .gtr 3 (.len (.ok (.var 0))) (.ok (.var 1))))
 (.test (.ok (.bin .gtr 3 (.len (.ok (.var 0))) (.ok (.var 1))))
 (.ret (.b false))
 fir79v0)))))
def cfg79 : Cfg := ⟨puresC, joinsC, stopsC, [⟨0, 79, 4, [(0, (5, 0))], [], [], []⟩], rows0C⟩
theorem ex79 : execFn Tryz.prog cfg79 400 false 79 = fir79 := by kernel_rfl
def fir30gv0 : FIR :=
 (.loop (.ac (.i 0) .an)
 (.need (.len (.fld (.var 0) 1))
 (.need (.ok (.bin .lss 3 (.var 1) (.len (.fld (.var 0) 1))))
 (.test (.ok (.bin .lss 3 (.var 1) (.len (.fld (.var 0) 1))))
 (.bind (.idx 6 (.fld (.var 0) 1) (.var 1))
 (.need (.agn 6 (.var 2))
 (.need (.len (.fld (.var 2) 1))
 (.need (.ok (.bin .gtr 3 (.len (.fld (.var 2) 1)) (.i 3)))
 (.test (.ok (.bin .gtr 3 (.len (.fld (.var 2) 1)) (.i 3)))
 (.ret (.b false))
 (.need (.len (.fld (.var 2) 2))
 (.need (.ok (.bin .gtr 3 (.len (.fld (.var 2) 2)) (.i 3)))
 (.test (.ok (.bin .gtr 3 (.len (.fld (.var 2) 2)) (.i 3)))
 (.ret (.b false))
 (.need (.len (.fld (.var 2) 1))
 (.need (.len (.fld (.var 2) 2))
 (.need (.ok (.bin .add 3 (.len (.fld (.var 2) 1)) (.len (.fld (.var 2) 2))))
 (.need (.ok (.bin .gtr 3 (.ok (.bin .add 3 (.len (.fld (.var 2) 1)) (.len (.fld (.var 2) 2)))) (.i 3)))
 (.test (.ok (.bin .gtr 3 (.ok (.bin .add 3 (.len (.fld (.var 2) 1)) (.len (.fld (.var 2) 2)))) (.i 3)))
 (.ret (.b false))
 (.need (.len (.fld (.var 2) 3))
 (.need (.ok (.bin .gtr 3 (.len (.fld (.var 2) 3)) (.i 6)))
 (.test (.ok (.bin .gtr 3 (.len (.fld (.var 2) 3)) (.i 6)))
 (.ret (.b false))
 (.need (.len (.fld (.var 2) 4))
 (.need (.ok (.bin .gtr 3 (.len (.fld (.var 2) 4)) (.i 6)))
 (.test (.ok (.bin .gtr 3 (.len (.fld (.var 2) 4)) (.i 6)))
 (.ret (.b false))
 (.call 44 false (.ac (.fld (.var 2) 1) .an)
 (.need (.ok (.var 3))
 (.need (.ok (.un .not (.ok (.var 3))))
 (.test (.ok (.un .not (.ok (.var 3))))
 (.ret (.b false))
 (.call 44 false (.ac (.fld (.var 2) 2) .an)
 (.need (.ok (.var 4))
 (.need (.ok (.un .not (.ok (.var 4))))
 (.test (.ok (.un .not (.ok (.var 4))))
 (.ret (.b false))
 (.call 79 false (.ac (.fld (.var 2) 3) (.ac (.i 6) .an))
 (.need (.ok (.var 5))
 (.need (.ok (.un .not (.ok (.var 5))))
 (.test (.ok (.un .not (.ok (.var 5))))
 (.ret (.b false))
 (.call 79 false (.ac (.fld (.var 2) 4) (.ac (.i 6) .an))
 (.need (.ok (.var 6))
 (.need (.ok (.un .not (.ok (.var 6))))
 (.test (.ok (.un .not (.ok (.var 6))))
 (.ret (.b false))
 (.need (.ok (.bin .add 3 (.var 1) (.i 1)))
 (.next 0 (.ac (.ok (.bin .add 3 (.var 1) (.i 1))) .an))))))))))))))))))))))))))))))))))))))
 (.ret (.b true))))))
def fir30g : FIR :=
 (.need (.agn 2 (.var 0))
 (.need (.len (.fld (.var 0) 0))
 (.need (.ok (.bin .gtr 3 (.len (.fld (.var 0) 0)) (.i 12)))
 (.test (.ok (.bin .gtr 3 (.len (.fld (.var 0) 0)) (.i 12)))
 (.ret (.b false))
 (.need (.len (.fld (.var 0) 1))
 (.need (.ok (.bin .gtr 3 (.len (.fld (.var 0) 1)) (.i 8)))
 (.test (.ok (.bin .gtr 3 (.len (.fld (.var 0) 1)) (.i 8)))
 (.ret (.b false))
 fir30gv0)))))))
def cfg30g : Cfg := ⟨puresC, joinsC, stopsC, [⟨0, 30, 4, [(0, (3, 0))], [], [], []⟩], rows0C⟩
theorem ex30g : execFn Tryz.prog cfg30g 400 false 30 = fir30g := by kernel_rfl
end Go.Proofs.YtggffkaadeagbaaGreat
namespace Go.Proofs.YtggffkaadeagbaaGreat
open Go Go.Ev
theorem n79 : (Tryz.prog.funcs[79]?).map (·.params.size) = some 2 := by kernel_rfl
theorem t79 (z : IV) : tupOk Tryz.prog 79 z = true := by kernel_rfl
theorem tiny8 {l : List Tm} (h : tinyB l = true) : l.length ≤ 8 := by
  unfold tinyB at h
  split at h
  · cases h
  · omega
theorem e79 (l : List Gl) (n : Int) (hl : Sm l) (hw : ∀ g ∈ l, NmG g) : ∃ b, (b = true → l.length ≤ n ∧ ∀ g ∈ l, g.ts.length ≤ 8) ∧ CC 79 false [iGs l, iI n] (iB b) := by
  refine CC.boolP _ ex79 n79 t79 (by simp) (by rfl) ?_
  simp [fir79, SE.den, cellOk]
  by_cases z : n < l.length
  · left; exact z
  right; refine ⟨by omega, ?_⟩
  unfold fir79v0
  refine sat_loop2 l.length (fun i (_ : Unit) => [iI i]) (fun i _ => ∀ g ∈ l.take i, g.ts.length ≤ 8) () ?_ (by simp) fun i _ hi hI => ?_
  · simp [SE.den]
  by_cases hlt : i < l.length
  · have hwr := wrapi hlt hl
    have hg := hw _ (List.getElem_mem hlt)
    have h102 := c102 l[i].ts fun t ht => (hg.2.2 t ht).wf
    simp [SE.den, hlt, hwr, ix_G hlt, cellOk]
    refine ⟨_, h102, ?_⟩
    cases ht : tinyB l[i].ts <;> simp
    exact .mk () rfl (by omega) (take_step hlt hI (tiny8 ht))
  · simp [SE.den, hlt]
    exact ⟨by omega, take_all hlt hI⟩
theorem e44 (l : List At) (hl : Sm l) (hw : ∀ g ∈ l, NmA g) : ∃ b, (b = true → ∀ g ∈ l, g.ts.length ≤ 8) ∧ CC 44 false [iAs l] (iB b) := by
  refine CC.boolP _ ex44 n44 t44 (by simp) (by rfl) ?_
  simp [fir44, SE.den, cellOk]
  refine sat_loop2 l.length (fun i (_ : Unit) => [iI i]) (fun i _ => ∀ g ∈ l.take i, g.ts.length ≤ 8) () ?_ (by simp) fun i _ hi hI => ?_
  · simp [SE.den]
  by_cases hlt : i < l.length
  · have hwr := wrapi hlt hl
    have hg := hw _ (List.getElem_mem hlt)
    have h102 := c102 l[i].ts fun t ht => (hg.2.2 t ht).wf
    simp [SE.den, hlt, hwr, iy_A hlt, cellOk]
    refine ⟨_, h102, ?_⟩
    cases ht : tinyB l[i].ts <;> simp
    exact .mk () rfl (by omega) (take_step hlt hI (tiny8 ht))
  · simp [SE.den, hlt]
    exact take_all hlt hI
structure NmP (p : Pg) : Prop where
  sd : Sm p.decls
  sr : Sm p.rules
  d : ∀ d ∈ p.decls, Sm d.s
  r : ∀ r ∈ p.rules, NmR r ∧ Sm r.keep ∧ Sm r.remove ∧ Sm r.guard ∧ Sm r.body
theorem e30 (p : Pg) (h : NmP p) : ∃ b, (b = true → SmP p) ∧ CC 30 false [encPg p] (iB b) := by
  refine CC.boolP _ ex30g n30 t30 (by simpa using pure_encPg p) (by rfl) ?_
  obtain ⟨ds, rs⟩ := p
  obtain ⟨sd, sr, hd, hr⟩ := h
  simp only at *
  show fir30g.sat _ _ _ _ [.agg [iDs ds, iRs rs]]
  simp [fir30g, SE.den, cellOk]
  by_cases z : 12 < ds.length
  · left; omega
  right; refine ⟨by omega, ?_⟩
  by_cases z : 8 < rs.length
  · left; omega
  right; refine ⟨by omega, ?_⟩
  unfold fir30gv0
  refine sat_loop2 rs.length (fun i (_ : Unit) => [iI i]) (fun i _ => ∀ r ∈ rs.take i, SmR r) () ?_ (by simp) fun i _ hi hI => ?_
  · simp [SE.den]
  by_cases hlt : i < rs.length
  · have hwr := wrapi hlt sr
    obtain ⟨hnm, s1, s2, s3, s4⟩ := hr _ (List.getElem_mem hlt)
    obtain ⟨b1, f1, h1⟩ := e44 rs[i].keep s1 fun a ha => hnm.hs a (List.mem_append_left _ ha)
    obtain ⟨b2, f2, h2⟩ := e44 rs[i].remove s2 fun a ha => hnm.hs a (List.mem_append_right _ ha)
    obtain ⟨b3, f3, h3⟩ := e79 rs[i].guard 6 s3 fun a ha => hnm.gs a (List.mem_append_left _ ha)
    obtain ⟨b4, f4, h4⟩ := e79 rs[i].body 6 s4 fun a ha => hnm.gs a (List.mem_append_right _ ha)
    simp [SE.den, hlt, hwr, ix_R hlt, cellOk]
    by_cases y1 : 3 < rs[i].keep.length
    · left; omega
    right; refine ⟨by omega, ?_⟩
    by_cases y2 : 3 < rs[i].remove.length
    · left; omega
    right; refine ⟨by omega, ?_⟩
    have hwl : IntKind.i64.wrap ((rs[i].keep.length : Int) + (rs[i].remove.length : Int)) = rs[i].keep.length + rs[i].remove.length := wrap_in (by omega) (by omega)
    simp [hwl]
    by_cases y3 : (3 : Int) < rs[i].keep.length + rs[i].remove.length
    · left; exact y3
    right; refine ⟨by omega, ?_⟩
    by_cases y4 : 6 < rs[i].guard.length
    · left; omega
    right; refine ⟨by omega, ?_⟩
    by_cases y5 : 6 < rs[i].body.length
    · left; omega
    right; refine ⟨by omega, ?_⟩
    refine ⟨_, h1, ?_⟩
    cases b1 <;> simp
    refine ⟨_, h2, ?_⟩
    cases b2 <;> simp
    refine ⟨_, h3, ?_⟩
    cases b3 <;> simp
    refine ⟨_, h4, ?_⟩
    cases b4 <;> simp
    refine .mk () rfl (by omega) (take_step hlt hI ⟨by omega, by omega, by omega, fun a ha => ?_, fun a ha => ?_⟩)
    · rcases List.mem_append.1 ha with ha | ha
      · exact f1 rfl a ha
      · exact f2 rfl a ha
    · rcases List.mem_append.1 ha with ha | ha
      · exact (f3 rfl).2 a ha
      · exact (f4 rfl).2 a ha
  · simp [SE.den, hlt]
    exact ⟨by simp; omega, by simp; omega, hd, take_all hlt hI, fun r hr' => (hr r hr').1⟩
theorem small_more {m : Me} (hm : WfM m) (h : smallB m = true) : SmL m := by
  obtain ⟨b1, b2, b3, b4⟩ := small_bounds hm h
  simp only [smallB, factsB, Bool.and_eq_true, decide_eq_true_eq, List.all_eq_true, logB, factB] at h
  refine ⟨hm, b1, b2, b3, fun x hx => ?_, fun f hf => ?_⟩
  · have := h.2.2.2 x hx
    exact ⟨this.1, this.2.1, this.2.2.1, this.2.2.2⟩
  · rcases List.mem_append.1 hf with hf | hf
    · exact (h.1.2 f hf).1
    · exact (h.2.1.2 f hf).1
theorem e10 (p : Pg) (hp : NmP p) (m : Me) (hm : WfM m) : ∃ b, (b = true → SmP p ∧ SmL m) ∧ CC 10 false [encPg p, encM m] (iB b) := by
  obtain ⟨b30, f30, h30⟩ := e30 p hp
  refine ⟨b30 && smallB m, fun hb => ?_, ?_⟩
  · rw [Bool.and_eq_true] at hb
    exact ⟨f30 hb.1, small_more hm hb.2⟩
  refine CC.of ex10 n10 (t10 _) (by intro y hy; simp at hy; rcases hy with rfl | rfl; exact pure_encPg p; exact pure_encM m) (by simp) ?_
  obtain ⟨ds, rs⟩ := p
  simp only [encPg] at *
  simp [fir10, SE.den, encM, cellOk]
  refine ⟨_, h30, ?_⟩
  cases b30 <;> simp
  refine ⟨_, c31 m.facts hm.f, ?_⟩
  simp [SE.den]
  cases h1 : factsB m.facts
  · left; simp [smallB, h1]
  right; simp
  refine ⟨_, c31 m.past hm.p, ?_⟩
  simp [SE.den]
  cases h2 : factsB m.past
  · left; simp [smallB, h2]
  right; simp
  by_cases h12 : 12 < m.log.length
  · left; refine ⟨by omega, ?_⟩
    simp [smallB]; intro _ _ h; omega
  right; refine ⟨by omega, ?_⟩
  refine sat_loop m.log.length (fun i (_ : Unit) => [iI i]) (fun i _ => smallB m = (m.log.drop i).all logB) () ?_ ?_ fun i _ hi hI => ?_
  · simp [SE.den]
  · simp [smallB, h1, h2]; omega
  by_cases hlt : i < m.log.length
  · rw [List.drop_eq_getElem_cons hlt, List.all_cons] at hI
    have hwr := wrapi hlt (by omega)
    simp [SE.den, hlt, hwr, ix_P hlt, encP, cellOk]
    rw [hI, logB]
    by_cases a1 : 8 < m.log[i].heads.length
    · left; exact ⟨by omega, by simp; intro h; omega⟩
    right; refine ⟨by omega, ?_⟩
    by_cases a2 : 8 < m.log[i].gone.length
    · left; exact ⟨by omega, by simp; intro _ h; omega⟩
    right; refine ⟨by omega, ?_⟩
    by_cases a3 : 20 < m.log[i].made.length
    · left; exact ⟨by omega, by simp; intro _ _ h; omega⟩
    right; refine ⟨by omega, ?_⟩
    by_cases a4 : 20 < m.log[i].just.length
    · left; exact ⟨by omega, by simp; intro _ _ _ h; omega⟩
    right; exact ⟨by omega, by omega, by rw [decide_eq_true (by omega), decide_eq_true (by omega), decide_eq_true (by omega), decide_eq_true (by omega)]; simp⟩
  · simp [SE.den, hlt]
    rw [hI, List.drop_of_length_le (by omega)]; simp
end Go.Proofs.YtggffkaadeagbaaGreat
