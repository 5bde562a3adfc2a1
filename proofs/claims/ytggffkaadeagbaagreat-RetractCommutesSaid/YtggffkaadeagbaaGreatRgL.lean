/- A part of the proof, no condition: the checks of the reference come to an end, programs. -/
import Derived.Test.YtggffkaadeagbaaGreatRgF
import Derived.Test.YtggffkaadeagbaaGreatRgI
set_option linter.all false
namespace Go.Proofs.YtggffkaadeagbaaGreat
open Go Go.Ev
def puresN : List Nat := [123, 127, 126, 186, 189, 44, 79, 30, 102, 9, 10, 23, 31, 15, 257, 149, 89, 148, 198, 147, 199, 50, 191, 71, 214, 93, 163, 49, 152, 64, 164, 158, 95, 108, 206, 250, 213, 130, 131, 107, 129, 155, 34, 90, 51, 202, 153, 201, 200, 151, 203, 150, 204, 154, 91, 41, 67, 101, 99, 109, 157, 210, 12, 26, 28, 25, 14, 19, 100, 40, 39, 70, 69, 35, 53, 52, 68, 42, 58, 75, 24, 27, 22, 29, 61, 190, 66, 133, 128, 249, 121, 78, 183]
def joinsN : List Nat := [48, 60, 63, 65, 92, 94, 118, 124, 132, 174, 197, 205, 216, 252, 263, 334]
def stopsN : List Nat := [185, 188, 254]
def rows0N : List Nat := [155]
def firn53v0 : FIR :=
 (.loop (.ac (.i 0) .an)
 (.need (.len (.ok (.var 0)))
 (.need (.ok (.bin .lss 3 (.var 2) (.len (.ok (.var 0)))))
 (.test (.ok (.bin .lss 3 (.var 2) (.len (.ok (.var 0)))))
 (.bind (.idx 1 (.ok (.var 0)) (.var 2))
 (.need (.ok (.var 3))
 (.bind (.idx 1 (.ok (.var 1)) (.var 2))
 (.need (.ok (.var 4))
 (.need (.ok (.bin .neq 3 (.ok (.var 3)) (.ok (.var 4))))
 (.test (.ok (.bin .neq 3 (.ok (.var 3)) (.ok (.var 4))))
 (.ret (.rw (.b false)))
 (.need (.ok (.bin .add 3 (.var 2) (.i 1)))
 (.next 0 (.ac (.ok (.bin .add 3 (.var 2) (.i 1))) .an)))))))))
 (.ret (.rw (.b true)))))))
def firn53 : FIR :=
 (.need (.ok (.var 0))
 (.need (.ok (.var 1))
 (.need (.len (.ok (.var 0)))
 (.need (.len (.ok (.var 1)))
 (.need (.ok (.bin .neq 3 (.len (.ok (.var 0))) (.len (.ok (.var 1)))))
 (.test (.ok (.bin .neq 3 (.len (.ok (.var 0))) (.len (.ok (.var 1)))))
 (.ret (.rw (.b false)))
 firn53v0))))))
def cfgn53 : Cfg := ⟨puresN, joinsN, stopsN, [⟨0, 53, 4, [(0, (5, 0))], [], [], []⟩], rows0N⟩
theorem exn53 : execFn Tryz.prog cfgn53 400 true 53 = firn53 := by kernel_rfl
def firn51v0 : FIR :=
 (.loop (.ac (.i 0) .an)
 (.need (.len (.ok (.var 0)))
 (.need (.ok (.bin .lss 3 (.var 3) (.len (.ok (.var 0)))))
 (.test (.ok (.bin .lss 3 (.var 3) (.len (.ok (.var 0)))))
 (.bind (.idx 2 (.ok (.var 0)) (.var 3))
 (.need (.agn 2 (.var 4))
 (.need (.ok (.bin .eql 9 (.fld (.var 4) 0) (.ok (.var 1))))
 (.test (.ok (.bin .eql 9 (.fld (.var 4) 0) (.ok (.var 1))))
 (.bind (.idx 2 (.ok (.var 0)) (.var 3))
 (.need (.agn 2 (.var 5))
 (.need (.ok (.bin .eql 3 (.fld (.var 5) 1) (.ok (.var 2))))
 (.test (.ok (.bin .eql 3 (.fld (.var 5) 1) (.ok (.var 2))))
 (.ret (.rw (.b true)))
 (.need (.ok (.bin .add 3 (.var 3) (.i 1)))
 (.next 0 (.ac (.ok (.bin .add 3 (.var 3) (.i 1))) .an)))))))
 (.need (.ok (.bin .add 3 (.var 3) (.i 1)))
 (.next 0 (.ac (.ok (.bin .add 3 (.var 3) (.i 1))) .an)))))))
 (.ret (.rw (.b false)))))))
def firn51 : FIR :=
 (.need (.ok (.var 0))
 (.need (.ok (.var 1))
 (.need (.ok (.var 2))
 firn51v0)))
def cfgn51 : Cfg := ⟨puresN, joinsN, stopsN, [⟨0, 51, 2, [(0, (7, 0))], [], [], []⟩], rows0N⟩
theorem exn51 : execFn Tryz.prog cfgn51 400 true 51 = firn51 := by kernel_rfl
end Go.Proofs.YtggffkaadeagbaaGreat
namespace Go.Proofs.YtggffkaadeagbaaGreat
open Go Go.Ev
structure SmP (p : Pg) : Prop where
  d : p.decls.length ≤ 12
  r : p.rules.length ≤ 8
  dn : ∀ d ∈ p.decls, Sm d.s
  rs : ∀ r ∈ p.rules, SmR r
  rn : ∀ r ∈ p.rules, NmR r
theorem e51n (l : List De) (s : List UInt8) (n : Int) (hl : Sm l) : ∃ b, CC 51 true [iDs l, iS s, iI n] (iB b) := by
  refine CC.bool exn51 n51 t51 (by simp) (by rfl) ?_
  simp [firn51, firn51v0, SE.den, cellOk]
  refine sat_loop l.length (fun i (_ : Unit) => [iI i]) (fun _ _ => True) () ?_ ?_ fun i _ hi _ => ?_
  · simp [SE.den]
  · trivial
  by_cases hlt : i < l.length
  · have hw := wrapi hlt hl
    simp [SE.den, hlt, hw, ix_D hlt, cellOk, isRaw1]
    by_cases h1 : l[i].s = s
    · simp [h1]; omega
    · simp [h1]; omega
  · simp [SE.den, hlt, isRaw1]
theorem sub_D {L : List De} {l : Nat} (h1 : l ≤ L.length) : denSub 2 (iDs L) (iI 0) (iI (l : Nat)) = some (iDs (L.take l)) := by
  simp [denSub, intI?, h1, List.map_take]
theorem n34 : (Tryz.prog.funcs[34]?).map (·.params.size) = some 1 := by kernel_rfl
theorem t34 (a b : Int) : tupOk Tryz.prog 34 (.tup [iI a, iI b]) = true := by kernel_rfl
theorem e34 (p : Pg) (h : SmP p) : ∃ a n, (n = 0 → ∀ r ∈ p.rules, FoR r) ∧ CC 34 false [encPg p] (.tup [iI a, iI n]) := by
  refine CC.tup2 _ ex34 n34 t34 (by simpa using pure_encPg p) (by rfl) ?_
  obtain ⟨ds, rs⟩ := p
  obtain ⟨hd, hr, dn, hsr, hnr⟩ := h
  simp only at *
  show fir34.sat _ _ _ _ [.agg [iDs ds, iRs rs]]
  simp [fir34, SE.den, cellOk]
  right; refine ⟨by omega, ?_⟩
  unfold fir34v1
  refine sat_loop2 ds.length (fun i (_ : Unit) => [iI i]) (fun _ _ => True) () ?_ trivial fun i _ hi _ => ?_
  · simp [SE.den]
  by_cases hlt : i < ds.length
  · have hw := wrapi hlt (by omega)
    obtain ⟨b1, h1⟩ := e89 ds[i].s (dn _ (List.getElem_mem hlt))
    obtain ⟨b2, h2⟩ := e51n (ds.take i) ds[i].s ds[i].n (by unfold Sm; simp; omega)
    have hsub := sub_D (L := ds) (l := i) (by omega)
    simp [SE.den, hlt, hw, ix_D hlt, cellOk]
    refine ⟨_, h1, ?_⟩
    cases b1 <;> simp
    by_cases z1 : ds[i].n < 0
    · left; exact z1
    right; refine ⟨by omega, ?_⟩
    by_cases z2 : 6 < ds[i].n
    · left; exact z2
    right; refine ⟨by omega, ?_⟩
    refine ⟨_, hsub, _, h2, ?_⟩
    simp
    cases b2 <;> simp
    exact .mk () rfl (by omega) trivial
  simp [SE.den, hlt, cellOk]
  right; refine ⟨by omega, ?_⟩
  unfold fir34v0
  refine sat_loop2 rs.length (fun i (_ : Unit) => [iI i]) (fun i _ => ∀ r ∈ rs.take i, FoR r) () ?_ (by simp) fun i0 _ hi0 hI => ?_
  · simp [SE.den]
  by_cases hlt0 : i0 < rs.length
  · have hw := wrapi hlt0 (by omega)
    obtain ⟨n, hF, hb⟩ := e90 ds (by unfold Sm; omega) rs[i0] (hsr _ (List.getElem_mem hlt0)) (hnr _ (List.getElem_mem hlt0))
    rw [encR_eq] at hb
    simp [SE.den, hlt0, hw, ix_R hlt0, cellOk]
    refine ⟨_, hb, ?_⟩
    simp [bn31]
    by_cases z : n = 0
    · right; exact ⟨z, .mk () rfl (by omega) (take_step hlt0 hI (hF z))⟩
    · left; exact ⟨z, fun h => absurd h z⟩
  · simp [SE.den, hlt0]
    exact take_all hlt0 hI
end Go.Proofs.YtggffkaadeagbaaGreat
namespace Go.Proofs.YtggffkaadeagbaaGreat
open Go Go.Ev
theorem cat_Lb {a b : List Int} (h : a.length + b.length ≤ 1000000000) : denCat 1 8 (iL a) (iL b) = some (iL (a ++ b)) := by
  have h2 : elemsOk 1 (b.map iI) = true := by
    unfold elemsOk
    rw [List.all_eq_true]
    intro e he
    obtain ⟨x, _, rfl⟩ := List.mem_map.1 he
    rfl
  simp [denCat, h2]
  omega
theorem n95 : (Tryz.prog.funcs[95]?).map (·.params.size) = some 1 := by kernel_rfl
theorem t95 (z : IV) : tupOk Tryz.prog 95 z = true := by kernel_rfl
theorem e95 (t : Tm) (h : WF t) : ∃ l', Vr l' ∧ CC 95 false [encT t] (iL l') := by
  refine CC.totL Vr ex95 n95 t95 (by simpa using pure_encT t) (by rfl) ?_
  obtain ⟨l', k1, hb⟩ := e155 t h.1 h.2 [] Vr.nil
  rw [encT_eq] at hb ⊢
  simp [fir95, SE.den, cellOk, isRaw1, cellsOf]
  exact ⟨_, hb, by simpa using k1⟩
theorem n35 : (Tryz.prog.funcs[35]?).map (·.params.size) = some 1 := by kernel_rfl
theorem t35 (z : IV) : tupOk Tryz.prog 35 z = true := by kernel_rfl
section rule
variable {Q : IV → Prop} {k0 k1 k2 k3 k4 k5 : List IV → Prop}
theorem s35v0 {x0 x1 x2 x3 x4 x6 x7 x8 : IV} {kn : List Int} {n : Int} (hk : kn.length ≤ 1000000000) (h : ∀ b, k4 [iB b]) :
    fir35v0.sat Tryz.prog CC Q [k0, k1, k2, k3, k4] [x0, x1, x2, x3, x4, iL kn, x6, x7, x8, iI n] := by
  refine sat_loop2 kn.length (fun i (_ : Unit) => [iI i]) (fun _ _ => True) () ?_ trivial fun i _ hi _ => ?_
  · simp [SE.den]
  by_cases hlt : i < kn.length
  · have hw := wrapi hlt (by omega)
    simp [SE.den, hlt, hw, ix_L hlt, cellsOf]
    by_cases he : kn[i] = n
    · left; exact ⟨he, h _⟩
    · right; exact ⟨he, .mk () rfl (by omega) trivial⟩
  · simp [SE.den, hlt]
    exact h _
theorem s35v11 {x0 x1 x2 x3 x4 x6 x7 x8 x9 x10 x11 x12 : IV} {kn : List Int} {n : Int} (hk : kn.length ≤ 1000000000) (h : ∀ b, k4 [iB b]) :
    fir35v11.sat Tryz.prog CC Q [k0, k1, k2, k3, k4] [x0, x1, x2, x3, x4, iL kn, x6, x7, x8, x9, x10, x11, x12, iI n] := by
  refine sat_loop2 kn.length (fun i (_ : Unit) => [iI i]) (fun _ _ => True) () ?_ trivial fun i _ hi _ => ?_
  · simp [SE.den]
  by_cases hlt : i < kn.length
  · have hw := wrapi hlt (by omega)
    simp [SE.den, hlt, hw, ix_L hlt, cellsOf]
    by_cases he : kn[i] = n
    · left; exact ⟨he, h _⟩
    · right; exact ⟨he, .mk () rfl (by omega) trivial⟩
  · simp [SE.den, hlt]
    exact h _
theorem s35v10 {x0 x1 x2 x3 x4 x6 x7 a c d : IV} {kn : List Int} {n : Int} (hk : kn.length ≤ 1000000000) (h : ∀ b, k2 [iB b]) :
    fir35v10.sat Tryz.prog CC Q [k0, k1, k2] [x0, x1, x2, x3, x4, iL kn, x6, x7, .agg [a, iI n, c, d]] := by
  refine sat_loop2 kn.length (fun i (_ : Unit) => [iI i]) (fun _ _ => True) () ?_ trivial fun i _ hi _ => ?_
  · simp [SE.den]
  by_cases hlt : i < kn.length
  · have hw := wrapi hlt (by omega)
    simp [SE.den, hlt, hw, ix_L hlt, cellsOf]
    by_cases he : kn[i] = n
    · left; exact ⟨he, h _⟩
    · right; exact ⟨he, .mk () rfl (by omega) trivial⟩
  · simp [SE.den, hlt]
    exact h _
theorem s35v2 {x0 x1 x2 x3 x4 x6 : IV} {kn l : List Int} (hk : kn.length ≤ 1000000000) (hl : l.length ≤ 1000000000) (h : ∀ b, k2 [iB b]) :
    fir35v2.sat Tryz.prog CC Q [k0, k1, k2] [x0, x1, x2, x3, x4, iL kn, x6, iL l] := by
  refine sat_loop2 l.length (fun i (_ : Unit) => [iI i]) (fun _ _ => True) () ?_ trivial fun i _ hi _ => ?_
  · simp [SE.den]
  by_cases hlt : i < l.length
  · have hw := wrapi hlt (by omega)
    simp [SE.den, hlt, hw, ix_L hlt]
    refine sat_blk2 (fun vs => ∃ b, vs = [iB b]) (s35v0 hk fun b => ⟨b, rfl⟩) ?_
    rintro vs ⟨b, rfl⟩
    refine ⟨rfl, ?_⟩
    cases b <;> simp [SE.den, hw]
    · exact h _
    · exact .mk () rfl (by omega) trivial
  · simp [SE.den, hlt]
    exact h _
theorem s35v13 {x0 x1 x2 x3 x4 x6 x7 x8 x9 x10 : IV} {kn l : List Int} (hk : kn.length ≤ 1000000000) (hl : l.length ≤ 1000000000) (h : ∀ b, k2 [iB b]) :
    fir35v13.sat Tryz.prog CC Q [k0, k1, k2] [x0, x1, x2, x3, x4, iL kn, x6, x7, x8, x9, x10, iL l] := by
  refine sat_loop2 l.length (fun i (_ : Unit) => [iI i]) (fun _ _ => True) () ?_ trivial fun i _ hi _ => ?_
  · simp [SE.den]
  by_cases hlt : i < l.length
  · have hw := wrapi hlt (by omega)
    simp [SE.den, hlt, hw, ix_L hlt]
    refine sat_blk2 (fun vs => ∃ b, vs = [iB b]) (s35v11 hk fun b => ⟨b, rfl⟩) ?_
    rintro vs ⟨b, rfl⟩
    refine ⟨rfl, ?_⟩
    cases b <;> simp [SE.den, hw]
    · exact h _
    · exact .mk () rfl (by omega) trivial
  · simp [SE.den, hlt]
    exact h _
end rule
theorem e35 (r : Rl) (h : SmR r) (hF : FoR r) : ∃ b, CC 35 false [encR r] (iB b) := by
  refine CC.bool ex35 n35 t35 (by simpa using pure_encR r) (by rfl) ?_
  have h91 := c91 r (by have := h.h; omega)
  have hl := h.h; have hb := h.b
  have h1 := h.hs; have h2 := hF.hs
  have g1 := h.gs; have g2 := hF.gs
  rw [← List.length_append] at hl
  rw [encR_eq] at h91 ⊢
  generalize r.keep ++ r.remove = hs at h91 hl h1 h2
  obtain ⟨rn, rk, rr, rg, rb, rv⟩ := r
  simp only at *
  simp [fir35, SE.den, cellOk]
  refine ⟨_, h91, ?_⟩
  simp
  unfold fir35v17
  refine sat_loop2 hs.length (fun i (a : List Int) => [iI i, iL a]) (fun i a => a.length ≤ 1048577 * i) [] ?_ (by simp) fun i a hi hI => ?_
  · simp [SE.den]
  by_cases hlt : i < hs.length
  · have hw := wrapi hlt (by omega)
    have hm := List.getElem_mem hlt
    obtain ⟨l, kl, hb⟩ := e50 hs[i] (by have := h1 _ hm; unfold Sm; omega) (h2 _ hm)
    have hll := kl.len
    have hc := cat_Lb (a := a) (b := l) (by omega)
    have hr := rws_iL l
    simp [SE.den, hlt, hw, iy_A hlt, cellOk]
    refine ⟨_, hb, ?_⟩
    simp [SE.den, hc, hr, hw]
    refine ⟨?_, .mk (a ++ l) (by simp) (by omega) (by simp; omega)⟩
    simp [cellsOf, isRaw1]
  simp [SE.den, hlt, cellOk]
  unfold fir35v16
  refine sat_loop2 rb.length (fun i (a : List Int) => [iI i, iL a]) (fun i a => a.length ≤ 4000000 + i) a ?_ (by omega) fun i a hi hI => ?_
  · simp [SE.den]
  by_cases hlt1 : i < rb.length
  · have hw := wrapi hlt1 (by omega)
    have hm : rb[i] ∈ rg ++ rb := List.mem_append_right _ (List.getElem_mem hlt1)
    have hsm := g1 _ hm
    obtain ⟨har, hwf⟩ := g2 _ hm
    obtain ⟨l, kl, hb⟩ := e93 rb[i] (by unfold Sm; omega) hwf
    have hll := kl.len
    simp [SE.den, hlt1, ix_G hlt1, cellOk]
    by_cases o3 : rb[i].op = 3
    · left; exact o3
    right; refine ⟨o3, ?_⟩
    by_cases o0 : rb[i].op = 0
    · left
      refine ⟨o0, _, hb, ?_⟩
      simp
      refine sat_blk2 (fun vs => ∃ b, vs = [iB b]) (s35v2 (by omega) (by omega) fun b => ⟨b, rfl⟩) ?_
      rintro vs ⟨b, rfl⟩
      refine ⟨rfl, ?_⟩
      cases b <;> simp [SE.den, o0, hw]
      exact .mk a (by simp) (by omega) (by omega)
    right; refine ⟨o0, ?_⟩
    by_cases o4 : rb[i].op = 4
    rotate_left
    · right; refine ⟨o4, ?_⟩
      simp [hw]
      exact .mk a (by simp) (by omega) (by omega)
    left; refine ⟨o4, ?_⟩
    have hlen : rb[i].ts.length = 2 := by
      have := har o0
      rw [o4] at this
      simp [arityG] at this
      omega
    obtain ⟨t0, t1, hts⟩ : ∃ t0 t1, rb[i].ts = [t0, t1] := by
      match hq : rb[i].ts, hlen with
      | [a, b], _ => exact ⟨a, b, rfl⟩
    have w1 : WF t1 := hwf _ (by rw [hts]; simp)
    obtain ⟨l1, kl1, h95⟩ := e95 t1 w1
    have hl1 := kl1.len
    rw [encT_eq] at h95
    have i0 : denIdx 4 (iT rb[i].ts) (iI 0) = some (encT t0) := by rw [hts]; exact ix_T (l := [t0, t1]) (i := 0) (by simp)
    have i1 : denIdx 4 (iT rb[i].ts) (iI 1) = some (encT t1) := by rw [hts]; exact ix_T (l := [t0, t1]) (i := 1) (by simp)
    rw [encT_eq] at i0 i1
    simp only [iT] at i0 i1
    simp [SE.den, i0, cellOk]
    by_cases kk : t0.k = 1
    rotate_left
    · left; exact kk
    right; refine ⟨kk, ?_⟩
    refine sat_blk2 (fun vs => ∃ b, vs = [iB b]) (s35v10 (by omega) fun b => ⟨b, rfl⟩) ?_
    rintro vs ⟨b, rfl⟩
    refine ⟨rfl, ?_⟩
    cases b <;> simp [SE.den, i1, cellOk]
    refine ⟨_, h95, ?_⟩
    simp
    refine sat_blk2 (fun vs => ∃ b, vs = [iB b]) (s35v13 (by omega) (by omega) fun b => ⟨b, rfl⟩) ?_
    rintro vs ⟨b, rfl⟩
    refine ⟨rfl, ?_⟩
    have hc := cat_Lb (a := a) (b := [t0.n]) (by simp; omega)
    simp only [iL, List.map_cons, List.map_nil] at hc
    cases b <;> simp [SE.den, i0, cellOk, isRaw1, cellsOf, hc, hw]
    exact .mk (a ++ [t0.n]) (by simp) (by omega) (by simp; omega)
  · simp [SE.den, hlt1]
theorem n12 : (Tryz.prog.funcs[12]?).map (·.params.size) = some 1 := by kernel_rfl
theorem t12 (z : IV) : tupOk Tryz.prog 12 z = true := by kernel_rfl
theorem e12 (p : Pg) (h : SmP p) : ∃ n, (n = 0 → ∀ r ∈ p.rules, FoR r) ∧ CC 12 false [encPg p] (iI n) := by
  refine CC.intP _ ex12 n12 t12 (by simpa using pure_encPg p) (by rfl) ?_
  obtain ⟨a34, n34, hF, h34⟩ := e34 p h
  obtain ⟨ds, rs⟩ := p
  obtain ⟨hd, hr, dn, hsr, hnr⟩ := h
  simp only at *
  change CC 34 false [.agg [iDs ds, iRs rs]] _ at h34
  show fir12.sat _ _ _ _ [.agg [iDs ds, iRs rs]]
  simp [fir12, SE.den, cellOk]
  refine ⟨_, h34, ?_⟩
  simp
  by_cases z : n34 = 0
  rotate_left
  · left; exact z
  right; refine ⟨z, ?_⟩
  unfold fir12v0
  refine sat_loop2 rs.length (fun i (_ : Unit) => [iI i]) (fun _ _ => True) () ?_ trivial fun i _ hi _ => ?_
  · simp [SE.den]
  by_cases hlt : i < rs.length
  · have hw := wrapi hlt (by omega)
    obtain ⟨b, hb⟩ := e35 rs[i] (hsr _ (List.getElem_mem hlt)) (hF z _ (List.getElem_mem hlt))
    rw [encR_eq] at hb
    simp [SE.den, hlt, hw, ix_R hlt, cellOk]
    refine ⟨_, hb, ?_⟩
    cases b <;> simp
    exact .mk () rfl (by omega) trivial
  · simp [SE.den, hlt]
    exact hF z
end Go.Proofs.YtggffkaadeagbaaGreat
