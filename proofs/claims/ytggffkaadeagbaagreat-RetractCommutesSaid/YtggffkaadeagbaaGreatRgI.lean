/- A part of the proof, no condition: the checks of the reference come to an end, rules. -/
import Derived.Test.YtggffkaadeagbaaGreatRgC
set_option linter.all false
namespace Go.Proofs.YtggffkaadeagbaaGreat
open Go Go.Ev
theorem encT_ok (x : Tm) : ∃ cs, encT x = .agg cs ∧ cs.length = 4 ∧ cs.all cellOk = true := ⟨_, encT_eq x, rfl, rfl⟩
theorem cat_T {a b : List Tm} (h : a.length + b.length ≤ 1000) : denCat 4 56 (iT a) (iT b) = some (iT (a ++ b)) := by
  have h2 := elemsOk_of (s := 4) (enc := encT) encT_ok b
  simp [denCat, h2]
  omega
theorem ix_R {l : List Rl} {i : Nat} (h : i < l.length) : denIdx 6 (iRs l) (iI (i : Nat)) = some (.agg [iS l[i].name, iAs l[i].keep, iAs l[i].remove, iGs l[i].guard, iGs l[i].body, iI l[i].vars]) := denIdx_nat (by simp [h, encR]) rfl
theorem ix_L {l : List Int} {i : Nat} (h : i < l.length) : denIdx 1 (iL l) (iI (i : Nat)) = some (iI l[i]) := idx_iL (by simp [h])
structure SmR (r : Rl) : Prop where
  h : r.keep.length + r.remove.length ≤ 3
  g : r.guard.length ≤ 6
  b : r.body.length ≤ 6
  hs : ∀ a ∈ r.keep ++ r.remove, a.ts.length ≤ 8
  gs : ∀ a ∈ r.guard ++ r.body, a.ts.length ≤ 8
structure NmR (r : Rl) : Prop where
  n : Sm r.name
  hs : ∀ a ∈ r.keep ++ r.remove, NmA a
  gs : ∀ a ∈ r.guard ++ r.body, NmG a
def WF (t : Tm) : Prop := WfT t ∧ FormT t
structure FoR (r : Rl) : Prop where
  hs : ∀ a ∈ r.keep ++ r.remove, ∀ t ∈ a.ts, WF t
  gs : ∀ a ∈ r.guard ++ r.body, (a.op ≠ 0 → arityG a.op = a.ts.length) ∧ ∀ t ∈ a.ts, WF t
theorem e108n (ts : List Tm) (hts : Sm ts) (hw : ∀ t ∈ ts, WfT t ∧ FormT t) : ∃ l', Vr l' ∧ CC 108 true [iT ts] (iL l') := 
  CC.totL Vr ex108n n108 t108 (by simp) (by rfl) (s108 ts hts hw fun l hl => by rw [isLP_iL]; exact hl)
theorem n203 : (Tryz.prog.funcs[203]?).map (·.params.size) = some 1 := by kernel_rfl
theorem t203 (z : IV) : tupOk Tryz.prog 203 z = true := by kernel_rfl
theorem e203 (r : Rl) (h : SmR r) (hf : FoR r) : ∃ l', Vr l' ∧ CC 203 false [encR r] (iL l') := by
  refine CC.totL Vr ex203 n203 t203 (by simpa using pure_encR r) (by rfl) ?_
  have h150 := c150 r (by have := h.h; omega)
  have hl := h.h
  have h1 := h.hs; have h2 := hf.hs
  rw [← List.length_append] at hl
  rw [encR_eq] at h150 ⊢
  generalize r.keep ++ r.remove = hs at h150 hl h1 h2
  simp [fir203, SE.den, cellOk]
  refine ⟨_, h150, ?_⟩
  simp
  unfold fir203v0
  refine sat_loop2 hs.length (fun i (a : List Tm) => [iI i, iT a]) (fun i a => a.length ≤ 8 * i ∧ ∀ t ∈ a, WF t) [] ?_ ?_ fun i a hi hI => ?_
  · simp [SE.den]
  · simp
  obtain ⟨hI1, hI2⟩ := hI
  by_cases hlt : i < hs.length
  · have hw := wrapi hlt (by omega)
    have hm := List.getElem_mem hlt
    have hk := h1 _ hm
    have hc := cat_T (a := a) (b := hs[i].ts) (by omega)
    simp [SE.den, hlt, hw, iy_A hlt, cellOk, hc]
    exact .mk (a ++ hs[i].ts) (by simp) (by omega) ⟨by simp; omega, fun t ht => by
      rcases List.mem_append.1 ht with ht | ht
      · exact hI2 t ht
      · exact h2 _ hm t ht⟩
  · obtain ⟨l', k1, hb⟩ := e108n a (by unfold Sm; omega) hI2
    simp [SE.den, hlt, cellOk]
    exact ⟨_, hb, by simpa using k1⟩
theorem n153 : (Tryz.prog.funcs[153]?).map (·.params.size) = some 1 := by kernel_rfl
theorem t153 (z : IV) : tupOk Tryz.prog 153 z = true := by kernel_rfl
theorem e153 (r : Rl) (h : SmR r) (hf : FoR r) : ∃ l', Vr l' ∧ CC 153 false [encR r] (iL l') := by
  refine CC.totL Vr ex153 n153 t153 (by simpa using pure_encR r) (by rfl) ?_
  have h150 := c150 r (by have := h.h; omega)
  have h151 := c151 r (by have := h.g; have := h.b; omega)
  have hl := h.h; have hgl : r.guard.length + r.body.length ≤ 12 := by have := h.g; have := h.b; omega
  have h1 := h.hs; have h2 := hf.hs
  have g1 := h.gs; have g2 := hf.gs
  rw [← List.length_append] at hl hgl
  rw [encR_eq] at h150 h151 ⊢
  generalize r.keep ++ r.remove = hs at h150 hl h1 h2
  generalize r.guard ++ r.body = gs at h151 hgl g1 g2
  simp [fir153, SE.den, cellOk]
  refine ⟨_, h150, ?_⟩
  simp
  unfold fir153v1
  refine sat_loop2 hs.length (fun i (a : List Tm) => [iI i, iT a]) (fun i a => a.length ≤ 8 * i ∧ ∀ t ∈ a, WF t) [] ?_ ?_ fun i a hi hI => ?_
  · simp [SE.den]
  · simp
  obtain ⟨hI1, hI2⟩ := hI
  by_cases hlt : i < hs.length
  · have hw := wrapi hlt (by omega)
    have hm := List.getElem_mem hlt
    have hk := h1 _ hm
    have hc := cat_T (a := a) (b := hs[i].ts) (by omega)
    simp [SE.den, hlt, hw, iy_A hlt, cellOk, hc]
    exact .mk (a ++ hs[i].ts) (by simp) (by omega) ⟨by simp; omega, fun t ht => by
      rcases List.mem_append.1 ht with ht | ht
      · exact hI2 t ht
      · exact h2 _ hm t ht⟩
  · simp [SE.den, hlt, cellOk]
    refine ⟨_, h151, ?_⟩
    simp
    unfold fir153v0
    refine sat_loop2 gs.length (fun i (a : List Tm) => [iI i, iT a]) (fun i a => a.length ≤ 24 + 8 * i ∧ ∀ t ∈ a, WF t) a ?_ ⟨by omega, hI2⟩ fun j a hj hJ => ?_
    · simp [SE.den]
    obtain ⟨hJ1, hJ2⟩ := hJ
    by_cases hlt : j < gs.length
    · have hw := wrapi hlt (by omega)
      have hm := List.getElem_mem hlt
      have hk := g1 _ hm
      have hc := cat_T (a := a) (b := gs[j].ts) (by omega)
      simp [SE.den, hlt, hw, ix_G hlt, cellOk, hc]
      exact .mk (a ++ gs[j].ts) (by simp) (by omega) ⟨by simp; omega, fun t ht => by
        rcases List.mem_append.1 ht with ht | ht
        · exact hJ2 t ht
        · exact (g2 _ hm).2 t ht⟩
    · obtain ⟨l', k1, hb⟩ := e108n a (by unfold Sm; omega) hJ2
      simp [SE.den, hlt, cellOk]
      exact ⟨_, hb, by simpa using k1⟩
theorem n154 : (Tryz.prog.funcs[154]?).map (·.params.size) = some 2 := by kernel_rfl
theorem t154 (z : IV) : tupOk Tryz.prog 154 z = true := by kernel_rfl
theorem bn31 (a b : Int) : denBin Tryz.prog .neq 31 (iI a) (iI b) = some (iB (a != b)) := rfl
theorem e154 (ds : List De) (hd : Sm ds) (r : Rl) (h : SmR r) (hf : FoR r) : ∃ n, CC 154 false [iDs ds, encR r] (iI n) := by
  refine CC.int ex154 n154 t154 (by intro x hx; rcases List.mem_cons.1 hx with rfl | hx; exact pure_iDs _; obtain rfl := List.mem_singleton.1 hx; exact pure_encR r) (by rfl) ?_
  obtain ⟨l203, k203, h203⟩ := e203 r h hf
  have hsm203 := k203.len
  have h150 := c150 r (by have := h.h; omega)
  have h151 := c151 r (by have := h.g; have := h.b; omega)
  have hl := h.h; have hgl : r.guard.length + r.body.length ≤ 12 := by have := h.g; have := h.b; omega
  have hg := h.g; have hb := h.b
  have g2 := hf.gs; have g1 := h.gs
  rw [← List.length_append] at hl hgl
  rw [encR_eq] at h150 h151 h203 ⊢
  generalize r.keep ++ r.remove = hs at h150 hl
  obtain ⟨m201, h201⟩ := e201 ds (r.guard ++ r.body) hd (by unfold Sm; omega)
  generalize hgs : r.guard ++ r.body = gs at h151 hgl h201
  obtain ⟨rn, rk, rr, rg, rb, rv⟩ := r
  simp only at *
  simp [fir154, SE.den, cellOk]
  refine ⟨_, h150, ?_⟩
  simp
  unfold fir154v4
  refine sat_loop2 hs.length (fun i (_ : Unit) => [iI i]) (fun _ _ => True) () ?_ trivial fun i _ hi _ => ?_
  · simp [SE.den]
  by_cases hlt : i < hs.length
  · have hw := wrapi hlt (by omega)
    obtain ⟨b, hb⟩ := e200 ds hs[i].s hs[i].ts.length hd
    simp [SE.den, hlt, hw, iy_A hlt, cellOk, bn31]
    refine ⟨_, hb, ?_⟩
    simp [bn31]
    by_cases h0 : b = 0
    · right; exact ⟨h0, .mk () rfl (by omega) trivial⟩
    · left; exact h0
  simp [SE.den, hlt, cellOk, bn31]
  refine ⟨_, h151, ?_⟩
  simp
  refine ⟨_, h201, ?_⟩
  simp [bn31]
  by_cases h0 : m201 = 0
  rotate_left
  · left; exact h0
  right; refine ⟨h0, ?_⟩
  unfold fir154v3
  refine sat_loop2 rg.length (fun i (_ : Unit) => [iI i]) (fun _ _ => True) () ?_ trivial fun i3 _ hi3 _ => ?_
  · simp [SE.den]
  by_cases hlt3 : i3 < rg.length
  · have hw := wrapi hlt3 (by omega)
    obtain ⟨b, hb⟩ := e202 rg[i3].op
    simp [SE.den, hlt3, hw, ix_G hlt3, cellOk]
    refine ⟨_, hb, ?_⟩
    cases b <;> simp
    · by_cases h0 : rg[i3].op = 1
      · right; exact ⟨h0, .mk () rfl (by omega) trivial⟩
      · left; exact h0
    · exact .mk () rfl (by omega) trivial
  simp [SE.den, hlt3, cellOk]
  unfold fir154v2
  refine sat_loop2 rb.length (fun i (_ : Unit) => [iI i]) (fun _ _ => True) () ?_ trivial fun i2 _ hi2 _ => ?_
  · simp [SE.den]
  by_cases hlt2 : i2 < rb.length
  · have hw := wrapi hlt2 (by omega)
    obtain ⟨b, hb⟩ := e202 rb[i2].op
    simp [SE.den, hlt2, hw, ix_G hlt2, cellOk]
    refine ⟨_, hb, ?_⟩
    cases b <;> simp
    exact .mk () rfl (by omega) trivial
  simp [SE.den, hlt2, cellOk]
  refine ⟨_, h203, ?_⟩
  simp
  unfold fir154v1
  refine sat_loop2 rg.length (fun i (_ : Unit) => [iI i]) (fun _ _ => True) () ?_ trivial fun i1 _ hi1 _ => ?_
  · simp [SE.den]
  by_cases hlt1 : i1 < rg.length
  · have hw1 := wrapi hlt1 (by omega)
    have hm : rg[i1] ∈ rg ++ rb := List.mem_append_left _ (List.getElem_mem hlt1)
    obtain ⟨l, kl, hb⟩ := e93 rg[i1] (by have := g1 _ hm; unfold Sm; omega) (g2 _ hm).2
    have hll := kl.len
    simp [SE.den, hlt1, ix_G hlt1, cellOk]
    refine ⟨_, hb, ?_⟩
    simp
    unfold fir154v0
    refine sat_loop2 l.length (fun i (_ : Unit) => [iI i]) (fun _ _ => True) () ?_ trivial fun j _ hj _ => ?_
    · simp [SE.den]
    by_cases hlt : j < l.length
    · have hw := wrapi hlt (by omega)
      obtain ⟨b, hb⟩ := e204 l203 l[j] (by unfold Sm; omega)
      simp [SE.den, hlt, hw, ix_L hlt, cellOk]
      refine ⟨_, hb, ?_⟩
      cases b <;> simp
      exact .mk () rfl (by omega) trivial
    · simp [SE.den, hlt, hw1]
      exact .mk () rfl (by omega) trivial
  · simp [SE.den, hlt1]
end Go.Proofs.YtggffkaadeagbaaGreat
namespace Go.Proofs.YtggffkaadeagbaaGreat
open Go Go.Ev
def isIP (p : Int → Prop) (z : IV) : Prop := ∃ b : Int, z = iI b ∧ p b
@[simp] theorem isIP_iI (p : Int → Prop) (b : Int) : isIP p (iI b) ↔ p b := ⟨fun ⟨b', h1, h2⟩ => by cases h1; exact h2, fun h => ⟨b, rfl, h⟩⟩
theorem CC.intP {n : Nat} {new : Bool} {f : FuncId} {fir : FIR} {args : List IV} {cfg : Cfg} (p : Int → Prop) (he : execFn Tryz.prog cfg n new f = fir) (hl : (Tryz.prog.funcs[f]?).map (·.params.size) = some args.length) (ht : ∀ z, tupOk Tryz.prog f z = true) (hp : ∀ x ∈ args, Pure x) (hn : noTwo fir = true)
    (hs : fir.sat Tryz.prog CC (isIP p) [] args) : ∃ b, p b ∧ CC f new args (iI b) := by
  obtain ⟨z, ⟨b, rfl, hb⟩, h2⟩ := CC.tot he hl (fun z _ => ht z) hp (by rintro _ ⟨b, rfl, _⟩; exact .raw _) hn hs
  exact ⟨b, hb, h2⟩
def isT2 (p : Int → Prop) (z : IV) : Prop := ∃ a b : Int, z = .tup [iI a, iI b] ∧ p b
@[simp] theorem isT2_iI (p : Int → Prop) (a b : Int) : isT2 p (.tup [iI a, iI b]) ↔ p b := ⟨fun ⟨a', b', h1, h2⟩ => by cases h1; exact h2, fun h => ⟨a, b, rfl, h⟩⟩
theorem CC.tup2 {n : Nat} {new : Bool} {f : FuncId} {fir : FIR} {args : List IV} {cfg : Cfg} (p : Int → Prop) (he : execFn Tryz.prog cfg n new f = fir) (hl : (Tryz.prog.funcs[f]?).map (·.params.size) = some args.length) (ht : ∀ a b, tupOk Tryz.prog f (.tup [iI a, iI b]) = true) (hp : ∀ x ∈ args, Pure x) (hn : noTwo fir = true)
    (hs : fir.sat Tryz.prog CC (isT2 p) [] args) : ∃ a b, p b ∧ CC f new args (.tup [iI a, iI b]) := by
  obtain ⟨z, ⟨a, b, rfl, hb⟩, h2⟩ := CC.tot he hl (by rintro _ ⟨a, b, rfl, _⟩; exact ht a b) hp (by rintro _ ⟨a, b, rfl, _⟩; exact .tup _ (by simp)) hn hs
  exact ⟨a, b, hb, h2⟩
theorem n90 : (Tryz.prog.funcs[90]?).map (·.params.size) = some 2 := by kernel_rfl
theorem t90 (z : IV) : tupOk Tryz.prog 90 z = true := by kernel_rfl
theorem NmR.for {r : Rl} (hn : NmR r) (h1 : ∀ a ∈ r.keep ++ r.remove, ∀ t ∈ a.ts, FormT t) (h2 : ∀ a ∈ r.guard ++ r.body, (a.op ≠ 0 → arityG a.op = a.ts.length) ∧ ∀ t ∈ a.ts, FormT t) : FoR r :=
  ⟨fun a ha t ht => ⟨((hn.hs a ha).2.2 t ht).wf, h1 a ha t ht⟩, fun a ha => ⟨(h2 a ha).1, fun t ht => ⟨((hn.gs a ha).2.2 t ht).wf, (h2 a ha).2 t ht⟩⟩⟩
theorem e90 (ds : List De) (hd : Sm ds) (r : Rl) (h : SmR r) (hn : NmR r) : ∃ n, (n = 0 → FoR r) ∧ CC 90 false [iDs ds, encR r] (iI n) := by
  refine CC.intP _ ex90 n90 t90 (by intro x hx; rcases List.mem_cons.1 hx with rfl | hx; exact pure_iDs _; obtain rfl := List.mem_singleton.1 hx; exact pure_encR r) (by rfl) ?_
  have h150 := c150 r (by have := h.h; omega)
  have h151 := c151 r (by have := h.g; have := h.b; omega)
  have hl := h.h; have hgl : r.guard.length + r.body.length ≤ 12 := by have := h.g; have := h.b; omega
  have hg := h.g; have hb := h.b
  have n1 := hn.hs; have n2 := hn.gs
  have hfor := hn.for
  rw [← List.length_append] at hl hgl
  have h153 := e153 r h
  have h154 := e154 ds hd r h
  obtain ⟨b89, h89⟩ := e89 r.name hn.n
  rw [encR_eq] at h150 h151 h153 h154 ⊢
  generalize hhs : r.keep ++ r.remove = hs at h150 hl n1 hfor
  generalize hgs : r.guard ++ r.body = gs at h151 hgl n2 hfor
  obtain ⟨rn, rk, rr, rg, rb, rv⟩ := r
  simp only at *
  simp [fir90, SE.den, cellOk]
  refine ⟨_, h150, ?_⟩
  simp
  refine ⟨_, h151, ?_⟩
  simp
  by_cases z0 : hs = []
  · left; exact z0
  right; refine ⟨z0, ?_⟩
  right; refine ⟨by omega, ?_⟩
  right; refine ⟨by omega, ?_⟩
  right; refine ⟨by omega, ?_⟩
  unfold fir90v2
  refine sat_loop2 hs.length (fun i (_ : Unit) => [iI i]) (fun i _ => ∀ a ∈ hs.take i, ∀ t ∈ a.ts, FormT t) () ?_ (by simp) fun i _ hi hI => ?_
  · simp [SE.den]
  by_cases hlt : i < hs.length
  · have hw := wrapi hlt (by omega)
    obtain ⟨b, hf, hb⟩ := e49 hs[i] (n1 _ (List.getElem_mem hlt))
    simp [SE.den, hlt, hw, iy_A hlt, cellOk]
    refine ⟨_, hb, ?_⟩
    cases b <;> simp
    exact .mk () rfl (by omega) (take_step hlt hI (hf rfl).2)
  have hA := take_all hlt hI
  simp [SE.den, hlt, cellOk]
  unfold fir90v1
  refine sat_loop2 gs.length (fun i (_ : Unit) => [iI i]) (fun i _ => ∀ a ∈ gs.take i, (a.op ≠ 0 → arityG a.op = a.ts.length) ∧ ∀ t ∈ a.ts, FormT t) () ?_ (by simp) fun i1 _ hi1 hI1 => ?_
  · simp [SE.den]
  by_cases hlt1 : i1 < gs.length
  · have hw := wrapi hlt1 (by omega)
    obtain ⟨b, hf, hb⟩ := e152 gs[i1] (n2 _ (List.getElem_mem hlt1))
    simp [SE.den, hlt1, hw, ix_G hlt1, cellOk]
    refine ⟨_, hb, ?_⟩
    cases b <;> simp
    exact .mk () rfl (by omega) (take_step hlt1 hI1 (hf rfl))
  have hF : FoR ⟨rn, rk, rr, rg, rb, rv⟩ := hfor hA (take_all hlt1 hI1)
  obtain ⟨v, kv, h153⟩ := h153 hF
  obtain ⟨n154, h154⟩ := h154 hF
  have hvl := kv.len
  simp [SE.den, hlt1, cellOk]
  refine ⟨_, h153, ?_⟩
  simp
  unfold fir90v0
  refine sat_loop2 v.length (fun i (_ : Unit) => [iI i]) (fun i _ => True) () ?_ trivial fun i0 _ hi0 _ => ?_
  · simp [SE.den]
  by_cases hlt0 : i0 < v.length
  · have hw := wrapi hlt0 (by omega)
    simp [SE.den, hlt0, hw, ix_L hlt0, cellOk]
    by_cases he : v[i0] = i0
    · right; exact ⟨he, .mk () rfl (by omega) trivial⟩
    · left; exact he
  simp [SE.den, hlt0, cellOk]
  by_cases hv : rv = v.length
  rotate_left
  · left; exact hv
  right; refine ⟨hv, ?_⟩
  by_cases hnm : rn = []
  · right
    refine ⟨hnm, _, h154, ?_⟩
    simp; exact fun _ => hF
  · left
    refine ⟨hnm, _, h89, ?_⟩
    cases b89 <;> simp
    refine ⟨_, h154, ?_⟩
    simp; exact fun _ => hF
end Go.Proofs.YtggffkaadeagbaaGreat
