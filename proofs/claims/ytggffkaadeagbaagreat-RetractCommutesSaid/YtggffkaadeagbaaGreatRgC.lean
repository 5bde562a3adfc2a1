/- A part of the proof, no condition: the checks of the reference come to an end, constraints, goals, variables. -/
import Derived.Test.YtggffkaadeagbaaGreatRgA
import Derived.Test.YtggffkaadeagbaaGreatRuH
set_option linter.all false
namespace Go.Proofs.YtggffkaadeagbaaGreat
open Go Go.Ev
structure Gl where
  op : Int
  s : List UInt8
  ts : List Tm
structure Rl where
  name : List UInt8
  keep : List At
  remove : List At
  guard : List Gl
  body : List Gl
  vars : Int
structure De where
  s : List UInt8
  n : Int
structure Pg where
  decls : List De
  rules : List Rl
def encG (g : Gl) : IV := .agg [iI g.op, iS g.s, iT g.ts]
abbrev iGs (l : List Gl) : IV := .tree 3 (l.map encG)
def encR (r : Rl) : IV := .agg [iS r.name, iAs r.keep, iAs r.remove, iGs r.guard, iGs r.body, iI r.vars]
abbrev iRs (l : List Rl) : IV := .tree 6 (l.map encR)
def encD (d : De) : IV := .agg [iS d.s, iI d.n]
abbrev iDs (l : List De) : IV := .tree 2 (l.map encD)
def encPg (p : Pg) : IV := .agg [iDs p.decls, iRs p.rules]
theorem pure_encG (a : Gl) : Pure (encG a) := .agg _ (by simp)
@[simp] theorem pure_iGs (l : List Gl) : Pure (iGs l) := pure_tree 3 encG (fun a => ⟨_, rfl, by simp⟩) l
theorem pure_encR (a : Rl) : Pure (encR a) := .agg _ (by simp)
@[simp] theorem pure_iRs (l : List Rl) : Pure (iRs l) := pure_tree 6 encR (fun a => ⟨_, rfl, by simp⟩) l
@[simp] theorem pure_iDs (l : List De) : Pure (iDs l) := pure_tree 2 encD (fun a => ⟨_, rfl, by simp⟩) l
theorem pure_encPg (a : Pg) : Pure (encPg a) := .agg _ (by simp)
def NmA (a : At) : Prop := Sm a.s ∧ Sm a.ts ∧ ∀ t ∈ a.ts, NmT t
def NmG (a : Gl) : Prop := Sm a.s ∧ Sm a.ts ∧ ∀ t ∈ a.ts, NmT t
theorem n163 : (Tryz.prog.funcs[163]?).map (·.params.size) = some 1 := by kernel_rfl
theorem t163 (z : IV) : tupOk Tryz.prog 163 z = true := by kernel_rfl
theorem e163 (t : Tm) (h : NmT t) : ∃ b, (b = true → FormT t) ∧ CC 163 false [encT t] (iB b) := by
  refine CC.boolP _ ex163 n163 t163 (by simpa using pure_encT t) (by rfl) ?_
  obtain ⟨b1, hf, h1⟩ := e213 t h
  have h2 := c158 t h.wf
  obtain ⟨b3, h3⟩ := e214 t h.wf
  rw [encT_eq] at h1 h2 h3 ⊢
  simp [fir163, SE.den, cellOk]
  refine ⟨_, h1, ?_⟩
  cases b1 <;> simp
  have hf := hf rfl
  refine ⟨_, h2, ?_⟩
  simp
  by_cases hs : sizeT t ≤ 200
  · left; exact ⟨hs, _, h3, by simp [hf]⟩
  · right; omega
theorem n107 : (Tryz.prog.funcs[107]?).map (·.params.size) = some 1 := by kernel_rfl
theorem t107 (z : IV) : tupOk Tryz.prog 107 z = true := by kernel_rfl
theorem e107 (l : List Tm) (hl : Sm l) (h : ∀ t ∈ l, NmT t) : ∃ b, (b = true → ∀ t ∈ l, FormT t) ∧ CC 107 false [iT l] (iB b) := by
  refine CC.boolP _ ex107 n107 t107 (by simp) (by rfl) ?_
  simp [fir107, fir107v0, SE.den, cellOk]
  refine sat_loop l.length (fun i (a : Int) => [iI i, iI a]) (fun i _ => ∀ u ∈ l.take i, FormT u) 0 ?_ ?_ fun i a hi hI => ?_
  · simp [SE.den]
  · simp
  by_cases hlt : i < l.length
  · have hw := wrapi hlt hl
    have hm := List.getElem_mem hlt
    obtain ⟨b, hf, hb⟩ := e163 l[i] (h _ hm)
    have h2 := c158 l[i] (h _ hm).wf
    rw [encT_eq] at hb h2
    simp [SE.den, hlt, hw, ix_T hlt, encT_eq, cellOk]
    refine ⟨_, hb, ?_⟩
    cases b <;> simp
    refine ⟨_, h2, ?_⟩
    simp [hw]
    exact ⟨by omega, take_step hlt hI (hf rfl)⟩
  · have := take_all hlt hI
    simp [SE.den, hlt]
    intro _; exact this
theorem n49 : (Tryz.prog.funcs[49]?).map (·.params.size) = some 1 := by kernel_rfl
theorem t49 (z : IV) : tupOk Tryz.prog 49 z = true := by kernel_rfl
theorem e49 (a : At) (h : NmA a) : ∃ b, (b = true → a.ts.length ≤ 6 ∧ ∀ t ∈ a.ts, FormT t) ∧ CC 49 false [.agg [iS a.s, iT a.ts]] (iB b) := by
  refine CC.boolP _ ex49 n49 t49 (by intro x hx; obtain rfl := List.mem_singleton.1 hx; exact pure_encA a) (by rfl) ?_
  obtain ⟨b1, h1⟩ := e89 a.s h.1
  obtain ⟨b2, hf, h2⟩ := e107 a.ts h.2.1 h.2.2
  simp [fir49, SE.den, cellOk]
  refine ⟨_, h1, ?_⟩
  cases b1 <;> simp
  by_cases hs : (a.ts.length : Int) ≤ 6
  · left; exact ⟨hs, _, h2, by simp; exact fun hb => ⟨by omega, hf hb⟩⟩
  · right; omega
def arityG (op : Int) : Int := if op = 1 ∨ op = 2 then 0 else if op = 11 ∨ op = 12 then 1 else if 2 < op ∧ op < 11 then 2 else -1
theorem n199 : (Tryz.prog.funcs[199]?).map (·.params.size) = some 1 := by kernel_rfl
theorem t199 (z : IV) : tupOk Tryz.prog 199 z = true := by kernel_rfl
theorem c199 (op : Int) : CC 199 false [iI op] (iI (arityG op)) := by
  refine CC.of ex199 n199 (t199 _) (by simp) (by simp) ?_
  simp [fir199, SE.den, arityG]
  grind
theorem n152 : (Tryz.prog.funcs[152]?).map (·.params.size) = some 1 := by kernel_rfl
theorem t152 (z : IV) : tupOk Tryz.prog 152 z = true := by kernel_rfl
theorem e152 (g : Gl) (h : NmG g) : ∃ b, (b = true → (g.op ≠ 0 → arityG g.op = g.ts.length) ∧ ∀ t ∈ g.ts, FormT t) ∧ CC 152 false [.agg [iI g.op, iS g.s, iT g.ts]] (iB b) := by
  refine CC.boolP _ ex152 n152 t152 (by intro x hx; obtain rfl := List.mem_singleton.1 hx; exact pure_encG g) (by rfl) ?_
  obtain ⟨b1, hf1, h1⟩ := e49 ⟨g.s, g.ts⟩ h
  obtain ⟨b2, hf2, h2⟩ := e107 g.ts h.2.1 h.2.2
  have h3 := c199 g.op
  simp [fir152, SE.den, cellOk]
  by_cases k0 : g.op = 0
  · left; exact ⟨k0, _, h1, by simp [k0]; exact fun hb => (hf1 hb).2⟩
  right
  refine ⟨k0, ?_⟩
  by_cases ks : g.s = []
  · left
    refine ⟨ks, _, h3, ?_⟩
    simp
    by_cases ka : arityG g.op = g.ts.length
    · left; exact ⟨ka, _, h2, by simp [ka]; exact hf2⟩
    · right; exact ka
  · right; exact ks
end Go.Proofs.YtggffkaadeagbaaGreat
namespace Go.Proofs.YtggffkaadeagbaaGreat
open Go Go.Ev
theorem ix_D {l : List De} {i : Nat} (h : i < l.length) : denIdx 2 (iDs l) (iI (i : Nat)) = some (.agg [iS l[i].s, iI l[i].n]) := denIdx_nat (by simp [h, encD]) rfl
theorem ix_G {l : List Gl} {i : Nat} (h : i < l.length) : denIdx 3 (iGs l) (iI (i : Nat)) = some (.agg [iI l[i].op, iS l[i].s, iT l[i].ts]) := denIdx_nat (by simp [h, encG]) rfl
theorem n51 : (Tryz.prog.funcs[51]?).map (·.params.size) = some 3 := by kernel_rfl
theorem t51 (z : IV) : tupOk Tryz.prog 51 z = true := by kernel_rfl
theorem e51 (l : List De) (s : List UInt8) (n : Int) (hl : Sm l) : ∃ b, CC 51 false [iDs l, iS s, iI n] (iB b) := by
  refine CC.bool ex51 n51 t51 (by simp) (by rfl) ?_
  simp [fir51, fir51v0, SE.den, cellOk]
  refine sat_loop l.length (fun i (_ : Unit) => [iI i]) (fun _ _ => True) () ?_ ?_ fun i _ hi _ => ?_
  · simp [SE.den]
  · trivial
  by_cases hlt : i < l.length
  · have hw := wrapi hlt hl
    simp [SE.den, hlt, hw, ix_D hlt, cellOk]
    by_cases h1 : l[i].s = s
    · simp [h1]; omega
    · simp [h1]; omega
  · simp [SE.den, hlt]
theorem n200 : (Tryz.prog.funcs[200]?).map (·.params.size) = some 3 := by kernel_rfl
theorem t200 (z : IV) : tupOk Tryz.prog 200 z = true := by kernel_rfl
theorem e200 (l : List De) (s : List UInt8) (n : Int) (hl : Sm l) : ∃ b, CC 200 false [iDs l, iS s, iI n] (iI b) := by
  refine CC.int ex200 n200 t200 (by simp) (by rfl) ?_
  simp [fir200, fir200v0, SE.den, cellOk]
  refine sat_loop l.length (fun i (a : Int) => [iI i, iI a]) (fun _ _ => True) 7 ?_ ?_ fun i a hi _ => ?_
  · simp [SE.den]
  · trivial
  by_cases hlt : i < l.length
  · have hw := wrapi hlt hl
    simp [SE.den, hlt, hw, ix_D hlt, cellOk]
    by_cases h1 : l[i].s = s
    · simp [h1]; omega
    · simp [h1]; omega
  · obtain ⟨b, hb⟩ := e51 l s n hl
    simp [SE.den, hlt]
    refine ⟨_, hb, ?_⟩
    cases b <;> simp
theorem n201 : (Tryz.prog.funcs[201]?).map (·.params.size) = some 2 := by kernel_rfl
theorem t201 (z : IV) : tupOk Tryz.prog 201 z = true := by kernel_rfl
theorem e201 (l : List De) (g : List Gl) (hl : Sm l) (hg : Sm g) : ∃ b, CC 201 false [iDs l, iGs g] (iI b) := by
  refine CC.int ex201 n201 t201 (by simp) (by rfl) ?_
  simp [fir201, fir201v0, SE.den, cellOk]
  refine sat_loop g.length (fun i (_ : Unit) => [iI i]) (fun _ _ => True) () ?_ ?_ fun i a hi _ => ?_
  · simp [SE.den]
  · trivial
  by_cases hlt : i < g.length
  · have hw := wrapi hlt hg
    obtain ⟨b, hb⟩ := e200 l g[i].s g[i].ts.length hl
    simp [SE.den, hlt, hw, ix_G hlt, cellOk]
    by_cases h1 : g[i].op = 0
    · right
      refine ⟨h1, _, hb, ?_⟩
      simp [hw]
      omega
    · left; exact ⟨h1, by omega⟩
  · simp [SE.den, hlt]
theorem n202 : (Tryz.prog.funcs[202]?).map (·.params.size) = some 1 := by kernel_rfl
theorem t202 (z : IV) : tupOk Tryz.prog 202 z = true := by kernel_rfl
theorem e202 (n : Int) : ∃ b, CC 202 false [iI n] (iB b) := by
  refine CC.bool ex202 n202 t202 (by simp) (by rfl) ?_
  simp [fir202, SE.den, cellOk]
  omega
theorem n204 : (Tryz.prog.funcs[204]?).map (·.params.size) = some 2 := by kernel_rfl
theorem t204 (z : IV) : tupOk Tryz.prog 204 z = true := by kernel_rfl
theorem e204 (l : List Int) (n : Int) (hl : Sm l) : ∃ b, CC 204 false [iL l, iI n] (iB b) := by
  refine CC.bool ex204 n204 t204 (by simp) (by rfl) ?_
  simp [fir204, fir204v0, SE.den, cellOk]
  refine sat_loop l.length (fun i (_ : Unit) => [iI i]) (fun _ _ => True) () ?_ ?_ fun i _ hi _ => ?_
  · simp [SE.den]
  · trivial
  by_cases hlt : i < l.length
  · have hw := wrapi hlt hl
    simp [SE.den, hlt, hw]
    omega
  · simp [SE.den, hlt]
end Go.Proofs.YtggffkaadeagbaaGreat
namespace Go.Proofs.YtggffkaadeagbaaGreat
open Go Go.Ev
def Vr (l : List Int) : Prop := l.Nodup ∧ ∀ x ∈ l, 0 ≤ x ∧ x ≤ 1048576
theorem len_le : ∀ (N : Nat) (l : List Int), l.Nodup → (∀ x ∈ l, 0 ≤ x ∧ x < N) → l.length ≤ N
  | 0, [], _, _ => by simp
  | 0, x :: l, _, h => by have := h x (by simp); omega
  | N + 1, l, hn, h => by
    have ih := len_le N (l.erase (N : Int)) (hn.erase _) fun x hx => by
      have h1 := h x (List.mem_of_mem_erase hx)
      have h2 : x ≠ (N : Int) := fun he => by rw [hn.mem_erase_iff] at hx; exact hx.1 he
      omega
    rw [List.length_erase] at ih
    split at ih <;> omega
theorem Vr.len {l : List Int} (h : Vr l) : l.length ≤ 1048577 := len_le 1048577 l h.1 fun x hx => by have := h.2 x hx; omega
theorem Vr.nil : Vr [] := ⟨by simp, by simp⟩
theorem Vr.snoc {l : List Int} {n : Int} (h : Vr l) (h1 : n ∉ l) (h2 : 0 ≤ n ∧ n ≤ 1048576) : Vr (l ++ [n]) := by
  refine ⟨?_, fun x hx => ?_⟩
  · rw [List.nodup_append]
    exact ⟨h.1, by simp, fun a ha b hb => by simp at hb; subst hb; exact fun he => h1 (he ▸ ha)⟩
  · rcases List.mem_append.1 hx with hx | hx
    · exact h.2 x hx
    · simp at hx; subst hx; exact h2
theorem psize : Tryz.prog.funcs.size = 356 := by kernel_rfl
def isLP (p : List Int → Prop) (z : IV) : Prop := ∃ l : List Int, z = iL l ∧ p l
theorem iL_inj {a b : List Int} (h : iL a = iL b) : a = b := by
  injection h with _ h2
  exact (List.map_inj_right (fun x y hh => by injection hh with hh; injection hh)).1 h2
@[simp] theorem isLP_iL (p : List Int → Prop) (l : List Int) : isLP p (iL l) ↔ p l := ⟨fun ⟨b', h1, h2⟩ => by rw [iL_inj h1]; exact h2, fun h => ⟨l, rfl, h⟩⟩
theorem CC.totRow {n : Nat} {new : Bool} {f : FuncId} {fir : FIR} {cfg : Cfg} {l : List Int} {xs : List IV} (p : List Int → Prop) (he : execRow Tryz.prog cfg n 1 f = fir) (hl : (Tryz.prog.funcs[f]?).map (·.params.size) = some (xs.length + 1)) (hn : noTwo fir = true)
    (hs : fir.sat Tryz.prog CC (isLP p) [] (iL l :: xs)) : ∃ l', p l' ∧ CC (356 + f) new (iL l :: xs) (iL l') := by
  obtain ⟨z, ⟨l', rfl, hp⟩, h2⟩ := sat_some hn hs
  refine ⟨l', hp, ?_⟩
  rw [← psize]
  exact CC.ofRow he hl h2
theorem n155 : (Tryz.prog.funcs[155]?).map (·.params.size) = some 2 := by kernel_rfl
theorem rws_iL (l : List Int) : (l.map iI).all (fun e => (cellsOf e).all isRaw1) = true := by
  rw [List.all_eq_true]
  intro e he
  obtain ⟨x, _, rfl⟩ := List.mem_map.1 he
  rfl
theorem f155 (t : Tm) (hts : Sm t.ts) (ht : FormT t) (ih : ∀ u ∈ t.ts, FormT u → ∀ l : List Int, Vr l → ∃ l' : List Int, Vr l' ∧ CC 511 true [iL l, encT u] (iL l')) (l : List Int) (hl : Vr l) :
    ∃ l' : List Int, Vr l' ∧ CC 511 true [iL l, encT t] (iL l') := by
  refine CC.totRow (f := 155) Vr ex155 n155 (by rfl) ?_
  have h206 := c206 t
  have hln := hl.len
  have hal : (argsT t).length ≤ 9223372036854775807 := by unfold argsT; split <;> simp [hts]
  have iha : ∀ u ∈ argsT t, ∀ l : List Int, Vr l → ∃ l' : List Int, Vr l' ∧ CC 511 true [iL l, encT u] (iL l') := fun u hu => ih u (argsT_mem hu) (form_args ht hu)
  rw [encT_eq] at h206 ⊢
  have l4 : fir155v4.sat Tryz.prog CC (isLP Vr) [] [iL l, .agg [iI t.k, iI t.n, iS t.s, iT t.ts], iT (argsT t)] := by
    unfold fir155v4
    refine sat_loop2 (argsT t).length (fun i (a : List Int) => [iI i, iL a]) (fun i a => Vr a) l ?_ ?_ fun i a hi hI => ?_
    · simp [SE.den]
    · exact hl
    by_cases hlt : i < (argsT t).length
    · have hw := wrapi hlt hal
      obtain ⟨l', k1, hb⟩ := iha (argsT t)[i] (List.getElem_mem hlt) a hI
      rw [encT_eq] at hb
      simp [SE.den, hlt, hw, ix_T hlt, encT_eq, cellOk, isRaw1, cellsOf]
      exact ⟨_, hb, l', by simp, by omega, k1⟩
    · simp [SE.den, hlt]
      exact ⟨_, ⟨by simp [cellsOf, isRaw1], rfl⟩, by rw [isLP_iL]; exact hI⟩
  have l2 : ∀ x : IV, fir155v2.sat Tryz.prog CC (isLP Vr) [] [iL l, .agg [iI t.k, iI t.n, iS t.s, iT t.ts], x, iT (argsT t)] := by
    intro x
    unfold fir155v2
    refine sat_loop2 (argsT t).length (fun i (a : List Int) => [iI i, iL a]) (fun i a => Vr a) l ?_ ?_ fun i a hi hI => ?_
    · simp [SE.den]
    · exact hl
    by_cases hlt : i < (argsT t).length
    · have hw := wrapi hlt hal
      obtain ⟨l', k1, hb⟩ := iha (argsT t)[i] (List.getElem_mem hlt) a hI
      rw [encT_eq] at hb
      simp [SE.den, hlt, hw, ix_T hlt, encT_eq, cellOk, isRaw1, cellsOf]
      exact ⟨_, hb, l', by simp, by omega, k1⟩
    · simp [SE.den, hlt]
      exact ⟨_, ⟨by simp [cellsOf, isRaw1], rfl⟩, by rw [isLP_iL]; exact hI⟩
  have l1 : ∀ (x : IV) (m : List Int), Vr m → fir155v1.sat Tryz.prog CC (isLP Vr) [] [iL l, .agg [iI t.k, iI t.n, iS t.s, iT t.ts], x, iL m, iT (argsT t)] := by
    intro x m hm
    unfold fir155v1
    refine sat_loop2 (argsT t).length (fun i (a : List Int) => [iI i, iL a]) (fun i a => Vr a) m ?_ ?_ fun i a hi hI => ?_
    · simp [SE.den]
    · exact hm
    by_cases hlt : i < (argsT t).length
    · have hw := wrapi hlt hal
      obtain ⟨l', k1, hb⟩ := iha (argsT t)[i] (List.getElem_mem hlt) a hI
      rw [encT_eq] at hb
      simp [SE.den, hlt, hw, ix_T hlt, encT_eq, cellOk, isRaw1, cellsOf]
      exact ⟨_, hb, l', by simp, by omega, k1⟩
    · simp [SE.den, hlt]
      exact ⟨_, ⟨by simp [cellsOf, isRaw1], rfl⟩, by rw [isLP_iL]; exact hI⟩
  have l0 : fir155v0.sat Tryz.prog CC (isLP Vr) [Meet fun vs => ∃ b : Bool, vs = [iB b] ∧ (b = false → t.n ∉ l)] [iL l, .agg [iI t.k, iI t.n, iS t.s, iT t.ts]] := by
    unfold fir155v0
    refine sat_loop l.length (fun i (_ : Unit) => [iI i]) (fun i _ => ∀ x ∈ l.take i, x ≠ t.n) () ?_ ?_ fun i _ hi hI => ?_
    · simp [SE.den]
    · simp
    by_cases hlt : i < l.length
    · have hw := wrapi hlt (by omega)
      simp [SE.den, hlt, hw, cellsOf, Meet]
      by_cases he : l[i] = t.n
      · left; exact he
      · right; exact ⟨he, by omega, take_step hlt hI he⟩
    · have := take_all hlt hI
      simp [SE.den, hlt, Meet]
      exact fun h => this _ h rfl
  simp [fir155, SE.den, cellOk]
  by_cases k1 : t.k = 1
  · left
    refine ⟨k1, ?_⟩
    unfold fir155v3
    refine sat_blk2 (fun vs => ∃ b : Bool, vs = [iB b] ∧ (b = false → t.n ∉ l)) l0 ?_
    rintro vs ⟨b, rfl, hb⟩
    refine ⟨rfl, ?_⟩
    simp [SE.den, cellOk, isRaw1, cellsOf]
    cases b with
    | true => right; exact ⟨rfl, _, h206, by simp, l2 _⟩
    | false =>
      left
      refine ⟨rfl, iL (l ++ [t.n]), ?_, _, h206, by simp, l1 _ _ (hl.snoc (hb rfl) (((formT_iff t).1 ht).1 k1))⟩
      simp [denCat, elemsOk, cellsOf]
      exact ⟨rfl, by omega, by omega⟩
  · right
    exact ⟨k1, _, h206, by simp, l4⟩
theorem e155 : ∀ t : Tm, WfT t → FormT t → ∀ l : List Int, Vr l → ∃ l' : List Int, Vr l' ∧ CC 511 true [iL l, encT t] (iL l')
  | .mk k n s ts, h, hf => f155 _ ((wfT_iff _).1 h).1 hf fun u hu => e155 u (((wfT_iff _).1 h).2 u hu)
  decreasing_by simp [Tm.ts] at hu; have := List.sizeOf_lt_of_mem hu; simp; omega
end Go.Proofs.YtggffkaadeagbaaGreat
namespace Go.Proofs.YtggffkaadeagbaaGreat
open Go Go.Ev
theorem CC.totL {n : Nat} {new : Bool} {f : FuncId} {fir : FIR} {cfg : Cfg} {args : List IV} (p : List Int → Prop) (he : execFn Tryz.prog cfg n new f = fir) (hl : (Tryz.prog.funcs[f]?).map (·.params.size) = some args.length) (ht : ∀ z, tupOk Tryz.prog f z = true) (hp : ∀ x ∈ args, Pure x) (hn : noTwo fir = true)
    (hs : fir.sat Tryz.prog CC (isLP p) [] args) : ∃ l', p l' ∧ CC f new args (iL l') := by
  obtain ⟨z, ⟨l', rfl, hb⟩, h2⟩ := CC.tot he hl (fun z _ => ht z) hp (by rintro _ ⟨b, rfl, _⟩; exact pure_iL b) hn hs
  exact ⟨l', hb, h2⟩
theorem n108 : (Tryz.prog.funcs[108]?).map (·.params.size) = some 1 := by kernel_rfl
theorem t108 (z : IV) : tupOk Tryz.prog 108 z = true := by kernel_rfl
theorem s108 {Q : IV → Prop} (ts : List Tm) (hts : Sm ts) (hw : ∀ t ∈ ts, WfT t ∧ FormT t) (hQ : ∀ l, Vr l → Q (iL l)) : fir108.sat Tryz.prog CC Q [] [iT ts] := by
  simp [fir108, fir108v0, SE.den, cellOk]
  refine sat_loop2 ts.length (fun i (a : List Int) => [iI i, iL a]) (fun i a => Vr a) [] ?_ Vr.nil fun i a hi hI => ?_
  · simp [SE.den]
  by_cases hlt : i < ts.length
  · have hwr := wrapi hlt hts
    obtain ⟨l', k1, hb⟩ := e155 ts[i] (hw _ (List.getElem_mem hlt)).1 (hw _ (List.getElem_mem hlt)).2 a hI
    rw [encT_eq] at hb
    simp [SE.den, hlt, hwr, ix_T hlt, encT_eq, cellOk, isRaw1, cellsOf]
    exact ⟨_, hb, l', by simp, by omega, k1⟩
  · simp [SE.den, hlt]
    exact hQ _ hI
theorem e108 (ts : List Tm) (hts : Sm ts) (hw : ∀ t ∈ ts, WfT t ∧ FormT t) : ∃ l', Vr l' ∧ CC 108 false [iT ts] (iL l') :=
  CC.totL Vr ex108 n108 t108 (by simp) (by rfl) (s108 ts hts hw fun l hl => by rw [isLP_iL]; exact hl)
theorem n93 : (Tryz.prog.funcs[93]?).map (·.params.size) = some 1 := by kernel_rfl
theorem t93 (z : IV) : tupOk Tryz.prog 93 z = true := by kernel_rfl
theorem e93 (g : Gl) (hts : Sm g.ts) (hw : ∀ t ∈ g.ts, WfT t ∧ FormT t) : ∃ l', Vr l' ∧ CC 93 false [.agg [iI g.op, iS g.s, iT g.ts]] (iL l') := by
  refine CC.totL Vr ex93 n93 t93 (by intro x hx; obtain rfl := List.mem_singleton.1 hx; exact pure_encG g) (by rfl) ?_
  obtain ⟨l', k1, hb⟩ := e108 g.ts hts hw
  simp [fir93, SE.den, cellOk]
  exact ⟨_, hb, by simpa using k1⟩
theorem n50 : (Tryz.prog.funcs[50]?).map (·.params.size) = some 1 := by kernel_rfl
theorem t50 (z : IV) : tupOk Tryz.prog 50 z = true := by kernel_rfl
theorem e50 (g : At) (hts : Sm g.ts) (hw : ∀ t ∈ g.ts, WfT t ∧ FormT t) : ∃ l', Vr l' ∧ CC 50 false [.agg [iS g.s, iT g.ts]] (iL l') := by
  refine CC.totL Vr ex50 n50 t50 (by intro x hx; obtain rfl := List.mem_singleton.1 hx; exact pure_encA g) (by rfl) ?_
  obtain ⟨l', k1, hb⟩ := e108 g.ts hts hw
  simp [fir50, SE.den, cellOk]
  exact ⟨_, hb, by simpa using k1⟩
theorem ex108n : execFn Tryz.prog cfg108 400 true 108 = fir108 := by kernel_rfl
end Go.Proofs.YtggffkaadeagbaaGreat
namespace Go.Proofs.YtggffkaadeagbaaGreat
open Go Go.Ev
theorem cat_G {a b : List Gl} (h : a.length + b.length ≤ 1000) : denCat 3 48 (iGs a) (iGs b) = some (iGs (a ++ b)) := by
  have h2 := elemsOk_of (s := 3) (enc := encG) (fun x => ⟨_, rfl, rfl, rfl⟩) b
  simp [denCat, h2]
  omega
theorem n150 : (Tryz.prog.funcs[150]?).map (·.params.size) = some 1 := by kernel_rfl
theorem t150 (z : IV) : tupOk Tryz.prog 150 z = true := by kernel_rfl
theorem n91 : (Tryz.prog.funcs[91]?).map (·.params.size) = some 1 := by kernel_rfl
theorem t91 (z : IV) : tupOk Tryz.prog 91 z = true := by kernel_rfl
theorem n151 : (Tryz.prog.funcs[151]?).map (·.params.size) = some 1 := by kernel_rfl
theorem t151 (z : IV) : tupOk Tryz.prog 151 z = true := by kernel_rfl
theorem encR_eq (r : Rl) : encR r = .agg [iS r.name, iAs r.keep, iAs r.remove, iGs r.guard, iGs r.body, iI r.vars] := rfl
theorem c150 (r : Rl) (h : r.keep.length + r.remove.length ≤ 1000) : CC 150 false [encR r] (iAs (r.keep ++ r.remove)) := by
  refine CC.of ex150 n150 (t150 _) (by simpa using pure_encR r) (by simp) ?_
  have h1 := cat_A (a := []) (b := r.keep) (by simp; omega)
  have h2 := cat_A h
  simp only [List.nil_append, List.map_nil] at h1
  rw [encR_eq]
  simp [fir150, SE.den, cellOk]
  exact ⟨_, h1, h2⟩
theorem c91 (r : Rl) (h : r.keep.length + r.remove.length ≤ 1000) : CC 91 false [encR r] (iAs (r.keep ++ r.remove)) := by
  refine CC.of ex91 n91 (t91 _) (by simpa using pure_encR r) (by simp) ?_
  have h1 := cat_A (a := []) (b := r.keep) (by simp; omega)
  have h2 := cat_A h
  simp only [List.nil_append, List.map_nil] at h1
  rw [encR_eq]
  simp [fir91, SE.den, cellOk]
  exact ⟨_, h1, h2⟩
theorem c151 (r : Rl) (h : r.guard.length + r.body.length ≤ 1000) : CC 151 false [encR r] (iGs (r.guard ++ r.body)) := by
  refine CC.of ex151 n151 (t151 _) (by simpa using pure_encR r) (by simp) ?_
  have h1 := cat_G (a := []) (b := r.guard) (by simp; omega)
  have h2 := cat_G h
  simp only [List.nil_append, List.map_nil] at h1
  rw [encR_eq]
  simp [fir151, SE.den, cellOk]
  exact ⟨_, h1, h2⟩
end Go.Proofs.YtggffkaadeagbaaGreat
