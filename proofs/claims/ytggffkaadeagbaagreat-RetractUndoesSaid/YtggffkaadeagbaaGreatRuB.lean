/- Terms, constraints, facts and memories ts plain values; contracts. -/
import Derived.Test.YtggffkaadeagbaaGreatRuF
set_option linter.all false
namespace Go.Proofs.YtggffkaadeagbaaGreat
open Go Go.Ev
inductive Tm where
  | mk (k n : Int) (s : List UInt8) (ts : List Tm)
mutual
def encT : Tm → IV
  | .mk k n s ts => .agg [iI k, iI n, iS s, .tree 4 (encTs ts)]
def encTs : List Tm → List IV
  | [] => []
  | t :: ts => encT t :: encTs ts
end
theorem encTs_map : ∀ l : List Tm, encTs l = l.map encT
  | [] => rfl
  | t :: l => by simp [encTs, encTs_map l]
structure At where
  s : List UInt8
  ts : List Tm
structure Fa where
  id : Int
  a : At
  j : List Int
structure Ap where
  rule : Int
  heads : List Int
  gone : List Int
  made : List Int
  failed : Bool
  just : List Int
structure Me where
  facts : List Fa
  past : List Fa
  log : List Ap
  next : Int
  given : Int
abbrev iT (l : List Tm) : IV := .tree 4 (l.map encT)
def encA (a : At) : IV := .agg [iS a.s, iT a.ts]
def encF (f : Fa) : IV := .agg [iI f.id, iS f.a.s, iT f.a.ts, iL f.j]
def encP (x : Ap) : IV := .agg [iI x.rule, iL x.heads, iL x.gone, iL x.made, iB x.failed, iL x.just]
abbrev iFs (l : List Fa) : IV := .tree 4 (l.map encF)
abbrev iAs (l : List At) : IV := .tree 2 (l.map encA)
abbrev iPs (l : List Ap) : IV := .tree 6 (l.map encP)
def encM (m : Me) : IV := .agg [iFs m.facts, iFs m.past, iPs m.log, iI m.next, iI m.given]
theorem encT_mk (k n : Int) (s : List UInt8) (ts : List Tm) : encT (.mk k n s ts) = .agg [iI k, iI n, iS s, iT ts] := by simp [encT, encTs_map]

@[simp] theorem pure_raw (v : Value) : Pure (.raw v) := .raw v
@[simp] theorem pure_iL (l : List Int) : Pure (iL l) := by
  refine .tree 1 _ fun e he c hc => ?_
  obtain ⟨x, _, rfl⟩ := List.mem_map.1 he
  simp [cellsOf] at hc
  subst hc; exact .raw _
theorem pure_encT : ∀ t : Tm, Pure (encT t)
  | .mk k n s ts => by
    rw [encT_mk]
    refine .agg _ fun c hc => ?_
    simp at hc
    rcases hc with rfl | rfl | rfl | rfl
    · exact .raw _
    · exact .raw _
    · exact .raw _
    · refine .tree 4 _ fun e he c hc => ?_
      obtain ⟨x, hx, rfl⟩ := List.mem_map.1 he
      have := pure_encT x
      obtain ⟨k', n', s', ts'⟩ := x
      rw [encT_mk] at this hc
      cases this with
      | agg _ h => exact h c hc
  decreasing_by simp_wf; have := List.sizeOf_lt_of_mem hx; omega
theorem pure_tree {α : Type} (s : Nat) (enc : α → IV) (h : ∀ a, ∃ cs, enc a = .agg cs ∧ ∀ c ∈ cs, Pure c) (l : List α) : Pure (.tree s (l.map enc)) := by
  refine .tree s _ fun e he c hc => ?_
  obtain ⟨x, _, rfl⟩ := List.mem_map.1 he
  obtain ⟨cs, h1, h2⟩ := h x
  rw [h1] at hc
  exact h2 c hc
@[simp] theorem pure_iT (l : List Tm) : Pure (iT l) := pure_tree 4 encT (fun t => by
  have := pure_encT t
  obtain ⟨k', n', s', ts'⟩ := t
  rw [encT_mk] at this ⊢
  cases this with
  | agg _ h => exact ⟨_, rfl, h⟩) l
theorem pure_encA (a : At) : Pure (encA a) := .agg _ (by simp)
theorem pure_encF (a : Fa) : Pure (encF a) := .agg _ (by simp)
theorem pure_encP (a : Ap) : Pure (encP a) := .agg _ (by simp)
@[simp] theorem pure_iFs (l : List Fa) : Pure (iFs l) := pure_tree 4 encF (fun a => ⟨_, rfl, by simp⟩) l
@[simp] theorem pure_iAs (l : List At) : Pure (iAs l) := pure_tree 2 encA (fun a => ⟨_, rfl, by simp⟩) l
@[simp] theorem pure_iPs (l : List Ap) : Pure (iPs l) := pure_tree 6 encP (fun a => ⟨_, rfl, by simp⟩) l
theorem pure_encM (m : Me) : Pure (encM m) := .agg _ (by simp)

/-- The contracts. -/
def CC : Cr := fun f new xs z => PCall Tryz.prog false new f xs z ∧ Pure z ∧ tupOk Tryz.prog f z = true
theorem ccOk : CrOk Tryz.prog CC := fun _ _ _ _ h => h
theorem mixed : Tryz.prog.follows .mixedOrders = true := by kernel_rfl
theorem CC.of {n : Nat} {new : Bool} {f : FuncId} {fir : FIR} {args : List IV} {z : IV} {cfg : Cfg} (he : execFn Tryz.prog cfg n new f = fir) (hl : (Tryz.prog.funcs[f]?).map (·.params.size) = some args.length) (ht : tupOk Tryz.prog f z = true) (hp : ∀ x ∈ args, Pure x) (hz : Pure z)
    (hs : fir.sat Tryz.prog CC (· = z) [] args) : CC f new args z := ⟨PCall.ofFIR mixed ccOk he hl hp hs, hz, ht⟩
theorem und4 : Tryz.prog.underlying 4 = some .bool := by kernel_rfl
@[simp] theorem b_eql4 (a b : Bool) : denBin Tryz.prog .eql 4 (iB a) (iB b) = some (iB (a == b)) := b_eql _ _ und4 a b
@[simp] theorem b_neq4 (a b : Bool) : denBin Tryz.prog .neq 4 (iB a) (iB b) = some (iB (!(a == b))) := b_neq _ _ und4 a b

/-- Lists that are not too long for an index. -/
abbrev Sm {α : Type} (l : List α) : Prop := l.length ≤ 9223372036854775807
theorem wrapi {i : Nat} {n : Nat} (h : i < n) (hn : n ≤ 9223372036854775807) : IntKind.i64.wrap ((i : Int) + 1) = ((i + 1 : Nat) : Int) := by
  rw [wrap_in (by omega) (by omega)]; rfl
@[simp] theorem idx_iL {l : List Int} {i : Nat} {x : Int} (h : l[i]? = some x) : denIdx 1 (iL l) (iI (i : Nat)) = some (iI x) := denIdx_nat (by simp [h]) rfl
end Go.Proofs.YtggffkaadeagbaaGreat
